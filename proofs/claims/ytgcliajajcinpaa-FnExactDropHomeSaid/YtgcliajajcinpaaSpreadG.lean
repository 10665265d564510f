/- SpreadG: the two spreads come to one list, and what that list is. -/
import Derived.Test.YtgcliajajcinpaaPx4
import Derived.Test.YtgcliajajcinpaaPx6
import Derived.Test.YtgcliajajcinpaaPx7
import Derived.Test.YtgcliajajcinpaaSpreadF
namespace Go.Proofs.Ytgcliajajcinpaa.Spread
open Go.RowKit Go.Proofs.Ytgcliajajcinpaa.P Go.Proofs.YtgcliajajcinpaaW.PrintWords Go.Proofs.YtgcliajajcinpaaW.PrintLast Go.Proofs.YtgcliajajcinpaaW.PrintMore
open Go.Proofs.Ytgcliajajcinpaa.Pl Go.Proofs.Ytgcliajajcinpaa.Base Go.Proofs.Ytgcliajajcinpaa.Places Go.Proofs.Ytgcliajajcinpaa.EvN
set_option linter.unusedSimpArgs false
set_option linter.unusedVariables false

theorem empt_none {g h : Int} (hg : g < 0) : empt g h = h := by
  unfold empt
  rw [if_neg (by omega)]
theorem empt_bound {n : Nat} {g : Int} {l : List Int} (hl : ∀ h ∈ l, -1 ≤ h ∧ h < (n : Int)) : ∀ h ∈ l.map (empt g), -1 ≤ h ∧ h < (n : Int) := by
  intro h hh
  rw [List.mem_map] at hh
  obtain ⟨a, ha, rfl⟩ := hh
  have := hl a ha
  unfold empt
  split <;> omega
theorem good_empt {n : Nat} {g : Int} {l : List Int} (h : good (n : Int) l = true) : good (n : Int) (l.map (empt g)) = true := by
  rw [good_iff] at h ⊢
  exact ⟨empt_bound h.1, h.2.1, by simpa using h.2.2⟩
theorem count_empt {g : Int} {l : List Int} {j : Int} (hj : 0 ≤ j) (hne : j ≠ g) : List.count j (l.map (empt g)) = List.count j l := by
  induction l with
  | nil => rfl
  | cons a t ih =>
    rw [List.map_cons, cnt_cons, cnt_cons, ih]
    unfold empt
    by_cases c : a ≥ 0 ∧ a = g
    · rw [if_pos c, if_neg (by omega), if_neg (by omega)]
    · rw [if_neg c]
theorem count_gone {g : Int} {l : List Int} (hg : 0 ≤ g) : List.count g (l.map (empt g)) = 0 := by
  rw [List.count_eq_zero]
  intro h
  rw [List.mem_map] at h
  obtain ⟨a, _, h2⟩ := h
  unfold empt at h2
  split at h2 <;> omega
theorem ins_congr {L L' : List Int} {x : Int} : ∀ {s : List Int}, rd L x = rd L' x → (∀ p ∈ s, rd L p = rd L' p) → ins L x s = ins L' x s
  | [], _, _ => rfl
  | p :: t, hx, hs => by
    rw [ins, ins, hx, hs p (by simp), ins_congr hx (fun q hq => hs q (by simp [hq]))]
theorem insAll_congr {L L' : List Int} : ∀ {t s : List Int}, (∀ p ∈ t, rd L p = rd L' p) → (∀ p ∈ s, rd L p = rd L' p) → insAll L s t = insAll L' s t
  | [], _, _, _ => rfl
  | x :: t, s, ht, hs => by
    rw [insAll, insAll, ins_congr (ht x (by simp)) hs]
    refine insAll_congr (fun p hp => ht p (by simp [hp])) ?_
    intro p hp
    rw [(ins_perm L' x s).mem_iff, List.mem_cons] at hp
    rcases hp with rfl | hp
    · exact ht _ (by simp)
    · exact hs p hp
theorem rooms_congr {n : Nat} {g : Int} {len : Nat} {L L' : List Int} (h : ∀ j : Int, 0 ≤ j → j < (n : Int) → j ≠ g → rd L j = rd L' j) : rooms n g len L = rooms n g len L' := by
  unfold rooms sorted
  rw [insAll_congr (L := L) (L' := L') (fun p hp => by
    rw [mem_hs] at hp
    exact h p hp.1 hp.2.1 hp.2.2) (by simp)]
theorem spec_l0 {n : Nat} {g : Int} (m : List Int) (hm16 : m.length ≤ 16) (v : List Int) : ∀ (rest pre : List Int), pre ++ rest = m →
    Cm (fun k => spec_l13Spread.l0 k (n : Int) g (m.map (empt g)) (m.length : Int) (m.length : Int)) v →
    Cm (fun k => spec_l13Spread.l0 k (n : Int) g (pre.map (empt g) ++ rest) (m.length : Int) (pre.length : Int)) v
  | [], pre, e, hv => by
    have : pre = m := by simpa using e
    subst this
    simpa using hv
  | h :: t, pre, e, hv => by
    have hlt := len_mid e
    have h1 := spec_l0 m hm16 v t (pre ++ [h]) (app_mid e) hv
    rw [len_one] at h1
    have e2 : (pre ++ [h]).map (empt g) ++ t = pre.map (empt g) ++ empt g h :: t := by simp
    rw [e2] at h1
    have e3 : (pre.length : Int) = ((pre.map (empt g)).length : Int) := by simp
    have e4 : rd (pre.map (empt g) ++ h :: t) (pre.length : Int) = h := by rw [e3]; exact rd_mid _ _ _
    refine cm_step (fun k => ?_) h1
    rw [spec_l13Spread.l0, if_pos (by omega), if_pos (by omega), if_pos (by simp; omega), e4, wrap_len hlt (by omega)]
    by_cases c : h ≥ 0
    · by_cases c2 : h = g
      · rw [if_pos c, if_pos c2]
        have : empt g h = -1 := by unfold empt; rw [if_pos ⟨c, c2⟩]
        rw [this]
        congr 1
        have : ((pre.length : Nat) : Int).toNat = (pre.map (empt g)).length := by simp
        rw [this]
        simp
      · rw [if_pos c, if_neg c2]
        have : empt g h = h := by unfold empt; rw [if_neg (fun x => c2 x.2)]
        rw [this]
    · rw [if_neg c]
      have : empt g h = h := by unfold empt; rw [if_neg (fun x => c x.1)]
      rw [this]
/-- THE SPREAD: one list, as both count it; everyone is at a home that is there, as many at each as it has room for, and who had not to leave is where they were. -/
theorem spread_one {n : Nat} {g : Int} {l : List Int} (hg : goneOk n g) (hgood : good (n : Int) l = true) :
    ∃ v o, Cm (fun k => spec_l13Spread.f k (n : Int) l g) v ∧ Cm (fun k => impl_spread.f k (n : Int) l g) v ∧ v.length = l.length ∧ (∀ h ∈ v, 0 ≤ h ∧ h < (n : Int)) ∧
      (∀ j : Nat, j < n → ((List.count (j : Int) v : Nat) : Int) = rd (rooms n g l.length (loads (n : Int) l)) (j : Int)) ∧
      o = (leave (rooms n g l.length (loads (n : Int) l)) l.reverse [] (loads (n : Int) l)).1 ∧ (∀ i : Nat, i < l.length → rd o (i : Int) ≥ 0 → rd v (i : Int) = rd o (i : Int)) := by
  obtain ⟨hlb, hn', hl16⟩ := good_iff.1 hgood
  have hn : 1 ≤ n ∧ n ≤ 6 := by omega
  have hmg := good_empt (g := g) hgood
  have hmb := (good_iff.1 hmg).1
  have hml : (l.map (empt g)).length = l.length := by simp
  have hLm : (loads (n : Int) (l.map (empt g))).length = n := by rw [loads_length]; simp
  have hLl : (loads (n : Int) l).length = n := by rw [loads_length]; simp
  have hcm := loads_sum n (l.map (empt g)) hmb
  have hcl := loads_sum n l hlb
  have hrr : rooms n g l.length (loads (n : Int) l) = rooms n g l.length (loads (n : Int) (l.map (empt g))) := by
    refine rooms_congr (fun j h0 h1 h2 => ?_)
    obtain ⟨i, rfl⟩ : ∃ i : Nat, (i : Int) = j := ⟨j.toNat, by omega⟩
    rw [hcl.2 i (by omega), hcm.2 i (by omega), count_empt h0 h2]
  have hlv : leave (rooms n g l.length (loads (n : Int) l)) l.reverse [] (loads (n : Int) l) = leave (rooms n g l.length (loads (n : Int) l)) (l.map (empt g)).reverse [] (loads (n : Int) (l.map (empt g))) := by
    rcases hg with h1 | h1
    · have : l.map (empt g) = l := by
        have h2 : ∀ x ∈ l, empt g x = x := fun x _ => empt_none (by omega)
        rw [List.map_congr_left h2]
        simp
      rw [this]
    · have h3 : (l.map (empt g)).reverse = l.reverse.map (empt g) := by simp
      obtain ⟨i, hi⟩ : ∃ i : Nat, (i : Int) = g := ⟨g.toNat, by omega⟩
      rw [h3]
      refine leave_rel ⟨h1.1, h1.2.1⟩ _ (rooms_gone _ _ ⟨h1.1, h1.2.1⟩) _ _ _ _ hLl hLm (fun x hx => hlb x (by simpa using hx)) ?_ ?_ ?_
      · intro j h0 hne
        by_cases c : j < (n : Int)
        · obtain ⟨i, rfl⟩ : ∃ i : Nat, (i : Int) = j := ⟨j.toNat, by omega⟩
          rw [hcl.2 i (by omega), hcm.2 i (by omega), count_empt h0 hne]
        · unfold rd
          rw [List.getD_eq_getElem?_getD, List.getD_eq_getElem?_getD, List.getElem?_eq_none (by omega), List.getElem?_eq_none (by omega)]
      · rw [← hi, hcl.2 i (by omega)]; simp
      · have h5 := hcm.2 i (by omega)
        rw [hi, count_gone h1.1] at h5
        exact h5
  generalize hR : rooms n g l.length (loads (n : Int) l) = R at *
  have hRl : R.length = n := by rw [← hR]; exact rooms_length _ _ _ _
  have hRs : R.sum = l.length := by rw [← hR]; exact rooms_sum hn.1 hg _ _
  have hRn : ∀ j : Nat, j < n → 0 ≤ rd R (j : Int) := by
    intro j hj
    rw [← hR]
    exact rooms_nonneg hn.1 hg _ _ j hj
  have hinv := leave_inv (n := n) R (l.map (empt g)).reverse [] (loads (n : Int) (l.map (empt g))) hLm (fun x hx => hmb x (by rw [List.mem_reverse] at hx; exact hx)) (by simp) (by
    intro j hj
    rw [hcm.2 j hj, List.count_reverse]; simp) (by
    intro j hj
    have := hRn j hj
    simpa using this) (by
    rw [hcm.1]
    unfold held
    rw [List.countP_reverse]; simp)
  have hll := leave_length R (l.map (empt g)).reverse [] (loads (n : Int) (l.map (empt g)))
  generalize ho : leave R (l.map (empt g)).reverse [] (loads (n : Int) (l.map (empt g))) = oL at *
  have hRb : ∀ j, 0 ≤ rd R j ∧ rd R j ≤ 1000 := by
    intro j
    have h0 : ∀ x ∈ R, 0 ≤ x ∧ x ≤ 16 := by
      intro x hx
      obtain ⟨i, hi, rfl⟩ := List.getElem_of_mem hx
      have h1 := hRn i (by omega)
      rw [rd_get _ _ hi] at h1
      refine ⟨h1, ?_⟩
      have h2 := sum_set R i 0 hi
      rw [rd_get _ _ hi] at h2
      have h3 : 0 ≤ (R.set i 0).sum := by
        have h4 := (sum_le (List.replicate n 0) (R.set i 0) (by simp; omega) (fun j hj => by
          have hj' : j < n := by simpa using hj
          rw [rd_set _ _ _ hi _ (by omega), rd_get _ _ hj]
          simp only [List.getElem_replicate]
          split
          · omega
          · exact hRn j hj')).1
        have h5 : (List.replicate n (0 : Int)).sum = 0 := by simp
        omega
      omega
    have := rd_le (m := 16) (by omega) h0 j
    omega
  obtain ⟨v, hv, hvl, hvb, hvc, hvk⟩ := spec_fill hn.2 R hRl hRb l.length hl16 hRs oL.1 [] oL.2 (by simp at hll ⊢; exact hll.1) (by simp) hinv.1 (by rw [hll.2]; exact hLm) (by simpa using hinv.2.1) hinv.2.2.1 (by simpa using hinv.2.2.2)
  have hLmb : ∀ i, 0 ≤ rd (loads (n : Int) (l.map (empt g))) i ∧ rd (loads (n : Int) (l.map (empt g))) i ≤ 16 := by
    intro i
    have h1 := rd_le (m := ((l.map (empt g)).length : Int)) (by omega) (loads_le (n : Int) (l.map (empt g))) i
    omega
  have hLlb : ∀ i, 0 ≤ rd (loads (n : Int) l) i ∧ rd (loads (n : Int) l) i ≤ 16 := by
    intro i
    have h1 := rd_le (m := (l.length : Int)) (by omega) (loads_le (n : Int) l) i
    omega
  have hlen1 : (oL.1.length : Int) = (l.length : Int) := by have := hll.1; simp at this; omega
  have hvA : Cm (fun k => spec_l13Spread.l2 k oL.1 R oL.2 (oL.1.length : Int) 0) v := by rw [hlen1]; simpa using hv
  have hv1 : Cm (fun k => spec_l13Spread.l1 k (l.map (empt g)) R (loads (n : Int) (l.map (empt g))) (((l.map (empt g)).length : Int) - 1)) v := by
    have h1 := spec_leave hn.2 R hRl v (l.map (empt g)).reverse [] (loads (n : Int) (l.map (empt g))) (by simp; omega) (fun x hx => hmb x (by rw [List.mem_reverse] at hx; exact hx)) hLm (fun j => by
      have := hLmb j
      simp
      omega) (by rw [ho]; exact hvA)
    simpa using h1
  have hv2 : Cm (fun k => spec_l13Spread.l1 k l R (loads (n : Int) l) ((l.length : Int) - 1)) v := by
    have h1 := spec_leave hn.2 R hRl v l.reverse [] (loads (n : Int) l) (by simp; omega) (fun x hx => hlb x (by rw [List.mem_reverse] at hx; exact hx)) hLl (fun j => by
      have := hLlb j
      simp
      omega) (by rw [hlv]; exact hvA)
    simpa using h1
  have hw : wrap64 ((l.length : Int) - 1) = (l.length : Int) - 1 := wrap_in (by omega) (by omega)
  refine ⟨v, oL.1, ?_, ?_, hvl, hvb, hvc, ?_, ?_⟩
  · unfold spec_l13Spread.f
    simp only [Option.bind_some, List.nil_append, List.length_nil, Nat.zero_add]
    refine cm_yes (by omega) ?_
    refine spec_l0 l hl16 v l [] rfl ?_
    refine cm_step_bind (g := fun k t109 => (spec_l13Loads.f k (n : Int) (l.map (empt g))).bind fun t112 => spec_l13Spread.l1 k (l.map (empt g)) t109 t112 (wrap64 (((l.map (empt g)).length : Int) - 1))) (fun k => ?_) (spec_rooms_f hn hg hmg) ?_
    · rw [spec_l13Spread.l0, if_neg (by omega)]
    · refine cm_bind (cm_of_some (d := (l.map (empt g)).length) (fun k hk => spec_loads_f (n : Int) (l.map (empt g)) hmg k hk)) ?_
      rw [hml, hw]
      rw [hml] at hv1
      rw [← hrr]
      exact hv1
  · unfold impl_spread.f
    simp only [Option.bind_some, List.nil_append, List.length_nil, Nat.zero_add]
    refine cm_yes (by omega) ?_
    refine impl_l0 hn hg hgood v ?_ n 0 (by omega)
    rw [hR, hw]
    exact hv2
  · rw [hlv]
  · simpa using hvk
end Go.Proofs.Ytgcliajajcinpaa.Spread
