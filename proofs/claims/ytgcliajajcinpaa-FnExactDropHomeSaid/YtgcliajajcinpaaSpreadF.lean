/- SpreadF: the two spreads come to one list, and what that list is. -/
import Derived.Test.YtgcliajajcinpaaPx7
import Derived.Test.YtgcliajajcinpaaSpreadE
namespace Go.Proofs.Ytgcliajajcinpaa.Spread
open Go.RowKit Go.Proofs.Ytgcliajajcinpaa.P Go.Proofs.YtgcliajajcinpaaW.PrintWords Go.Proofs.YtgcliajajcinpaaW.PrintLast Go.Proofs.YtgcliajajcinpaaW.PrintMore
open Go.Proofs.Ytgcliajajcinpaa.Pl Go.Proofs.Ytgcliajajcinpaa.Base Go.Proofs.Ytgcliajajcinpaa.Places Go.Proofs.Ytgcliajajcinpaa.EvN
set_option linter.unusedSimpArgs false
set_option linter.unusedVariables false

theorem least {P : Nat → Prop} : ∀ m, (∃ s, s < m ∧ P s) → ∃ s, s < m ∧ P s ∧ ∀ i, i < s → ¬ P i
  | 0, h => by obtain ⟨s, h1, _⟩ := h; omega
  | m + 1, h => by
    by_cases c : ∃ s, s < m ∧ P s
    · obtain ⟨s, h1, h2, h3⟩ := least m c
      exact ⟨s, by omega, h2, h3⟩
    · obtain ⟨s, h1, h2⟩ := h
      have : s = m := by
        by_cases e : s = m
        · exact e
        · exact absurd ⟨s, by omega, h2⟩ c
      subst this
      exact ⟨s, by omega, h2, fun i hi hp => c ⟨i, hi, hp⟩⟩
theorem rd_cons_succ (a : Int) (t : List Int) (i : Nat) : rd (a :: t) ((i + 1 : Nat) : Int) = rd t (i : Int) := by
  unfold rd
  have h1 : (((i + 1 : Nat) : Int)).toNat = i + 1 := by omega
  have h2 : ((i : Nat) : Int).toNat = i := by omega
  rw [h1, h2]; simp
theorem rd_cons_zero (a : Int) (t : List Int) : rd (a :: t) ((0 : Nat) : Int) = a := by simp [rd]
theorem sum_le : ∀ (L R : List Int), L.length = R.length → (∀ j : Nat, j < L.length → rd L (j : Int) ≤ rd R (j : Int)) → L.sum ≤ R.sum ∧ (L.sum = R.sum → L = R)
  | [], [], _, _ => by simp
  | a :: t, b :: u, hl, h => by
    have h0 := h 0 (by simp)
    rw [rd_cons_zero, rd_cons_zero] at h0
    have ih := sum_le t u (by simpa using hl) (fun j hj => by
      have := h (j + 1) (by simpa using hj)
      rw [rd_cons_succ, rd_cons_succ] at this
      exact this)
    simp only [List.sum_cons]
    refine ⟨by omega, fun e => ?_⟩
    rw [ih.2 (by omega)]
    congr 1
    omega
theorem held_le (l : List Int) : held l ≤ l.length := List.countP_le_length
theorem held_app (l m : List Int) : held (l ++ m) = held l + held m := by unfold held; rw [List.countP_append]
theorem held_all {l : List Int} (h : ∀ x ∈ l, 0 ≤ x) : held l = l.length := by
  unfold held
  rw [List.countP_eq_length]
  intro a ha
  simpa using h a ha
theorem rd_app_left (l m : List Int) (i : Nat) (h : i < l.length) : rd (l ++ m) (i : Int) = rd l (i : Int) := by
  unfold rd
  simp [List.getElem?_append_left, h]
/-- Items go where there is room. -/
theorem spec_fill {n : Nat} (hn : n ≤ 6) (R : List Int) (hR : R.length = n) (hR2 : ∀ j, 0 ≤ rd R j ∧ rd R j ≤ 1000) (len : Nat) (hlen : len ≤ 16) (hRs : R.sum = len) :
    ∀ (todo done L : List Int), done.length + todo.length = len → (∀ h ∈ done, 0 ≤ h ∧ h < (n : Int)) → (∀ h ∈ todo, -1 ≤ h ∧ h < (n : Int)) → L.length = n →
    (∀ j : Nat, j < n → rd L (j : Int) = (List.count (j : Int) (done ++ todo) : Nat)) → (∀ j : Nat, j < n → rd L (j : Int) ≤ rd R (j : Int)) → L.sum = held (done ++ todo) →
    ∃ v, Cm (fun k => spec_l13Spread.l2 k (done ++ todo) R L (len : Int) (done.length : Int)) v ∧ v.length = len ∧ (∀ h ∈ v, 0 ≤ h ∧ h < (n : Int)) ∧ (∀ j : Nat, j < n → ((List.count (j : Int) v : Nat) : Int) = rd R (j : Int)) ∧
      (∀ i : Nat, i < len → rd (done ++ todo) (i : Int) ≥ 0 → rd v (i : Int) = rd (done ++ todo) (i : Int))
  | [], done, L, hd, hdd, _, hL, hc, hle, hs => by
    refine ⟨done, ?_, by simpa using hd, hdd, ?_, ?_⟩
    · refine cm_last (fun k => ?_)
      rw [spec_l13Spread.l2, if_neg (by simp at hd; omega)]
      simp
    · have h1 := sum_le L R (by omega) (fun j hj => hle j (by omega))
      have h2 : held (done ++ []) = len := by
        simp only [List.append_nil]
        rw [held_all (fun x hx => (hdd x hx).1)]
        simpa using hd
      have h3 := h1.2 (by rw [hs, hRs, h2])
      intro j hj
      rw [← h3, hc j hj]
      simp
    · intro i _ _
      simp
  | h :: t, done, L, hd, hdd, ht, hL, hc, hle, hs => by
    have hh := ht h (by simp)
    simp only [List.length_cons] at hd
    have e1 : (done ++ [h]) ++ t = done ++ h :: t := by simp
    by_cases c : h ≥ 0
    · obtain ⟨v, hv, hv2⟩ := spec_fill hn R hR hR2 len hlen hRs t (done ++ [h]) L (by simp; omega) (by
        intro x hx
        rw [List.mem_append, List.mem_singleton] at hx
        rcases hx with hx | rfl
        · exact hdd x hx
        · exact ⟨c, hh.2⟩) (fun x hx => ht x (by simp [hx])) hL (by rw [e1]; exact hc) hle (by rw [e1]; exact hs)
      rw [e1] at hv hv2
      refine ⟨v, ?_, hv2⟩
      refine cm_step (fun k => ?_) hv
      rw [spec_l13Spread.l2, if_pos (by omega), if_pos (by omega), if_pos (by simp; omega), rd_mid, if_pos c, len_one, wrap_len (m := 100) (by omega) (by omega)]
    · have hneg : h = -1 := by omega
      have hex : ∃ s, s < n ∧ rd L (s : Int) < rd R (s : Int) := by
        apply Classical.byContradiction
        intro hno
        have h1 := (sum_le R L (by omega) (fun j hj => by
          apply Classical.byContradiction
          intro hlt
          exact hno ⟨j, by omega, by omega⟩)).1
        have h2 : held (done ++ h :: t) < len := by
          rw [held_app, held_cons, if_neg c]
          have := held_le done
          have := held_le t
          omega
        omega
      obtain ⟨s, hs1, hs2, hs3⟩ := least n hex
      have hset : (done ++ h :: t).set done.length (s : Int) = done ++ (s : Int) :: t := by simp
      have e2 : (done ++ [(s : Int)]) ++ t = done ++ (s : Int) :: t := by simp
      have hcs := hc s hs1
      have hRb := hR2 (s : Int)
      obtain ⟨v, hv, hvl, hvb, hvc, hvk⟩ := spec_fill hn R hR hR2 len hlen hRs t (done ++ [(s : Int)]) (L.set s (rd L (s : Int) + 1)) (by simp; omega) (by
        intro x hx
        rw [List.mem_append, List.mem_singleton] at hx
        rcases hx with hx | rfl
        · exact hdd x hx
        · exact ⟨by omega, by omega⟩) (fun x hx => ht x (by simp [hx])) (by simpa using hL) (by
          intro j hj
          rw [e2, rd_set _ _ _ (by omega) _ (by omega)]
          have h0 := hc j hj
          rw [List.count_append, cnt_cons] at h0 ⊢
          by_cases ej : (j : Int) = (s : Int)
          · rw [if_pos ej, if_pos ej.symm]
            rw [if_neg (by omega)] at h0
            rw [ej] at h0
            rw [ej]
            omega
          · rw [if_neg ej, if_neg (fun x => ej x.symm)]
            rw [if_neg (by omega)] at h0
            omega) (by
          intro j hj
          rw [rd_set _ _ _ (by omega) _ (by omega)]
          by_cases ej : (j : Int) = (s : Int)
          · rw [if_pos ej, ej]; omega
          · rw [if_neg ej]; exact hle j hj) (by
          rw [sum_set _ _ _ (by omega), e2, hs, held_app, held_app, held_cons, held_cons, if_neg c, if_pos (by omega)]
          omega)
      rw [e2] at hv hvk
      refine ⟨v, ?_, hvl, hvb, hvc, ?_⟩
      · have hslot : ∀ d j : Nat, j + d = s → Cm (fun k => spec_l13Spread.l3 k (done ++ h :: t) R L (done.length : Int) (j : Int) (len : Int) (done.length : Int)) v := by
          intro d
          induction d with
          | zero =>
            intro j hj
            obtain rfl : j = s := by omega
            refine cm_step (fun k => ?_) hv
            rw [spec_l13Spread.l3, if_pos (by omega), if_pos (by omega), if_pos (by omega), if_neg (by omega), if_pos (by omega), if_pos (by simp; omega)]
            have a1 : ((done.length : Nat) : Int).toNat = done.length := by simp
            have a2 : ((j : Nat) : Int).toNat = j := by simp
            rw [a1, a2, hset, wrap_in (x := rd L (j : Int) + 1) (by omega) (by omega), len_one, wrap_len (m := 100) (by omega) (by omega)]
          | succ d ih =>
            intro j hj
            have h1 := ih (j + 1) (by omega)
            have h2 := hs3 j (by omega)
            refine cm_step (fun k => ?_) h1
            rw [spec_l13Spread.l3, if_pos (by omega), if_pos (by omega), if_pos (by omega), if_pos (by omega), wrap_len (m := 100) (by omega) (by omega)]
        refine cm_step (fun k => ?_) (hslot s 0 (by omega))
        rw [spec_l13Spread.l2, if_pos (by omega), if_pos (by omega), if_pos (by simp; omega), rd_mid, if_neg c]
        rfl
      · intro i hi hr
        by_cases ei : i = done.length
        · subst ei
          rw [rd_mid] at hr
          exact absurd hr c
        · have : rd (done ++ h :: t) (i : Int) = rd (done ++ (s : Int) :: t) (i : Int) := by
            rw [← hset, rd_set _ _ _ (by simp) _ (by omega), if_neg (by omega)]
          rw [this] at hr ⊢
          exact hvk i hi hr
/-- What holds of the places behind the leaving. -/
theorem leave_inv {n : Nat} (R : List Int) : ∀ (t suf L : List Int), L.length = n → (∀ h ∈ t, -1 ≤ h ∧ h < (n : Int)) → (∀ h ∈ suf, -1 ≤ h ∧ h < (n : Int)) →
    (∀ j : Nat, j < n → rd L (j : Int) = (List.count (j : Int) t : Nat) + (List.count (j : Int) suf : Nat)) → (∀ j : Nat, j < n → ((List.count (j : Int) suf : Nat) : Int) ≤ rd R (j : Int)) → L.sum = held t + held suf →
    (∀ h ∈ (leave R t suf L).1, -1 ≤ h ∧ h < (n : Int)) ∧ (∀ j : Nat, j < n → rd (leave R t suf L).2 (j : Int) = (List.count (j : Int) (leave R t suf L).1 : Nat)) ∧
      (∀ j : Nat, j < n → rd (leave R t suf L).2 (j : Int) ≤ rd R (j : Int)) ∧ (leave R t suf L).2.sum = held (leave R t suf L).1
  | [], suf, L, hL, _, hsb, hc, hle, hs => by
    simp only [leave]
    refine ⟨hsb, fun j hj => by have := hc j hj; simp at this; exact this, fun j hj => by have := hc j hj; simp at this; have := hle j hj; omega, by simp [held] at hs ⊢; exact hs⟩
  | h :: t, suf, L, hL, htb, hsb, hc, hle, hs => by
    have hh := htb h (by simp)
    have hneg : ∀ j : Nat, ¬ (-1 : Int) = (j : Int) := by intro j; omega
    unfold leave
    by_cases c : h ≥ 0 ∧ rd L h > rd R h
    · rw [if_pos c]
      refine leave_inv R t (-1 :: suf) (L.set h.toNat (rd L h - 1)) (by simpa using hL) (fun x hx => htb x (by simp [hx])) (by
        intro x hx
        rw [List.mem_cons] at hx
        rcases hx with rfl | hx
        · omega
        · exact hsb x hx) ?_ ?_ ?_
      · intro j hj
        have h0 := hc j hj
        rw [rd_set _ _ _ (by omega) _ (by omega)]
        rw [cnt_cons] at h0 ⊢
        rw [if_neg (hneg j)]
        have e2 : ((h.toNat : Nat) : Int) = h := by omega
        rw [e2]
        by_cases ej : (j : Int) = h
        · rw [if_pos ej.symm] at h0
          rw [if_pos ej, ← ej]
          omega
        · rw [if_neg (fun x => ej x.symm)] at h0
          rw [if_neg ej]
          omega
      · intro j hj
        rw [cnt_cons, if_neg (hneg j)]
        exact hle j hj
      · have e2 : ((h.toNat : Nat) : Int) = h := by omega
        rw [sum_set _ _ _ (by omega), e2, hs, held_cons, held_cons, if_pos c.1, if_neg (by omega)]
        omega
    · rw [if_neg c]
      refine leave_inv R t (h :: suf) L hL (fun x hx => htb x (by simp [hx])) (by
        intro x hx
        rw [List.mem_cons] at hx
        rcases hx with rfl | hx
        · exact hh
        · exact hsb x hx) ?_ ?_ ?_
      · intro j hj
        have h0 := hc j hj
        rw [cnt_cons] at h0 ⊢
        omega
      · intro j hj
        have h0 := hc j hj
        have h1 := hle j hj
        rw [cnt_cons] at h0 ⊢
        by_cases ej : h = (j : Int)
        · rw [if_pos ej] at h0 ⊢
          have : ¬ rd L h > rd R h := fun x => c ⟨by omega, x⟩
          rw [ej] at this
          omega
        · rw [if_neg ej]; omega
      · rw [hs, held_cons, held_cons]
        omega
/-- Who is at the home that is gone is at none. -/
def empt (g h : Int) : Int := if h ≥ 0 ∧ h = g then -1 else h
theorem leave_rel {n : Nat} {g : Int} (hg : 0 ≤ g ∧ g < (n : Int)) (R : List Int) (hRg : rd R g = 0) : ∀ (t suf L L' : List Int), L.length = n → L'.length = n → (∀ h ∈ t, -1 ≤ h ∧ h < (n : Int)) →
    (∀ j : Int, 0 ≤ j → j ≠ g → rd L j = rd L' j) → rd L g = (List.count g t : Nat) → rd L' g = 0 → leave R t suf L = leave R (t.map (empt g)) suf L'
  | [], suf, L, L', hL, hL', _, he, h1, h2 => by
    simp only [leave, List.map_nil]
    congr 1
    apply ext_rd (by omega)
    intro j hj
    by_cases e : (j : Int) = g
    · rw [e, h1, h2]; simp
    · exact he j (by omega) e
  | h :: t, suf, L, L', hL, hL', ht, he, h1, h2 => by
    have hh := ht h (by simp)
    simp only [List.map_cons, leave]
    rw [cnt_cons] at h1
    by_cases c : h = g
    · have e0 : empt g h = -1 := by unfold empt; rw [if_pos ⟨by omega, c⟩]
      rw [if_pos c] at h1
      rw [e0, if_pos ⟨by omega, by rw [c, h1, hRg]; omega⟩, if_neg (by omega)]
      refine leave_rel hg R hRg t (-1 :: suf) _ L' (by simpa using hL) hL' (fun x hx => ht x (by simp [hx])) ?_ ?_ h2
      · intro j hj hne
        rw [rd_set _ _ _ (by omega) _ hj, if_neg (by omega)]
        exact he j hj hne
      · rw [rd_set _ _ _ (by omega) _ hg.1, if_pos (by omega), c, h1]
        omega
    · have e0 : empt g h = h := by unfold empt; rw [if_neg (fun x => c x.2)]
      rw [if_neg c] at h1
      rw [e0]
      by_cases c0 : h ≥ 0
      · have e3 := he h c0 c
        rw [e3]
        by_cases c2 : rd L' h > rd R h
        · rw [if_pos ⟨c0, c2⟩, if_pos ⟨c0, c2⟩]
          refine leave_rel hg R hRg t (-1 :: suf) _ _ (by simpa using hL) (by simpa using hL') (fun x hx => ht x (by simp [hx])) ?_ ?_ ?_
          · intro j hj hne
            rw [rd_set _ _ _ (by omega) _ hj, rd_set _ _ _ (by omega) _ hj]
            split
            · rfl
            · exact he j hj hne
          · rw [rd_set _ _ _ (by omega) _ hg.1, if_neg (by omega), h1]; simp
          · rw [rd_set _ _ _ (by omega) _ hg.1, if_neg (by omega), h2]
        · rw [if_neg (fun x => c2 x.2), if_neg (fun x => c2 x.2)]
          exact leave_rel hg R hRg t (h :: suf) L L' hL hL' (fun x hx => ht x (by simp [hx])) he (by rw [h1]; simp) h2
      · rw [if_neg (fun x => c0 x.1), if_neg (fun x => c0 x.1)]
        exact leave_rel hg R hRg t (h :: suf) L L' hL hL' (fun x hx => ht x (by simp [hx])) he (by rw [h1]; simp) h2
end Go.Proofs.Ytgcliajajcinpaa.Spread
