/- SpreadC: the rooms of homes: the two counts come to one. -/
import Derived.Test.YtgcliajajcinpaaPx7
import Derived.Test.YtgcliajajcinpaaSpreadB
namespace Go.Proofs.Ytgcliajajcinpaa.Spread
open Go.RowKit Go.Proofs.Ytgcliajajcinpaa.P Go.Proofs.YtgcliajajcinpaaW.PrintWords Go.Proofs.YtgcliajajcinpaaW.PrintLast Go.Proofs.YtgcliajajcinpaaW.PrintMore
open Go.Proofs.Ytgcliajajcinpaa.Pl Go.Proofs.Ytgcliajajcinpaa.Base Go.Proofs.Ytgcliajajcinpaa.Places Go.Proofs.Ytgcliajajcinpaa.EvN
set_option linter.unusedSimpArgs false
set_option linter.unusedVariables false

/-- Homes without the one that is gone. -/
def many (n : Nat) (g : Int) : Int := if g ≥ 0 then (n : Int) - 1 else n
/-- Who is gone: nobody, or one of two or more homes. -/
def goneOk (n : Nat) (g : Int) : Prop := g = -1 ∨ (0 ≤ g ∧ g < (n : Int) ∧ 2 ≤ n)
theorem many_pos {n : Nat} {g : Int} (hn : 1 ≤ n) (hg : goneOk n g) : 0 < many n g := by
  unfold many goneOk at *
  split <;> omega
theorem many_hs {n : Nat} {g : Int} (hg : goneOk n g) : ((hs g n).length : Int) = many n g := by
  rw [hs_length]
  unfold many goneOk at *
  split <;> split <;> omega
/-- The rooms of homes, as items l stand. -/
def rooms (n : Nat) (g : Int) (len : Nat) (L : List Int) : List Int :=
  tab n (roomAt g ((len : Int) / many n g) (sorted L (hs g n)) ((len : Int) % many n g).toNat)

theorem ahead_total {L : List Int} {a b : Int} (h : ahead L a b) (h2 : ahead L b a) : False := by
  unfold ahead at *
  omega
/-- In what stands sorted, the next one is ahead of all that are left. -/
theorem next_ahead {L o : List Int} (ho : o.Pairwise (ahead L)) {i : Nat} (hi : i < o.length) (h : Int) (hm : h ∈ o) (hn : h ∉ o.take i) : h = o[i] ∨ ahead L o[i] h := by
  obtain ⟨j, hj, rfl⟩ := List.getElem_of_mem hm
  by_cases c : j < i
  · exact absurd (by rw [List.mem_take_iff_getElem]; exact ⟨j, by omega, rfl⟩) hn
  · by_cases c2 : j = i
    · left; simp [c2]
    · right
      rw [List.pairwise_iff_getElem] at ho
      exact ho i j hi hj (by omega)
theorem take_next {o : List Int} (ho : o.Nodup) {i : Nat} (hi : i < o.length) : o[i] ∉ o.take i := by
  intro h
  rw [List.mem_take_iff_getElem] at h
  obtain ⟨j, hj, e⟩ := h
  have := (List.getElem_inj ho).1 e
  omega
theorem take_succ_mem {o : List Int} {i : Nat} (hi : i < o.length) (h : Int) : h ∈ o.take (i + 1) ↔ h ∈ o.take i ∨ h = o[i] := by
  rw [List.take_succ_eq_append_getElem hi, List.mem_append, List.mem_singleton]

section
variable {n : Nat} {g : Int} {l L : List Int}
theorem spec_rooms_l1 (hn : 1 ≤ n ∧ n ≤ 6) (hg : goneOk n g) (hL : L.length = n) (hl : l.length ≤ 16) :
    ∀ d i : Nat, i + d = ((l.length : Int) % many n g).toNat →
    Cm (fun k => spec_l13Rooms.l1 k l g L (many n g) (tab n (roomAt g ((l.length : Int) / many n g) (sorted L (hs g n)) i)) (d : Int)) (rooms n g l.length L) := by
  have hm := many_pos hn.1 hg
  have hmn : many n g ≤ (n : Int) := by unfold many; split <;> omega
  have hb0 : 0 ≤ (l.length : Int) / many n g ∧ (l.length : Int) / many n g ≤ 16 := by
    refine ⟨Int.ediv_nonneg (by omega) (by omega), ?_⟩
    have := Int.ediv_le_self (many n g) (show (0 : Int) ≤ (l.length : Int) by omega)
    omega
  have hr := Int.emod_lt_of_pos (l.length : Int) hm
  have hr0 := Int.emod_nonneg (l.length : Int) (show many n g ≠ 0 by omega)
  have ho := sorted_sorted L (hs g n) (hs_lt g n)
  have hp := sorted_perm L (hs g n)
  have hol : ((sorted L (hs g n)).length : Int) = many n g := by rw [hp.length_eq]; exact many_hs hg
  have hnd : (sorted L (hs g n)).Nodup := by
    rw [hp.nodup_iff]
    exact (hs_lt g n).imp (by intro a b h; omega)
  generalize hb : (l.length : Int) / many n g = base at *
  generalize hoo : sorted L (hs g n) = o at *
  have hmem : ∀ h, h ∈ o ↔ (0 ≤ h ∧ h < (n : Int)) ∧ h ≠ g := by
    intro h
    rw [hp.mem_iff, mem_hs]
    constructor
    · rintro ⟨a, b, c⟩; exact ⟨⟨a, b⟩, c⟩
    · rintro ⟨⟨a, b⟩, c⟩; exact ⟨a, b, c⟩
  intro d
  induction d with
  | zero =>
    intro i hi
    refine cm_last (fun k => ?_)
    rw [spec_l13Rooms.l1, if_neg (by omega)]
    unfold rooms
    rw [hb, hoo, ← hi]
    rfl
  | succ d ih =>
    intro i hi
    have hio : i < o.length := by omega
    have hc : (0 ≤ o[i] ∧ o[i] < (n : Int)) ∧ o[i] ≠ g := (hmem _).1 (List.getElem_mem hio)
    obtain ⟨c, hcc⟩ : ∃ c : Nat, (c : Int) = o[i] := ⟨o[i].toNat, by omega⟩
    have hcn : c < n := by omega
    have hrc : roomAt g base o i o[i] = base := by
      unfold roomAt
      rw [if_neg (take_next hnd hio), if_neg hc.2]
    refine cm_step (g := fun k => spec_l13Rooms.l2 k l g L (many n g) (tab n (roomAt g base o i)) ((d + 1 : Nat) : Int) (-1) (n : Int) ((0 : Nat) : Int)) (fun k => ?_) ?_
    · rw [spec_l13Rooms.l1, if_pos (by omega), tab_length]
      rfl
    · refine rooms_l2 (c := o[i]) hn.2 hm hL hl hb.symm _ (tab_length _ _) _ _ ⟨hc.1, hc.2, ?_⟩ ?_ ?_ n 0 (-1) (by omega) (.inl ⟨rfl, fun h h0 h1 => by omega⟩)
      · rw [← hcc, rd_tab n _ c hcn, hcc]; exact hrc
      · rintro h ⟨h0, h1, h2⟩
        obtain ⟨m, rfl⟩ : ∃ m : Nat, (m : Int) = h := ⟨h.toNat, by omega⟩
        rw [rd_tab n _ m (by omega)] at h2
        refine next_ahead ho hio _ ((hmem _).2 ⟨h0, h1⟩) ?_
        intro ht
        unfold roomAt at h2
        rw [if_pos ht] at h2
        omega
      · have e1 : wrap64 (((d + 1 : Nat) : Int) - 1) = (d : Int) := by rw [wrap_in (by omega) (by omega)]; omega
        have e2 : rd (tab n (roomAt g base o i)) o[i] = base := by rw [← hcc, rd_tab n _ c hcn, hcc]; exact hrc
        rw [e1, e2, wrap_in (by omega) (by omega)]
        have e3 : (tab n (roomAt g base o i)).set (o[i]).toNat (base + 1) = tab n (roomAt g base o (i + 1)) := by
          rw [← hcc]
          refine tab_set n _ _ c _ hcn ?_ ?_
          · unfold roomAt
            rw [if_pos]
            rw [take_succ_mem hio]
            right; exact hcc
          · intro j hj hne
            unfold roomAt
            have : (j : Int) ∈ o.take (i + 1) ↔ (j : Int) ∈ o.take i := by
              rw [take_succ_mem hio]
              constructor
              · rintro (h | h)
                · exact h
                · omega
              · exact .inl
            simp only [this]
        rw [e3]
        exact ih (i + 1) (by omega)
theorem spec_rooms_f (hn : 1 ≤ n ∧ n ≤ 6) (hg : goneOk n g) (hgood : good (n : Int) l = true) :
    Cm (fun k => spec_l13Rooms.f k (n : Int) l g) (rooms n g l.length (loads (n : Int) l)) := by
  have hl : l.length ≤ 16 := (good_iff.1 hgood).2.2
  have hm := many_pos hn.1 hg
  have hr0 := Int.emod_nonneg (l.length : Int) (show many n g ≠ 0 by omega)
  have hL : (loads (n : Int) l).length = n := by rw [loads_length]; simp
  have h1 := spec_rooms_l1 (L := loads (n : Int) l) hn hg hL hl ((l.length : Int) % many n g).toNat 0 (by omega)
  have e0 : tab n (roomAt g ((l.length : Int) / many n g) (sorted (loads (n : Int) l) (hs g n)) 0) = tab n (roomAt g ((l.length : Int) / many n g) [] 0) := by
    congr 1
  have e1 : ((((l.length : Int) % many n g).toNat : Nat) : Int) = (l.length : Int) % many n g := by omega
  rw [e0, e1] at h1
  have h2 := rooms_l0 hn.2 hm hl rfl _ h1 n 0 (by omega)
  have e2 : tab n (fun h => if h < ((0 : Nat) : Int) then roomAt g ((l.length : Int) / many n g) [] 0 h else 0) = List.replicate n 0 := by
    rw [tab_zero]
    apply ext_rd
    · simp [tab_length]
    · intro i hi
      have hi' : i < n := by simpa [tab_length] using hi
      rw [rd_tab _ _ _ hi', rd_tab _ _ _ hi', if_neg (by omega)]
  rw [e2] at h2
  have h3 : Cm (fun k => spec_l13Rooms.j0 k (n : Int) l g (loads (n : Int) l) (many n g)) (rooms n g l.length (loads (n : Int) l)) := by
    refine cm_step (fun k => ?_) h2
    rw [spec_l13Rooms.j0, if_pos (by omega), if_pos (by omega)]
    simp
  unfold spec_l13Rooms.f
  refine cm_bind (cm_of_some (d := l.length) (fun k hk => spec_loads_f (n : Int) l hgood k hk)) ?_
  by_cases c : g ≥ 0
  · refine cm_yes c ?_
    have : wrap64 ((n : Int) - 1) = many n g := by unfold many; rw [if_pos c, wrap_in (by omega) (by omega)]
    rw [this]
    exact h3
  · refine cm_no c ?_
    have : (n : Int) = many n g := by unfold many; rw [if_neg c]
    have h4 := h3
    rw [← this] at h4
    exact h4
end
end Go.Proofs.Ytgcliajajcinpaa.Spread
