/- HsL: the laws' own helpers for lists of lists of numbers. -/
import Derived.Test.YtgcliajajcinpaaPx28
import Derived.Test.YtgcliajajcinpaaHs
namespace Go.Proofs.Ytgcliajajcinpaa.Hs
open Go.RowKit Go.Proofs.Ytgcliajajcinpaa.P Go.Proofs.YtgcliajajcinpaaW.PrintWords Go.Proofs.YtgcliajajcinpaaW.PrintLast Go.Proofs.YtgcliajajcinpaaW.PrintMore
open Go.Proofs.Ytgcliajajcinpaa.Pl Go.Proofs.Ytgcliajajcinpaa.EvN Go.Proofs.Ytgcliajajcinpaa.Lp
set_option linter.unusedSimpArgs false
set_option linter.unusedVariables false

theorem rdL_at {pre t l : List (List Int)} {h : List Int} (e : pre ++ h :: t = l) : rd_L1 l (pre.length : Int) = h := getD_at e _
theorem toIntSS_f (l : List (List Int)) (h : l.length * 24 ≤ 140737488351232) (hs : ∀ x ∈ l, x.length * 8 ≤ 140737488351232) : Cm (fun k => laws_toIntSS.f k l) l := by
  unfold laws_toIntSS.f
  refine cm_yes (by omega) (cm_yes (by omega) ?_)
  have := map_cm (L := fun k i s => laws_toIntSS.l0 k l s i) l (fun x => x) [] ?_ ?_
  · simpa using this
  · intro pre x t acc e hlt ha u hu
    have hx := hs x (by rw [← e]; simp)
    refine cm_step (fun k => by rw [laws_toIntSS.l0]) ?_
    simp only [rdL_at e, wrap_len hlt (show l.length ≤ 4611686018427387904 by omega), Int.toNat_natCast]
    repeat (first | assumption | exact cm_now (fun _ => rfl) | refine cm_bind (toIntS_f _ hx) ?_ | refine cm_yes (by first | omega | assumption | (simp; done) | (simp; omega)) ?_ | refine cm_no (by first | omega | assumption | (simp; done) | (simp; omega)) ?_)
  · intro acc ha
    refine cm_step (fun k => by rw [laws_toIntSS.l0]) ?_
    repeat (first | assumption | exact cm_now (fun _ => rfl) | refine cm_yes (by first | omega | assumption | (simp; done) | (simp; omega)) ?_ | refine cm_no (by first | omega | assumption | (simp; done) | (simp; omega)) ?_)
theorem eqIntSS_same (l : List (List Int)) (h : l.length ≤ 4611686018427387904) (hs : ∀ x ∈ l, x.length ≤ 4611686018427387904) : Cm (fun k => laws_eqIntSS.f k l l) true := by
  unfold laws_eqIntSS.f
  refine cm_yes rfl ?_
  refine same_cm (L := fun k i => laws_eqIntSS.l0 k l l i) l ?_ ?_
  · intro pre x t e hlt v hv
    have hx := hs x (by rw [← e]; simp)
    refine cm_step (fun k => by rw [laws_eqIntSS.l0]) ?_
    simp only [rdL_at e, wrap_len hlt h]
    repeat (first | assumption | exact cm_now (fun _ => rfl) | refine cm_bind (eqIntS_same _ hx) ?_ | refine cm_yes (by first | omega | assumption | (simp; done) | (simp; omega) | exact rfl) ?_ | refine cm_no (by first | omega | assumption | (simp; done) | (simp; omega) | exact rfl) ?_)
  · refine cm_step (fun k => by rw [laws_eqIntSS.l0]) ?_
    repeat (first | assumption | exact cm_now (fun _ => rfl) | refine cm_yes (by first | omega | assumption | (simp; done) | (simp; omega)) ?_ | refine cm_no (by first | omega | assumption | (simp; done) | (simp; omega)) ?_)
theorem szIntSS_f (l : List (List Int)) (h : l.length ≤ 4611686018427387904) (m : Int) : ∃ v, Cm (fun k => laws_szIntSS.f k l m) v := by
  unfold laws_szIntSS.f
  by_cases c : wrap64 (m - (l.length : Int)) < 0
  · exact ⟨_, cm_yes c (cm_now fun _ => rfl)⟩
  · obtain ⟨v, hv⟩ : ∃ v, Cm (fun k => laws_szIntSS.l0 k l (wrap64 (m - (l.length : Int))) 0) v := by
      refine ex_cm (L := fun k i s => laws_szIntSS.l0 k l s i) l ?_ ?_ _
      · intro pre x t s e hlt
        obtain ⟨v, hv⟩ := szIntS_f x s
        by_cases c2 : v < 0
        · refine .inl ⟨-1, ?_⟩
          refine cm_step (fun k => by rw [laws_szIntSS.l0]) ?_
          simp only [rdL_at e, wrap_len hlt h]
          repeat (first | assumption | exact cm_now (fun _ => rfl) | refine cm_bind (hv) ?_ | refine cm_yes (by first | omega | assumption | (simp; done) | (simp; omega)) ?_ | refine cm_no (by first | omega | assumption | (simp; done) | (simp; omega)) ?_)
        · refine .inr ⟨v, fun u hu => ?_⟩
          refine cm_step (fun k => by rw [laws_szIntSS.l0]) ?_
          simp only [rdL_at e, wrap_len hlt h]
          repeat (first | assumption | exact cm_now (fun _ => rfl) | refine cm_bind (hv) ?_ | refine cm_yes (by first | omega | assumption | (simp; done) | (simp; omega)) ?_ | refine cm_no (by first | omega | assumption | (simp; done) | (simp; omega)) ?_)
      · intro s
        refine ⟨s, ?_⟩
        refine cm_step (fun k => by rw [laws_szIntSS.l0]) ?_
        repeat (first | assumption | exact cm_now (fun _ => rfl) | refine cm_yes (by first | omega | assumption | (simp; done) | (simp; omega)) ?_ | refine cm_no (by first | omega | assumption | (simp; done) | (simp; omega)) ?_)
    exact ⟨v, cm_no c hv⟩
end Go.Proofs.Ytgcliajajcinpaa.Hs
