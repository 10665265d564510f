/- What UpToDate comes to in both programs. -/
import Derived.Test.YtphmplmeofledaaPx2
import Derived.Test.YtphmplmeofledaaPx3
import Derived.Test.YtphmplmeofledaaEntries
namespace Go.Proofs.Ytphmplmeofledaa.UpToDate
open Go.RowKit Go.Proofs.Ytphmplmeofledaa.P Go.Proofs.YtphmplmeofledaaW.PrintWords Go.Proofs.YtphmplmeofledaaW.PrintLast Go.Proofs.YtphmplmeofledaaW.PrintMore
open Go.Proofs.Ytphmplmeofledaa.Pl Go.Proofs.Ytphmplmeofledaa.Base Go.Proofs.Ytphmplmeofledaa.Entries

def upToDate (a b : List Int) : Bool × Bool := if entries a = true ∧ entries b = true then (upTo (last a) a.length b, true) else (false, false)
theorem spec_upToDate_f (a b : List Int) (hl : a.length ≤ 1048576) (hlb : b.length ≤ 1048576) (k : Nat) (hk : a.length + b.length + 1 < k) : spec_UpToDate.f k a b = some (upToDate a b) := by
  unfold spec_UpToDate.f upToDate
  obtain ⟨k, rfl⟩ := round hk
  rw [Entries.spec_f a hl _ (by omega), Entries.spec_f b hlb _ (by omega)]
  simp only [Option.bind_some]
  by_cases h1 : entries a = true
  · by_cases h2 : entries b = true
    · rw [if_pos h1, spec_UpToDate.j0, if_neg (by simp [h2]), spec_last_f a hl, Option.bind_some, spec_up_f _ _ b hlb, if_pos ⟨h1, h2⟩]; rfl
    · rw [if_pos h1, spec_UpToDate.j0, if_pos (by simpa using h2), if_neg (fun h => h2 h.2)]
  · rw [if_neg h1, spec_UpToDate.j0, if_pos rfl, if_neg (fun h => h1 h.1)]
theorem impl_upToDate_f (a b : List Int) (hl : a.length ≤ 1048576) (hlb : b.length ≤ 1048576) (k : Nat) (hk : a.length + b.length + 1 < k) : impl_UpToDate.f k a b = some (upToDate a b) := by
  unfold impl_UpToDate.f upToDate
  obtain ⟨k, rfl⟩ := round hk
  rw [Entries.impl_f a hl _ (by omega), Entries.impl_f b hlb _ (by omega)]
  simp only [Option.bind_some]
  by_cases h1 : entries a = true
  · by_cases h2 : entries b = true
    · rw [if_pos h1, impl_UpToDate.j0, if_neg (by simp [h2]), impl_last_f a hl, Option.bind_some, impl_up_f _ _ b hlb, if_pos ⟨h1, h2⟩]; rfl
    · rw [if_pos h1, impl_UpToDate.j0, if_pos (by simpa using h2), if_neg (fun h => h2 h.2)]
  · rw [if_neg h1, impl_UpToDate.j0, if_pos rfl, if_neg (fun h => h1 h.1)]
end Go.Proofs.Ytphmplmeofledaa.UpToDate
