/- Ev: what a printed function comes to with enough rounds, and how such facts are put together. -/
import Derived.Test.YtinbfclfglogmaaPl
namespace Go.Proofs.Ytinbfclfglogmaa.EvN

/-- With enough rounds it comes to v. -/
def Cm {α : Type} (f : Nat → Option α) (v : α) : Prop := ∃ K, ∀ k, K ≤ k → f k = some v
theorem cm_now {α : Type} {f : Nat → Option α} {v : α} (h : ∀ k, f k = some v) : Cm f v := ⟨0, fun k _ => h k⟩
/-- One round. -/
theorem cm_step {α : Type} {f g : Nat → Option α} {v : α} (h : ∀ k, f (k + 1) = g k) (hg : Cm g v) : Cm f v := by
  obtain ⟨K, hK⟩ := hg
  refine ⟨K + 1, fun k hk => ?_⟩
  obtain ⟨m, rfl⟩ : ∃ m, k = m + 1 := ⟨k - 1, by omega⟩
  rw [h, hK m (by omega)]
/-- The last round. -/
theorem cm_last {α : Type} {f : Nat → Option α} {v : α} (h : ∀ k, f (k + 1) = some v) : Cm f v := cm_step (g := fun _ => some v) h (cm_now fun _ => rfl)
theorem cm_same {α : Type} {f g : Nat → Option α} {v : α} (h : ∀ k, f k = g k) (hg : Cm g v) : Cm f v := by
  obtain ⟨K, hK⟩ := hg
  exact ⟨K, fun k hk => by rw [h, hK k hk]⟩
theorem cm_bind {α β : Type} {a : Nat → Option α} {t : α} {g : Nat → α → Option β} {v : β} (ha : Cm a t) (hg : Cm (fun k => g k t) v) : Cm (fun k => (a k).bind (g k)) v := by
  obtain ⟨K, hK⟩ := ha
  obtain ⟨M, hM⟩ := hg
  exact ⟨K + M, fun k hk => by simp only [hK k (by omega)]; exact hM k (by omega)⟩
/-- One round whose first act is a call. -/
theorem cm_step_bind {α β : Type} {f : Nat → Option β} {a : Nat → Option α} {t : α} {g : Nat → α → Option β} {v : β} (h : ∀ k, f (k + 1) = (a k).bind (g k)) (ha : Cm a t) (hg : Cm (fun k => g k t) v) : Cm f v :=
  cm_step h (cm_bind ha hg)
theorem cm_yes {α : Type} {c : Prop} [Decidable c] {x y : Nat → Option α} {v : α} (h : c) (h2 : Cm x v) : Cm (fun k => if c then x k else y k) v :=
  cm_same (fun _ => if_pos h) h2
theorem cm_no {α : Type} {c : Prop} [Decidable c] {x y : Nat → Option α} {v : α} (h : ¬ c) (h2 : Cm y v) : Cm (fun k => if c then x k else y k) v :=
  cm_same (fun _ => if_neg h) h2
/-- What comes to two values comes to one. -/
theorem cm_one {α : Type} {f : Nat → Option α} {v u : α} (h : Cm f v) (h2 : Cm f u) : v = u := by
  obtain ⟨K, hK⟩ := h
  obtain ⟨M, hM⟩ := h2
  have := (hK (K + M) (by omega)).symm.trans (hM (K + M) (by omega))
  exact Option.some.inj this
theorem cm_of_some {α : Type} {f : Nat → Option α} {v : α} {d : Nat} (h : ∀ k, d < k → f k = some v) : Cm f v := ⟨d + 1, fun k hk => h k (by omega)⟩
theorem cm_ex {α : Type} {f : Nat → Option α} {v : α} (h : Cm f v) : ∃ k, f k = some v := by
  obtain ⟨K, hK⟩ := h
  exact ⟨K, hK K (Nat.le_refl _)⟩
end Go.Proofs.Ytinbfclfglogmaa.EvN
