/- Steps of a walk on maps of the call's own: what a lookup of a bool gives, without and with the word whether it is there. -/
import Derived.Maps.OwnSet
import Derived.Maps.OwnOps
import Derived.Maps.Views
import Derived.WalkKit
import Derived.Below
import Derived.Deep.Draws
namespace Go.Proofs.Ytinbfclfglogmaa.Xm
open Go Go.RowKit Go.ChangeMaps Go.MapKept Go.WideShapes Go.Maps
theorem plainElem_bool_inv {H : Type} {P : Program} {e : TypeId} (he : P.underlying e = some .bool) {v : Value} {z : DataW H × List MemPlace} (h : plainElem P e v = some z) : ∃ a, v = .bool a ∧ z = (.lit (.bool a), []) := by
  unfold plainElem at h
  rw [he] at h
  cases v <;> simp at h
  exact ⟨_, rfl, h.symm⟩
/-- 'm[k]' at elements of kind bool. -/
theorem wpList_lookup_own_bool {H : Type} {P : Program} (w : World) {ops : Array Oper} {rest : List Oper} {o : Oper} {a : Act} {Q : Exit → Act → World → Prop}
    (hg : o.guard = none) (m x : Operand) (t : TypeId) (hop : o.op = Op.lookup t m x false)
    (k e : TypeId) (K : Keyed P k) (ht : P.underlying t = some (.map k e)) (he : P.underlying e = some .bool) (hz : (zeroValue e).run P w = .ok (.bool false) w) (b n : Nat) (D : DataW H)
    (hm : a.eval m = .map (some b)) (hown : w.ownsMap P k (plainElem P e) b n D) (key : Value) (kl : Lit) (hx : a.eval x = key) (hkey : keyOf P k key = some kl)
    (hK : ∀ c : Bool, D.atKey kl (.lit (.bool false)) = .lit (.bool c) → wpList P ops Q rest (a.put o.dst (.bool c)) w) :
    wpList P ops Q (o :: rest) a w := by
  refine wpList_plain hg fun K' hK' => ?_
  obtain ⟨v, ps, hrun, hv⟩ := hown.lookup K ht hz (plainElem_bool he false) hkey
  obtain ⟨c, rfl, hc⟩ := plainElem_bool_inv he hv
  simp only [Prod.mk.injEq] at hc
  unfold Oper.wp
  simp [execOp, hop, hm, hx, hrun, Result.andThen]
  exact hK' _ _ (hK c hc.1)
/-- .. where it is known what it gives. -/
theorem wpList_lookup_bool_told {H : Type} {P : Program} (w : World) {ops : Array Oper} {rest : List Oper} {o : Oper} {a : Act} {Q : Exit → Act → World → Prop}
    (hg : o.guard = none) (m x : Operand) (t : TypeId) (hop : o.op = Op.lookup t m x false)
    (k e : TypeId) (K : Keyed P k) (ht : P.underlying t = some (.map k e)) (he : P.underlying e = some .bool) (hz : (zeroValue e).run P w = .ok (.bool false) w) (b n : Nat) (D : DataW H)
    (hm : a.eval m = .map (some b)) (hown : w.ownsMap P k (plainElem P e) b n D) (key : Value) (kl : Lit) (hx : a.eval x = key) (hkey : keyOf P k key = some kl) (c : Bool) (hD : D.atKey kl (.lit (.bool false)) = .lit (.bool c))
    (hK : wpList P ops Q rest (a.put o.dst (.bool c)) w) :
    wpList P ops Q (o :: rest) a w :=
  wpList_lookup_own_bool w hg m x t hop k e K ht he hz b n D hm hown key kl hx hkey (fun d hd => by
    rw [hD] at hd
    injection hd with hd
    injection hd with hd
    subst hd
    exact hK)
/-- A map of the call's own stays what it is. -/
theorem own_heap {H : Type} {P : Program} {k : TypeId} {R : Value → Option (DataW H × List MemPlace)} {w w' : World} {b n : Nat} {D : DataW H} (h : w.ownsMap P k R b n D) (e : w'.heap[b]? = w.heap[b]?) : w'.ownsMap P k R b n D := by
  obtain ⟨es, clock, hb, r⟩ := h
  exact ⟨es, clock, e.trans hb, r⟩
theorem own_below {H : Type} {P : Program} {k : TypeId} {R : Value → Option (DataW H × List MemPlace)} {w w' : World} {b n : Nat} {D : DataW H} (h : w.ownsMap P k R b n D) (hb : Below w.heap.size w w') : w'.ownsMap P k R b n D := own_heap h (hb.block b h.lt)
theorem own_drewN {H : Type} {P : Program} {k : TypeId} {R : Value → Option (DataW H × List MemPlace)} {w : World} {b n : Nat} {D : DataW H} (h : w.ownsMap P k R b n D) (m : Nat) : (w.drewN m).ownsMap P k R b n D := h
theorem own_set {H : Type} {P : Program} {k : TypeId} {R : Value → Option (DataW H × List MemPlace)} {w : World} {b n g j : Nat} {D : DataW H} {u : Value} (h : w.ownsMap P k R b n D) (hne : b ≠ g) : (w.setCell ⟨g, j, none⟩ u).ownsMap P k R b n D := own_heap h (Below.heap_setCell w _ u b hne)
theorem own_old {H : Type} {P : Program} {k : TypeId} {R : Value → Option (DataW H × List MemPlace)} {w : World} {b n : Nat} {D : DataW H} (h : w.ownsMap P k R b n D) {g : Nat} {o : Obj} (hg : w.heap[g]? = some o) (ho : ∀ es c, o ≠ .map es c) : b ≠ g := by
  obtain ⟨es, clock, hb, _⟩ := h
  rintro rfl
  rw [hb] at hg
  exact ho es clock (Option.some.inj hg).symm
/-- Pairs put into a map one behind another; what it holds at a key then. -/
def dS (S : List (Int × Int)) (m : DataW Unit) : DataW Unit := S.foldl (fun m p => m.put (.int .i64 p.1) (.lit (.int .i64 p.2))) m
def anyS (S : List (Int × Int)) (k : Int) : Bool := S.any (fun p => decide (p.1 = k))
def lastS (S : List (Int × Int)) (k : Int) : Int := S.foldl (fun a p => if p.1 = k then p.2 else a) 0
def dT (T : List Int) (m : DataW Unit) : DataW Unit := T.foldl (fun m x => m.put (.int .i64 x) (.lit (.bool true))) m
theorem dS_snoc (S : List (Int × Int)) (p : Int × Int) (m : DataW Unit) : dS (S ++ [p]) m = (dS S m).put (.int .i64 p.1) (.lit (.int .i64 p.2)) := by simp [dS]
theorem dT_snoc (T : List Int) (x : Int) (m : DataW Unit) : dT (T ++ [x]) m = (dT T m).put (.int .i64 x) (.lit (.bool true)) := by simp [dT]
theorem lit_ne {a b : Int} (h : a ≠ b) : (Lit.int .i64 a) ≠ (Lit.int .i64 b) := by
  intro e
  injection e with _ e2
  exact h e2
theorem dS_has (k : Int) : ∀ (S : List (Int × Int)) (m : DataW Unit), IsMap m → Maps.has (dS S m) (.int .i64 k) = (Maps.has m (.int .i64 k) || anyS S k)
  | [], m, _ => by simp [dS, anyS]
  | p :: S, m, hm => by
    have h1 := dS_has k S (m.put (.int .i64 p.1) (.lit (.int .i64 p.2))) (hm.put _ _)
    have e : dS (p :: S) m = dS S (m.put (.int .i64 p.1) (.lit (.int .i64 p.2))) := rfl
    rw [e, h1]
    by_cases c : p.1 = k
    · rw [c, has_put_same hm (by trivial)]
      simp [anyS, c]
    · rw [has_put_other (lit_ne fun e => c e.symm)]
      simp [anyS, c]
theorem dS_at (k : Int) : ∀ (S : List (Int × Int)) (m : DataW Unit) (a : Int), IsMap m → m.atKey (.int .i64 k) (.lit (.int .i64 0)) = .lit (.int .i64 a) → (dS S m).atKey (.int .i64 k) (.lit (.int .i64 0)) = .lit (.int .i64 (S.foldl (fun a p => if p.1 = k then p.2 else a) a))
  | [], m, a, _, h => h
  | p :: S, m, a, hm, h => by
    refine dS_at k S (m.put (.int .i64 p.1) (.lit (.int .i64 p.2))) (if p.1 = k then p.2 else a) (hm.put _ _) ?_
    by_cases c : p.1 = k
    · rw [if_pos c, c]
      exact atKey_put_same hm (by trivial) _ _
    · rw [if_neg c, atKey_put_other (lit_ne fun e => c e.symm)]
      exact h
theorem dT_at (k : Int) : ∀ (T : List Int) (m : DataW Unit) (a : Bool), IsMap m → m.atKey (.int .i64 k) (.lit (.bool false)) = .lit (.bool a) → (dT T m).atKey (.int .i64 k) (.lit (.bool false)) = .lit (.bool (a || decide (k ∈ T)))
  | [], m, a, _, h => by simpa [dT] using h
  | x :: T, m, a, hm, h => by
    have h1 := dT_at k T (m.put (.int .i64 x) (.lit (.bool true))) (if x = k then true else a) (hm.put _ _) (by
      by_cases c : x = k
      · rw [if_pos c, c]
        exact atKey_put_same hm (by trivial) _ _
      · rw [if_neg c, atKey_put_other (lit_ne fun e => c e.symm)]
        exact h)
    have e : dT (x :: T) m = dT T (m.put (.int .i64 x) (.lit (.bool true))) := rfl
    rw [e, h1]
    by_cases c : x = k
    · simp [c]
    · have : ¬ k = x := fun e => c e.symm
      simp [c, this]
theorem dS_told (S : List (Int × Int)) (k : Int) : Maps.has (dS S (.map [])) (.int .i64 k) = anyS S k ∧ (dS S (.map [])).atKey (.int .i64 k) (.lit (.int .i64 0)) = .lit (.int .i64 (lastS S k)) :=
  ⟨by rw [dS_has k S _ isMap_empty]; rfl, dS_at k S _ 0 isMap_empty rfl⟩
theorem dT_told (T : List Int) (k : Int) : (dT T (.map [])).atKey (.int .i64 k) (.lit (.bool false)) = .lit (.bool (decide (k ∈ T))) := by
  rw [dT_at k T _ false isMap_empty rfl]; simp
end Go.Proofs.Ytinbfclfglogmaa.Xm
