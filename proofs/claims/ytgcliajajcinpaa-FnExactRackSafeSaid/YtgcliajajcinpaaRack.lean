/- Rack: how many racks some homes have, and whether groups of homes have as many as they can: what both programs come to. -/
import Derived.Test.YtgcliajajcinpaaPx17
import Derived.Maps.Views
import Derived.Test.YtgcliajajcinpaaMem
import Derived.Test.YtgcliajajcinpaaPut
namespace Go.Proofs.Ytgcliajajcinpaa.Rack
open Go.RowKit Go.Proofs.Ytgcliajajcinpaa.P Go.Proofs.YtgcliajajcinpaaW.PrintWords Go.Proofs.YtgcliajajcinpaaW.PrintLast Go.Proofs.YtgcliajajcinpaaW.PrintMore
open Go.Proofs.Ytgcliajajcinpaa.Pl Go.Proofs.Ytgcliajajcinpaa.EvN Go.Proofs.Ytgcliajajcinpaa.Lp Go.Proofs.Ytgcliajajcinpaa.Sets Go.Proofs.Ytgcliajajcinpaa.Mem Go.Proofs.Ytgcliajajcinpaa.Put
set_option linter.unusedSimpArgs false
set_option linter.unusedVariables false

def racks (l : List Int) : Bool := l.all (fun r => decide (0 ≤ r ∧ r ≤ 3)) && decide (1 ≤ l.length ∧ l.length ≤ 6)
theorem racks_iff {l : List Int} : racks l = true ↔ (∀ r ∈ l, 0 ≤ r ∧ r ≤ 3) ∧ (1 ≤ l.length ∧ l.length ≤ 6) := by
  simp [racks]
theorem l13Racks_f (l : List Int) (hl : l.length ≤ 4611686018427387904) : Cm (fun k => spec_l13Racks.f k l) (racks l) := by
  unfold spec_l13Racks.f
  have := every_cm (L := fun k i => spec_l13Racks.l0 k l l (l.length : Int) i) l (fun r => decide (0 ≤ r ∧ r ≤ 3)) (fin := decide (1 ≤ l.length ∧ l.length ≤ 6)) (no := false) ?_ ?_ ?_
  · refine cm_val this ?_
    unfold racks
    cases l.all fun r => decide (0 ≤ r ∧ r ≤ 3) <;> simp
  · intro pre h t e hlt hp v hv
    refine cm_step (fun k => by rw [spec_l13Racks.l0]) ?_
    simp only [rd_at e, wrap_len hlt hl, l1In_f]
    exact cm_yes (by omega) (cm_yes (by omega) (cm_yes (by omega) (cm_bind (cm_now fun _ => rfl) (cm_yes hp hv))))
  · intro pre h t e hlt hp
    refine cm_step (fun k => by rw [spec_l13Racks.l0]) ?_
    simp only [rd_at e, wrap_len hlt hl, l1In_f]
    exact cm_yes (by omega) (cm_yes (by omega) (cm_yes (by omega) (cm_bind (cm_now fun _ => rfl) (cm_no (by simpa using hp) (cm_now fun _ => rfl)))))
  · intro _
    refine cm_step (fun k => by rw [spec_l13Racks.l0]) ?_
    simp only [l1In_f]
    refine cm_no (by omega) (cm_bind (cm_now fun _ => rfl) (cm_now fun _ => ?_))
    congr 1
    rw [decide_eq_decide]
    omega
theorem anyR_index (l : List Int) (hl : l.length ≤ 4611686018427387904) (p : Int → Bool) (hc : ∀ h ∈ l, Cm (fun k => impl_areRacks_1.f h) (p h)) :
    Cm (fun k => slices_IndexFunc_int_int_of_impl_areRacks_1.f k l) (foundAt p (fun i _ => (i : Int)) (-1) 0 l) := by
  unfold slices_IndexFunc_int_int_of_impl_areRacks_1.f
  refine find_cm (L := fun k i => slices_IndexFunc_int_int_of_impl_areRacks_1.l0 k l (l.length : Int) i) l p (fun i _ => (i : Int)) (none_ := (-1 : Int)) ?_ ?_ ?_
  · intro pre h t e hlt hp v hv
    refine cm_step (fun k => by rw [slices_IndexFunc_int_int_of_impl_areRacks_1.l0]) ?_
    simp only [rd_at e, wrap_len hlt hl]
    refine cm_yes (by omega) (cm_yes (by omega) (cm_yes (by omega) (cm_bind (hc h (by rw [← e]; simp)) ?_)))
    exact cm_no (by simpa using hp) hv
  · intro pre h t e hlt hp
    refine cm_step (fun k => by rw [slices_IndexFunc_int_int_of_impl_areRacks_1.l0]) ?_
    simp only [rd_at e, wrap_len hlt hl]
    refine cm_yes (by omega) (cm_yes (by omega) (cm_yes (by omega) (cm_bind (hc h (by rw [← e]; simp)) ?_)))
    exact cm_yes hp (cm_now fun _ => rfl)
  · refine cm_step (fun k => by rw [slices_IndexFunc_int_int_of_impl_areRacks_1.l0]) ?_
    exact cm_no (by omega) (cm_now fun _ => rfl)
theorem anyR (l : List Int) (hl : l.length ≤ 4611686018427387904) (p : Int → Bool) (hc : ∀ h ∈ l, Cm (fun k => impl_areRacks_1.f h) (p h)) : Cm (fun k => slices_ContainsFunc_int_int_of_impl_areRacks_1.f k l) (l.any p) := by
  unfold slices_ContainsFunc_int_int_of_impl_areRacks_1.f
  refine cm_bind (anyR_index l hl p hc) (cm_now fun _ => ?_)
  rw [found_any]
theorem areRacks_f (l : List Int) (hl : l.length ≤ 4611686018427387904) : Cm (fun k => impl_areRacks.f k l) (racks l) := by
  unfold impl_areRacks.f
  simp only [in_f]
  refine cm_bind (cm_now fun _ => rfl) ?_
  by_cases c : 1 ≤ l.length ∧ l.length ≤ 6
  · refine cm_yes (by simp; omega) (cm_bind (anyR l hl (fun r => !decide (0 ≤ r ∧ r ≤ 3)) (fun r _ => cm_now fun _ => ?_)) (cm_now fun _ => ?_))
    · unfold impl_areRacks_1.f
      rw [in_f]
      rfl
    · rw [not_any _ (fun r => decide (0 ≤ r ∧ r ≤ 3)) l (fun _ _ => rfl)]
      simp [racks, c]
  · refine cm_no (by simp; omega) (cm_now fun _ => ?_)
    simp [racks, c]
/-- How many different numbers. -/
def many (l : List Int) : Nat := (putAll [] l).length
theorem inc_nil : Inc [] := List.Pairwise.nil
theorem keys_len : ∀ (s : List Int) (A : List Lit) (L : List Int), Inc L → (∀ x : Int, A.any (fun y => y.sameKey (Lit.int .i64 x)) = decide (x ∈ L)) → A.length = L.length → ((s.map (fun x => Lit.int .i64 x)).foldl Go.Maps.addKey A).length = (putAll L s).length
  | [], A, L, _, _, h => h
  | x :: t, A, L, hL, hA, h => by
    have h1 : (putAll L (x :: t)) = putAll (putL L x) t := rfl
    rw [h1, List.map_cons, List.foldl_cons]
    refine keys_len t _ _ (put_inc x L hL) (fun y => ?_) ?_
    · unfold Go.Maps.addKey
      rw [hA x]
      by_cases c : x ∈ L
      · rw [if_pos (by simp [c]), hA y]
        rw [decide_eq_decide, mem_put]
        constructor
        · exact .inr
        · rintro (rfl | h2)
          · exact c
          · exact h2
      · rw [if_neg (by simp [c]), List.any_append, hA y]
        have e2 : ([Lit.int IntKind.i64 x].any fun z => z.sameKey (Lit.int IntKind.i64 y)) = decide (y = x) := by
          simp [Lit.sameKey]
          by_cases c2 : x = y <;> simp [c2, eq_comm]
        rw [e2]
        rw [Bool.eq_iff_iff]
        simp [mem_put, or_comm]
    · unfold Go.Maps.addKey
      rw [hA x, put_len x L hL]
      by_cases c : x ∈ L
      · rw [if_pos (by simp [c]), if_pos c, h]
      · rw [if_neg (by simp [c]), if_neg c, List.length_append, h]; rfl
def rackOf (rs : List Int) (g : List Int) : List Int := g.map (fun h => rd rs h)
theorem rd_in {l : List Int} {i : Int} (h : i < (l.length : Int)) (h0 : 0 ≤ i) : rd l i ∈ l := by
  unfold rd
  have h2 : i.toNat < l.length := by omega
  rw [List.getD_eq_getElem?_getD, List.getElem?_eq_getElem h2]
  exact List.getElem_mem h2
theorem different_go (rs : List Int) (hr : racks rs = true) : ∀ (g s : List Int), (∀ h ∈ g, 0 ≤ h ∧ h < (rs.length : Int)) → s.length + g.length < 1048576 → impl_differentRacks.go rs s g = some ((((s ++ rackOf rs g).map (fun x => Lit.int .i64 x)).foldl Go.Maps.addKey []).length : Int)
  | [], s, _, _ => by simp [impl_differentRacks.go, rackOf]
  | h :: t, s, hg, hl => by
    have h0 := hg h (by simp)
    have h1 := (racks_iff.1 hr).1 _ (rd_in h0.2 h0.1)
    have h2 : (Lit.int .i64 (rd rs h)).wf = true := by
      have e0 : IntKind.i64.min = -9223372036854775808 := rfl
      have e1 : IntKind.i64.max = 9223372036854775807 := rfl
      simp [Lit.wf, e0, e1]
      omega
    simp only [List.length_cons] at hl
    rw [impl_differentRacks.go, if_pos h0.1, if_pos h0.2, if_pos h2, if_pos (by omega), different_go rs hr t (s ++ [rd rs h]) (fun x hx => hg x (by simp [hx])) (by simp; omega)]
    simp [rackOf]
theorem different_f (rs g : List Int) (hr : racks rs = true) (hg : ∀ h ∈ g, 0 ≤ h ∧ h < (rs.length : Int)) (hl : g.length < 1048576) : impl_differentRacks.f rs g = some ((many (rackOf rs g) : Nat) : Int) := by
  unfold impl_differentRacks.f
  rw [different_go rs hr g [] hg (by simp; omega), List.nil_append, keys_len (rackOf rs g) [] [] inc_nil (by simp) rfl]
  rfl
theorem l13Many_f (rs g : List Int) (hr : rs.length ≤ 1048576) (hg : ∀ h ∈ g, 0 ≤ h ∧ h < (rs.length : Int)) (hl : g.length < 1048576) : Cm (fun k => spec_l13Many.f k rs g) ((many (rackOf rs g) : Nat) : Int) := by
  unfold spec_l13Many.f
  refine fold_cm (L := fun k i s => spec_l13Many.l0 k rs s g (g.length : Int) i) g (fun s h => putL s (rd rs h)) (fun pre s => s.length ≤ pre.length) [] (by simp) ?_ ?_
  · intro pre h t s e hlt hi
    have h0 := hg h (by rw [← e]; simp)
    have h1 := put_le (rd rs h) s
    refine ⟨by rw [len_one]; omega, fun u hu => ?_⟩
    refine cm_step (fun k => by rw [spec_l13Many.l0]) ?_
    simp only [rd_at e, wrap_len hlt (show g.length ≤ 4611686018427387904 by omega)]
    repeat (first | assumption | exact cm_now (fun _ => rfl) | refine cm_bind (put_f _ _ (by omega)) ?_ | refine cm_yes (by first | omega | assumption | (simp; done) | (simp; omega)) ?_ | refine cm_no (by first | omega | assumption | (simp; done) | (simp; omega)) ?_)
  · intro _
    refine cm_step (fun k => by rw [spec_l13Many.l0]) ?_
    refine cm_no (by omega) (cm_now fun _ => ?_)
    have : ∀ (g s : List Int), g.foldl (fun s h => putL s (rd rs h)) s = putAll s (rackOf rs g) := by
      intro g
      induction g with
      | nil => intro s; rfl
      | cons h t ih => intro s; rw [List.foldl_cons, ih]; rfl
    rw [this]
    rfl
theorem membersOf_from (a : Nat) (ha : a < 9223372036854775808) : ∀ (d i : Nat) (acc : List Int), i + d = 7 → acc.length ≤ i → Cm (fun k => impl_membersOf.l0 k (a : Int) acc (i : Int)) (acc ++ ((List.range' i d).filter (fun m => a.testBit m)).map (fun m : Nat => (m : Int)))
  | 0, i, acc, h, _ => by
    refine cm_step (fun k => by rw [impl_membersOf.l0]) ?_
    refine cm_no (by omega) (cm_now fun _ => by simp)
  | d + 1, i, acc, h, hl => by
    refine cm_step (fun k => by rw [impl_membersOf.l0]) ?_
    rw [bit_i64 a ha (by omega) (by omega), wrap_len (n := i) (m := 7) (by omega) (by omega), Int.toNat_natCast, List.range'_succ]
    refine cm_yes (by omega) (cm_yes (by omega) ?_)
    by_cases c : a.testBit i = true
    · have h1 := membersOf_from a ha d (i + 1) (acc ++ [(i : Int)]) (by omega) (by simp; omega)
      refine cm_yes (by simp [c]) (cm_yes (by omega) (cm_val h1 ?_))
      simp [List.filter_cons, c]
    · have h1 := membersOf_from a ha d (i + 1) acc (by omega) (by omega)
      refine cm_no (by simp [c]) (cm_val h1 ?_)
      simp [List.filter_cons, c]
def membersN (a : Nat) : List Int := ((List.range 7).filter (fun m => a.testBit m)).map (fun m : Nat => (m : Int))
theorem membersOf_f (a : Nat) (ha : a < 9223372036854775808) : Cm (fun k => impl_membersOf.f k (a : Int)) (membersN a) := by
  unfold impl_membersOf.f membersN
  have := membersOf_from a ha 7 0 [] (by omega) (by simp)
  rw [List.range_eq_range']
  simpa using this
theorem all_members (n : Nat) (h : 1 ≤ n ∧ n ≤ 6) : membersN (2 ^ n - 1) = (List.range n).map (fun m : Nat => (m : Int)) := by
  have : n = 1 ∨ n = 2 ∨ n = 3 ∨ n = 4 ∨ n = 5 ∨ n = 6 := by omega
  rcases this with rfl | rfl | rfl | rfl | rfl | rfl <;> decide
theorem all_racks (rs : List Int) : rackOf rs ((List.range rs.length).map (fun m : Nat => (m : Int))) = rs := by
  unfold rackOf
  rw [List.map_map]
  apply List.ext_getElem
  · simp
  · intro i h1 h2
    simp [rd, h2]
/-- What RackSafe answers. -/
def safe (rs : List Int) (l : List (List Int)) : Bool × Bool := if racks rs = true ∧ (l.all fun g => members (rs.length : Int) g) = true then (l.all (fun g => decide ¬ ((many (rackOf rs g) : Nat) : Int) < mn (g.length : Int) ((many rs : Nat) : Int)), true) else (false, false)
theorem rising_len {n : Nat} {g : List Int} (h : members (n : Int) g = true) : g.length ≤ n := by
  have key : ∀ (rest pre : List Int), (∀ a x t, a ++ x :: t = pre ++ rest → rises (n : Int) a x = true) → ((pre.length : Int) ≤ (match pre.getLast? with | some q => q + 1 | none => 0)) → (pre ++ rest).length ≤ n := by
    intro rest
    induction rest with
    | nil =>
      intro pre hp hq
      rcases last_cases pre with rfl | ⟨q, hq2⟩
      · simp
      · rw [hq2] at hq
        obtain ⟨z, rfl⟩ := List.getLast?_eq_some_iff.1 hq2
        have := (rises_yes (hp z q [] (by simp))).1
        simp only [List.append_nil]
        simp only at hq
        omega
    | cons x t ih =>
      intro pre hp hq
      have hx := rises_yes (hp pre x t rfl)
      have := ih (pre ++ [x]) (fun a y u e => hp a y u (by rw [e]; simp)) (by
        simp only [List.getLast?_append, List.getLast?_singleton, Option.some_or, List.length_append, List.length_cons, List.length_nil]
        rcases last_cases pre with rfl | ⟨q, hq2⟩
        · simp; omega
        · rw [hq2] at hq
          have := hx.2 q hq2
          simp only at hq
          omega)
      simpa using this
  have := key g [] (fun a x t e => by have := (okFrom_iff (rises (n : Int)) g []).1 h a x t e; simpa using this) (by simp)
  simpa using this
theorem spec_safe_f (rs : List Int) (l : List (List Int)) (hr : rs.length ≤ 4611686018427387904) (hl : l.length ≤ 4611686018427387904) (hs : ∀ g ∈ l, g.length ≤ 4611686018427387904) : Cm (fun k => spec_RackSafe.f k rs l) (safe rs l) := by
  unfold spec_RackSafe.f
  by_cases c : racks rs = true
  · have hr2 := (racks_iff.1 c).2
    refine cm_bind (l13Racks_f rs hr) (cm_yes c ?_)
    refine fold_cm (L := fun k i s => spec_RackSafe.l0 k rs l s rs (rs.length : Int) i) rs putL (fun pre s => s.length ≤ pre.length) [] (by simp) ?_ ?_
    · intro pre h t s e hlt hi
      have h1 := put_le h s
      refine ⟨by rw [len_one]; omega, fun u hu => ?_⟩
      refine cm_step (fun k => by rw [spec_RackSafe.l0]) ?_
      simp only [rd_at e, wrap_len hlt hr]
      repeat (first | assumption | exact cm_now (fun _ => rfl) | refine cm_bind (put_f _ _ (by omega)) ?_ | refine cm_yes (by first | omega | assumption | (simp; done) | (simp; omega)) ?_ | refine cm_no (by first | omega | assumption | (simp; done) | (simp; omega)) ?_)
    · intro _
      refine cm_step (fun k => by rw [spec_RackSafe.l0]) ?_
      refine cm_no (by omega) ?_
      have h2 := every_cm (L := fun k i => spec_RackSafe.l1 k rs l (rs.foldl putL []) l (l.length : Int) i) l (fun g => members (rs.length : Int) g) (fin := (l.all (fun g => decide ¬ ((many (rackOf rs g) : Nat) : Int) < mn (g.length : Int) ((many rs : Nat) : Int)), true)) (no := (false, false)) ?_ ?_ ?_
      · refine cm_val h2 ?_
        unfold safe
        by_cases c2 : (l.all fun g => members (rs.length : Int) g) = true
        · rw [if_pos c2, if_pos ⟨c, c2⟩]
        · rw [if_neg c2, if_neg (fun z => c2 z.2)]
      · intro pre g t e hlt hp v hv
        have hg := hs g (by rw [← e]; simp)
        refine cm_step (fun k => by rw [spec_RackSafe.l1]) ?_
        simp only [l1_at e, wrap_len hlt hl]
        repeat (first | assumption | exact cm_now (fun _ => rfl) | refine cm_bind (group_f _ _ hg) ?_ | refine cm_yes (by first | omega | assumption | (simp; done) | (simp; omega) | exact hp) ?_ | refine cm_no (by first | omega | assumption | (simp; done) | (simp; omega) | exact hp) ?_)
      · intro pre g t e hlt hp
        have hg := hs g (by rw [← e]; simp)
        refine cm_step (fun k => by rw [spec_RackSafe.l1]) ?_
        simp only [l1_at e, wrap_len hlt hl]
        repeat (first | assumption | exact cm_now (fun _ => rfl) | refine cm_bind (group_f _ _ hg) ?_ | refine cm_yes (by first | omega | assumption | (simp; done) | (simp; omega) | exact (by simpa using hp)) ?_ | refine cm_no (by first | omega | assumption | (simp; done) | (simp; omega) | exact (by simpa using hp)) ?_)
      · intro hall
        rw [List.all_eq_true] at hall
        have hm : ((rs.foldl putL []).length : Int) = ((many rs : Nat) : Int) := rfl
        refine cm_step (fun k => by rw [spec_RackSafe.l1]) ?_
        refine cm_no (by omega) ?_
        have h3 := every_cm (L := fun k i => spec_RackSafe.l2 k rs (rs.foldl putL []) l (l.length : Int) i) l (fun g => decide ¬ ((many (rackOf rs g) : Nat) : Int) < mn (g.length : Int) ((many rs : Nat) : Int)) (fin := (true, true)) (no := (false, true)) ?_ ?_ ?_
        · refine cm_val h3 ?_
          cases l.all (fun g => decide ¬ ((many (rackOf rs g) : Nat) : Int) < mn (g.length : Int) ((many rs : Nat) : Int)) <;> rfl
        · intro pre g t e hlt hp v hv
          have hg := hall g (by rw [← e]; simp)
          have hg2 := rising_len hg
          have h4 := l13Many_f rs g (by omega) (members_in hg) (by omega)
          simp only [decide_eq_true_eq] at hp
          unfold mn at hp
          refine cm_step (fun k => by rw [spec_RackSafe.l2]) ?_
          simp only [l1_at e, wrap_len hlt hl, hm]
          refine cm_yes (by omega) (cm_yes (by omega) (cm_yes (by omega) (cm_if (fun c3 => cm_bind h4 (cm_no ?_ hv)) (fun c3 => cm_bind h4 (cm_no ?_ hv)))))
          · split at hp <;> omega
          · split at hp <;> omega
        · intro pre g t e hlt hp
          have hg := hall g (by rw [← e]; simp)
          have hg2 := rising_len hg
          have h4 := l13Many_f rs g (by omega) (members_in hg) (by omega)
          simp only [decide_eq_false_iff_not, Decidable.not_not] at hp
          unfold mn at hp
          refine cm_step (fun k => by rw [spec_RackSafe.l2]) ?_
          simp only [l1_at e, wrap_len hlt hl, hm]
          refine cm_yes (by omega) (cm_yes (by omega) (cm_yes (by omega) (cm_if (fun c3 => cm_bind h4 (cm_yes ?_ (cm_now fun _ => rfl))) (fun c3 => cm_bind h4 (cm_yes ?_ (cm_now fun _ => rfl))))))
          · split at hp <;> omega
          · split at hp <;> omega
        · intro _
          refine cm_step (fun k => by rw [spec_RackSafe.l2]) ?_
          repeat (first | assumption | exact cm_now (fun _ => rfl) | refine cm_yes (by first | omega | assumption | (simp; done) | (simp; omega)) ?_ | refine cm_no (by first | omega | assumption | (simp; done) | (simp; omega)) ?_)
  · refine cm_bind (l13Racks_f rs hr) (cm_no c (cm_now fun _ => ?_))
    unfold safe
    rw [if_neg (fun z => c z.1)]
theorem anyS1_index (rs : List Int) (l : List (List Int)) (hl : l.length ≤ 4611686018427387904) (p : (List Int) → Bool) (hc : ∀ h ∈ l, Cm (fun k => impl_RackSafe_1.f k h rs) (p h)) :
    Cm (fun k => slices_IndexFunc_int_int_of_impl_RackSafe_1.f k l rs) (foundAt p (fun i _ => (i : Int)) (-1) 0 l) := by
  unfold slices_IndexFunc_int_int_of_impl_RackSafe_1.f
  refine find_cm (L := fun k i => slices_IndexFunc_int_int_of_impl_RackSafe_1.l0 k l (l.length : Int) i rs) l p (fun i _ => (i : Int)) (none_ := (-1 : Int)) ?_ ?_ ?_
  · intro pre h t e hlt hp v hv
    refine cm_step (fun k => by rw [slices_IndexFunc_int_int_of_impl_RackSafe_1.l0]) ?_
    simp only [l1_at e, wrap_len hlt hl]
    refine cm_yes (by omega) (cm_yes (by omega) (cm_yes (by omega) (cm_bind (hc h (by rw [← e]; simp)) ?_)))
    exact cm_no (by simpa using hp) hv
  · intro pre h t e hlt hp
    refine cm_step (fun k => by rw [slices_IndexFunc_int_int_of_impl_RackSafe_1.l0]) ?_
    simp only [l1_at e, wrap_len hlt hl]
    refine cm_yes (by omega) (cm_yes (by omega) (cm_yes (by omega) (cm_bind (hc h (by rw [← e]; simp)) ?_)))
    exact cm_yes hp (cm_now fun _ => rfl)
  · refine cm_step (fun k => by rw [slices_IndexFunc_int_int_of_impl_RackSafe_1.l0]) ?_
    exact cm_no (by omega) (cm_now fun _ => rfl)
theorem anyS1 (rs : List Int) (l : List (List Int)) (hl : l.length ≤ 4611686018427387904) (p : (List Int) → Bool) (hc : ∀ h ∈ l, Cm (fun k => impl_RackSafe_1.f k h rs) (p h)) : Cm (fun k => slices_ContainsFunc_int_int_of_impl_RackSafe_1.f k l rs) (l.any p) := by
  unfold slices_ContainsFunc_int_int_of_impl_RackSafe_1.f
  refine cm_bind (anyS1_index rs l hl p hc) (cm_now fun _ => ?_)
  rw [found_any]
theorem anyS2_index (rs : List Int) (m : Int) (l : List (List Int)) (hl : l.length ≤ 4611686018427387904) (p : (List Int) → Bool) (hc : ∀ h ∈ l, Cm (fun k => impl_RackSafe_2.f h rs m) (p h)) :
    Cm (fun k => slices_IndexFunc_int_int_of_impl_RackSafe_2.f k l rs m) (foundAt p (fun i _ => (i : Int)) (-1) 0 l) := by
  unfold slices_IndexFunc_int_int_of_impl_RackSafe_2.f
  refine find_cm (L := fun k i => slices_IndexFunc_int_int_of_impl_RackSafe_2.l0 k l (l.length : Int) i rs m) l p (fun i _ => (i : Int)) (none_ := (-1 : Int)) ?_ ?_ ?_
  · intro pre h t e hlt hp v hv
    refine cm_step (fun k => by rw [slices_IndexFunc_int_int_of_impl_RackSafe_2.l0]) ?_
    simp only [l1_at e, wrap_len hlt hl]
    refine cm_yes (by omega) (cm_yes (by omega) (cm_yes (by omega) (cm_bind (hc h (by rw [← e]; simp)) ?_)))
    exact cm_no (by simpa using hp) hv
  · intro pre h t e hlt hp
    refine cm_step (fun k => by rw [slices_IndexFunc_int_int_of_impl_RackSafe_2.l0]) ?_
    simp only [l1_at e, wrap_len hlt hl]
    refine cm_yes (by omega) (cm_yes (by omega) (cm_yes (by omega) (cm_bind (hc h (by rw [← e]; simp)) ?_)))
    exact cm_yes hp (cm_now fun _ => rfl)
  · refine cm_step (fun k => by rw [slices_IndexFunc_int_int_of_impl_RackSafe_2.l0]) ?_
    exact cm_no (by omega) (cm_now fun _ => rfl)
theorem anyS2 (rs : List Int) (m : Int) (l : List (List Int)) (hl : l.length ≤ 4611686018427387904) (p : (List Int) → Bool) (hc : ∀ h ∈ l, Cm (fun k => impl_RackSafe_2.f h rs m) (p h)) : Cm (fun k => slices_ContainsFunc_int_int_of_impl_RackSafe_2.f k l rs m) (l.any p) := by
  unfold slices_ContainsFunc_int_int_of_impl_RackSafe_2.f
  refine cm_bind (anyS2_index rs m l hl p hc) (cm_now fun _ => ?_)
  rw [found_any]
theorem impl_safe_f (rs : List Int) (l : List (List Int)) (hr : rs.length ≤ 4611686018427387904) (hl : l.length ≤ 4611686018427387904) (hs : ∀ g ∈ l, g.length ≤ 4611686018427387904) : Cm (fun k => impl_RackSafe.f k rs l) (safe rs l) := by
  unfold impl_RackSafe.f
  by_cases c : racks rs = true
  · have hr2 := (racks_iff.1 c).2
    refine cm_bind (areRacks_f rs hr) (cm_yes c (cm_bind (anyS1 rs l hl (fun g => !members (rs.length : Int) g) (fun g hg => ?_)) ?_))
    · unfold impl_RackSafe_1.f
      exact cm_bind (areMembers_f g _ (hs g hg) (by omega)) (cm_now fun _ => rfl)
    · by_cases c2 : (l.all fun g => members (rs.length : Int) g) = true
      · have e1 : (l.any fun g => !members (rs.length : Int) g) = false := by
          have := not_any (fun g => !members (rs.length : Int) g) (fun g => members (rs.length : Int) g) l (fun _ _ => rfl)
          rw [c2] at this
          simpa using this
        rw [e1]
        have hall := List.all_eq_true.1 c2
        unfold safe
        rw [if_pos ⟨c, c2⟩]
        refine cm_step (fun k => by rw [impl_RackSafe.j0]) ?_
        refine cm_no (by simp) ?_
        have e2 : wrap64 (shl .i64 1 (rs.length : Int) - 1) = ((2 ^ rs.length - 1 : Nat) : Int) := by
          rw [shl_one (by omega) (by omega), Int.toNat_natCast]
          have h1 : 2 ^ rs.length ≤ 2 ^ 6 := Nat.pow_le_pow_right (by omega) hr2.2
          have h2 : 0 < 2 ^ rs.length := Nat.two_pow_pos _
          generalize 2 ^ rs.length = z at h1 h2
          rw [wrap_in (by omega) (by omega)]
          omega
        rw [e2]
        have h1 : 2 ^ rs.length ≤ 2 ^ 6 := Nat.pow_le_pow_right (by omega) hr2.2
        refine cm_bind (membersOf_f _ (by omega)) ?_
        rw [all_members _ hr2, different_f rs _ c (by
          intro h hh
          obtain ⟨i, hi, rfl⟩ := List.mem_map.1 hh
          rw [List.mem_range] at hi
          omega) (by simp; omega), all_racks]
        refine cm_bind (cm_now fun _ => rfl) (cm_bind (anyS2 rs _ l hl (fun g => decide (((many (rackOf rs g) : Nat) : Int) < mn (g.length : Int) ((many rs : Nat) : Int))) (fun g hg => cm_now fun _ => ?_)) (cm_now fun _ => ?_))
        · have hg1 := hall g hg
          have hg2 := rising_len hg1
          unfold impl_RackSafe_2.f
          rw [different_f rs g c (members_in hg1) (by omega)]
          rfl
        · rw [not_any _ (fun g => decide ¬ ((many (rackOf rs g) : Nat) : Int) < mn (g.length : Int) ((many rs : Nat) : Int)) l (fun g _ => by rw [decide_not, Bool.not_not])]
      · have e1 : (l.any fun g => !members (rs.length : Int) g) = true := by
          have := not_any (fun g => !members (rs.length : Int) g) (fun g => members (rs.length : Int) g) l (fun _ _ => rfl)
          have c3 : (l.all fun g => members (rs.length : Int) g) = false := by simpa using c2
          rw [c3] at this
          simpa using this
        rw [e1]
        unfold safe
        rw [if_neg (fun z => c2 z.2)]
        refine cm_step (fun k => by rw [impl_RackSafe.j0]) ?_
        repeat (first | assumption | exact cm_now (fun _ => rfl) | refine cm_yes (by first | omega | assumption | (simp; done) | (simp; omega)) ?_ | refine cm_no (by first | omega | assumption | (simp; done) | (simp; omega)) ?_)
  · refine cm_bind (areRacks_f rs hr) (cm_no c ?_)
    unfold safe
    rw [if_neg (fun z => c z.1)]
    refine cm_step (fun k => by rw [impl_RackSafe.j0]) ?_
    repeat (first | assumption | exact cm_now (fun _ => rfl) | refine cm_yes (by first | omega | assumption | (simp; done) | (simp; omega)) ?_ | refine cm_no (by first | omega | assumption | (simp; done) | (simp; omega)) ?_)
end Go.Proofs.Ytgcliajajcinpaa.Rack
