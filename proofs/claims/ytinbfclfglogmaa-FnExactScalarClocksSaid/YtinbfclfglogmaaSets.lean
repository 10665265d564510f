/- Sets: lists of small whole numbers, as the bits of one number. -/
import Derived.Laws.BitsAllLaws
import Derived.Test.YtinbfclfglogmaaLp
namespace Go.Proofs.Ytinbfclfglogmaa.Sets
open Go.RowKit Go.Proofs.YtinbfclfglogmaaW.PrintWords Go.Proofs.YtinbfclfglogmaaW.PrintLast Go.Proofs.YtinbfclfglogmaaW.PrintMore
open Go.Proofs.Ytinbfclfglogmaa.Pl Go.Proofs.Ytinbfclfglogmaa.EvN Go.Proofs.Ytinbfclfglogmaa.Lp
set_option linter.unusedSimpArgs false
set_option linter.unusedVariables false

/-- The number with the bits of a list. -/
def maskN (l : List Int) : Nat := l.foldl (fun s m => s ||| 2 ^ m.toNat) 0
theorem fold_bit (i : Nat) : ∀ (l : List Int) (s : Nat), (∀ x ∈ l, 0 ≤ x) → (l.foldl (fun s m => s ||| 2 ^ m.toNat) s).testBit i = (s.testBit i || decide ((i : Int) ∈ l))
  | [], s, _ => by simp
  | x :: t, s, h => by
    have h0 := h x (by simp)
    rw [List.foldl_cons, fold_bit i t _ (fun y hy => h y (by simp [hy])), Nat.testBit_or, Nat.testBit_two_pow, Bool.or_assoc]
    congr 1
    by_cases c : (i : Int) = x
    · have : x.toNat = i := by omega
      simp [this, c]
    · have : ¬ x.toNat = i := by omega
      simp [this, c]
theorem mask_bit (l : List Int) (h : ∀ x ∈ l, 0 ≤ x) (i : Nat) : (maskN l).testBit i = decide ((i : Int) ∈ l) := by
  unfold maskN
  rw [fold_bit i l 0 h]
  simp
theorem fold_lt (n : Nat) : ∀ (l : List Int) (s : Nat), s < 2 ^ n → (∀ x ∈ l, 0 ≤ x ∧ x < (n : Int)) → l.foldl (fun s m => s ||| 2 ^ m.toNat) s < 2 ^ n
  | [], s, hs, _ => hs
  | x :: t, s, hs, h => by
    have h0 := h x (by simp)
    rw [List.foldl_cons]
    refine fold_lt n t _ (Nat.or_lt_two_pow hs ?_) (fun y hy => h y (by simp [hy]))
    exact Nat.pow_lt_pow_right (by omega) (by omega)
theorem mask_lt (n : Nat) (l : List Int) (h : ∀ x ∈ l, 0 ≤ x ∧ x < (n : Int)) : maskN l < 2 ^ n := fold_lt n l 0 (Nat.two_pow_pos n) h
theorem and_zero (a b : Nat) : a &&& b = 0 ↔ ∀ i, ¬ (a.testBit i = true ∧ b.testBit i = true) := by
  constructor
  · intro h i ⟨h1, h2⟩
    have : (a &&& b).testBit i = true := by rw [Nat.testBit_and, h1, h2]; rfl
    rw [h, Nat.zero_testBit] at this
    exact Bool.false_ne_true this
  · intro h
    apply Nat.eq_of_testBit_eq
    intro i
    rw [Nat.testBit_and, Nat.zero_testBit]
    have := h i
    cases h1 : a.testBit i <;> cases h2 : b.testBit i <;> simp_all
theorem and_self (a b : Nat) : a &&& b = b ↔ ∀ i, b.testBit i = true → a.testBit i = true := by
  constructor
  · intro h i h2
    have : (a &&& b).testBit i = true := by rw [h]; exact h2
    rw [Nat.testBit_and] at this
    simp_all
  · intro h
    apply Nat.eq_of_testBit_eq
    intro i
    rw [Nat.testBit_and]
    have := h i
    cases h1 : a.testBit i <;> cases h2 : b.testBit i <;> simp_all
theorem i64_in {x : Int} (h0 : 0 ≤ x) (h1 : x < 9223372036854775808) : IntKind.i64.wrap x = x := by
  simp [IntKind.wrap, IntKind.bits, IntKind.signed]
  omega
theorem ofInt_nat (a : Nat) (ha : a < 9223372036854775808) : (BitVec.ofInt 64 (a : Int)).toNat = a := by
  rw [BitVec.ofInt_natCast, BitVec.toNat_ofNat]
  exact Nat.mod_eq_of_lt (by omega)
theorem and_i64 (a b : Nat) (ha : a < 9223372036854775808) (hb : b < 9223372036854775808) : Go.bits .and .i64 (a : Int) (b : Int) = ((a &&& b : Nat) : Int) := by
  have hx : a &&& b < 2 ^ 63 := Nat.and_lt_two_pow _ (by omega)
  show IntKind.i64.wrap ((BitVec.ofInt 64 (a : Int) &&& BitVec.ofInt 64 (b : Int)).toNat : Int) = _
  rw [BitVec.toNat_and, ofInt_nat a ha, ofInt_nat b hb, i64_in (by omega) (by omega)]
theorem or_i64 (a b : Nat) (ha : a < 9223372036854775808) (hb : b < 9223372036854775808) : Go.bits .or .i64 (a : Int) (b : Int) = ((a ||| b : Nat) : Int) := by
  have hx : a ||| b < 2 ^ 63 := Nat.or_lt_two_pow (by omega) (by omega)
  show IntKind.i64.wrap ((BitVec.ofInt 64 (a : Int) ||| BitVec.ofInt 64 (b : Int)).toNat : Int) = _
  rw [BitVec.toNat_or, ofInt_nat a ha, ofInt_nat b hb, i64_in (by omega) (by omega)]
theorem andNot_i64 (a b : Nat) (ha : a < 9223372036854775808) (hb : b < 9223372036854775808) : Go.bits .andNot .i64 (a : Int) (b : Int) = ((a &&& (18446744073709551615 - b) : Nat) : Int) := by
  have hx : a &&& (18446744073709551615 - b) ≤ a := Nat.and_le_left
  show IntKind.i64.wrap ((BitVec.ofInt 64 (a : Int) &&& ~~~ BitVec.ofInt 64 (b : Int)).toNat : Int) = _
  rw [BitVec.toNat_and, BitVec.toNat_not, ofInt_nat a ha, ofInt_nat b hb]
  have : 2 ^ 64 - 1 - b = 18446744073709551615 - b := by omega
  rw [this, i64_in (by omega) (by omega)]
theorem shl_one {m : Int} (h0 : 0 ≤ m) (h1 : m < 62) : shl .i64 1 m = ((2 ^ m.toNat : Nat) : Int) := by
  have hm : min m.toNat IntKind.i64.bits = m.toNat := by
    have : IntKind.i64.bits = 64 := rfl
    omega
  have hp : 2 ^ m.toNat < 2 ^ 62 := Nat.pow_lt_pow_right (by omega) (by omega)
  unfold shl
  rw [hm, Int.one_mul, show ((2 : Int) ^ m.toNat) = ((2 ^ m.toNat : Nat) : Int) by simp]
  generalize 2 ^ m.toNat = z at hp
  exact i64_in (by omega) (by omega)
theorem shr_nat (a : Nat) {m : Int} (h1 : m ≤ 64) : shr .i64 (a : Int) m = ((a / 2 ^ m.toNat : Nat) : Int) := by
  have hm : min m.toNat IntKind.i64.bits = m.toNat := by
    have : IntKind.i64.bits = 64 := rfl
    omega
  unfold shr
  rw [hm]
  simp
/-- A bit, as the program asks for it. -/
theorem bit_i64 (a : Nat) {m : Int} (ha : a < 9223372036854775808) (h0 : 0 ≤ m) (h1 : m ≤ 64) : Go.bits .and .i64 (shr .i64 (a : Int) m) 1 = if a.testBit m.toNat = true then 1 else 0 := by
  have hd : a / 2 ^ m.toNat ≤ a := Nat.div_le_self _ _
  rw [shr_nat a h1, show (1 : Int) = ((1 : Nat) : Int) from rfl, and_i64 _ _ (by omega) (by omega), Nat.and_one_is_mod, Nat.testBit_eq_decide_div_mod_eq]
  by_cases c : a / 2 ^ m.toNat % 2 = 1
  · simp [c]
  · have c2 : a / 2 ^ m.toNat % 2 = 0 := by omega
    simp [c2]
/-- Two lists have a member in common. -/
def meet (a b : List Int) : Bool := a.any (fun x => decide (x ∈ b))
/-- A list has all of another one. -/
def hasAll (a b : List Int) : Bool := b.all (fun x => decide (x ∈ a))
theorem meet_mask (a b : List Int) (ha : ∀ x ∈ a, 0 ≤ x) (hb : ∀ x ∈ b, 0 ≤ x) : meet a b = true ↔ ¬ maskN a &&& maskN b = 0 := by
  rw [and_zero]
  simp only [mask_bit a ha, mask_bit b hb, meet, List.any_eq_true, decide_eq_true_eq]
  constructor
  · rintro ⟨x, h1, h2⟩ h
    have := ha x h1
    refine h x.toNat ⟨?_, ?_⟩
    · rw [Int.toNat_of_nonneg this]; exact h1
    · rw [Int.toNat_of_nonneg this]; exact h2
  · intro h
    have : ∃ i : Nat, (i : Int) ∈ a ∧ (i : Int) ∈ b := by
      by_cases c : ∃ i : Nat, (i : Int) ∈ a ∧ (i : Int) ∈ b
      · exact c
      · exact absurd (fun i hi => c ⟨i, hi⟩) h
    obtain ⟨i, h1, h2⟩ := this
    exact ⟨i, h1, h2⟩
theorem has_mask (a b : List Int) (ha : ∀ x ∈ a, 0 ≤ x) (hb : ∀ x ∈ b, 0 ≤ x) : hasAll a b = true ↔ maskN a &&& maskN b = maskN b := by
  rw [and_self]
  simp only [mask_bit a ha, mask_bit b hb, hasAll, List.all_eq_true, decide_eq_true_eq]
  constructor
  · intro h i hi
    exact h i hi
  · intro h x hx
    have := hb x hx
    have h2 := h x.toNat
    rw [Int.toNat_of_nonneg this] at h2
    exact h2 hx
/-- Members rise, of so many. -/
def rises (many : Int) (pre : List Int) (h : Int) : Bool := decide (0 ≤ h ∧ h < many) && (match pre.getLast? with | some q => decide (q < h) | none => true)
def members (many : Int) (l : List Int) : Bool := okFrom (rises many) [] l
theorem members_in {many : Int} {l : List Int} (h : members many l = true) : ∀ x ∈ l, 0 ≤ x ∧ x < many := by
  intro x hx
  obtain ⟨a, t, e⟩ := List.append_of_mem hx
  have := (okFrom_iff (rises many) l []).1 h a x t e.symm
  simp only [rises, Bool.and_eq_true, decide_eq_true_eq] at this
  exact this.1
/-- Groups are as said, of so many members. -/
def groups (many : Int) (l : List (List Int)) : Bool := l.all (fun g => decide (g.length ≠ 0) && members many g) && decide (l.length ≤ 40)
theorem groups_iff {many : Int} {l : List (List Int)} : groups many l = true ↔ (∀ g ∈ l, g.length ≠ 0 ∧ members many g = true) ∧ l.length ≤ 40 := by
  simp [groups]
end Go.Proofs.Ytinbfclfglogmaa.Sets
