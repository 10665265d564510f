-- Written by programs of this session (wip/prune.py, wip/xp.py), out of the translation and the printed words; what the law does not reach is left out. Not trusted: Lean checks it.
import Derived.Laws.World
import Derived.Test.YtgcliajajcinpaaZXRacksOfPx0
import Derived.Test.YtgcliajajcinpaaZXRacksOfW0
import Derived.Test.YtgcliajajcinpaaZXRacksOfPx2
import Derived.Test.YtgcliajajcinpaaZXRacksOfPx20
import Derived.Test.YtgcliajajcinpaaZXRacksOfPx21
import Derived.Test.YtgcliajajcinpaaZXRacksOfPx28
import Derived.Test.YtgcliajajcinpaaZXRacksOfO0
import Derived.Laws.BitsAllLaws
import Derived.Test.YtgcliajajcinpaaZXRacksOfPx1
import Derived.Test.YtgcliajajcinpaaZXRacksOfPx10
import Derived.Test.YtgcliajajcinpaaZXRacksOfPx17
import Derived.Maps.Views
section
namespace Go.Proofs.Ytgcliajajcinpaa.Mk
open Go.RowKit Go.Proofs.YtgcliajajcinpaaW.PrintWords Go.Proofs.YtgcliajajcinpaaW.PrintLast
set_option linter.unusedVariables false
set_option linter.unusedSimpArgs false
abbrev Pl := Nat × Nat × Bool
def adr (p : Pl) : Addr := ⟨p.1, p.2.1, none⟩
def three (k : Int) : Bool := k % 3 == 0
def mkv (t : Bool) (k : Int) : Value := if t = true then .bool (three k) else .int .i64 k
def plain : Bool → Value → Prop
  | true, u => ∃ z, u = .bool z
  | false, u => ∃ z : Int, u = .int .i64 z
theorem plain_mkv (t : Bool) (k : Int) : plain t (mkv t k) := by cases t <;> exact ⟨_, rfl⟩
theorem plain_one {s t : Bool} {u : Value} (h : plain s u) (h2 : plain t u) : s = t := by
  cases s <;> cases t <;> obtain ⟨a, rfl⟩ := h <;> obtain ⟨b, hb⟩ := h2 <;> first | rfl | cases hb
def puts : World → List Pl → Int → World
  | w, [], _ => w
  | w, p :: l, k => puts (w.setCell (adr p) (mkv p.2.2 k)) l (k + 1)
theorem set_size (w : World) (a : Addr) (u : Value) : (w.setCell a u).heap.size = w.heap.size := by simp [World.setCell]
theorem puts_size : ∀ (l : List Pl) (w : World) (k : Int), (puts w l k).heap.size = w.heap.size
  | [], _, _ => rfl
  | p :: l, w, k => by rw [puts, puts_size l, set_size]
theorem set_cong {w1 w2 : World} {i : Nat} (h : w1.heap[i]? = w2.heap[i]?) (a : Addr) (u : Value) : (w1.setCell a u).heap[i]? = (w2.setCell a u).heap[i]? := by
  simp only [World.setCell, Array.getElem?_modify, h]
theorem puts_cong {i : Nat} : ∀ (l : List Pl) {w1 w2 : World} (k : Int), w1.heap[i]? = w2.heap[i]? → (puts w1 l k).heap[i]? = (puts w2 l k).heap[i]?
  | [], _, _, _, h => h
  | p :: l, _, _, k, h => puts_cong l (k + 1) (set_cong h _ _)
theorem puts_app : ∀ (l m : List Pl) (w : World) (k : Int), puts w (l ++ m) k = puts (puts w l k) m (k + (l.length : Int))
  | [], m, w, k => by simp [puts]
  | p :: l, m, w, k => by
    rw [List.cons_append, puts, puts_app l m, puts]
    congr 1
    simp only [List.length_cons]
    omega
theorem puts_far {i : Nat} : ∀ (l : List Pl) (w : World) (k : Int), (∀ p ∈ l, p.1 ≠ i) → (puts w l k).heap[i]? = w.heap[i]?
  | [], _, _, _ => rfl
  | p :: l, w, k, h => by
    rw [puts, puts_far l _ _ (fun q hq => h q (List.mem_cons_of_mem _ hq))]
    exact Below.heap_setCell w _ _ _ (fun e => h p List.mem_cons_self e.symm)
structure Wr (w w' : World) (ps : List Pl) (k : Int) : Prop where
  os : w'.os = w.os
  tape : w'.tape = w.tape
  output : w'.output = w.output
  size : w.heap.size ≤ w'.heap.size
  block : ∀ i, i < w.heap.size → w'.heap[i]? = (puts w ps k).heap[i]?
theorem Wr.refl (w : World) (k : Int) : Wr w w [] k := ⟨rfl, rfl, rfl, Nat.le_refl _, fun _ _ => rfl⟩
theorem Wr.below {w w1 w2 : World} {ps : List Pl} {k : Int} (h : Wr w w1 ps k) (hb : Below w1.heap.size w1 w2) : Wr w w2 ps k :=
  ⟨hb.os.trans h.os, hb.tape.trans h.tape, hb.output.trans h.output, Nat.le_trans h.size hb.size, fun i hi => (hb.block i (Nat.lt_of_lt_of_le hi h.size)).trans (h.block i hi)⟩
theorem Wr.trans {w w1 w2 : World} {ps bs : List Pl} {k j : Int} (h : Wr w w1 ps k) (g : Wr w1 w2 bs j) (hj : j = k + (ps.length : Int)) : Wr w w2 (ps ++ bs) k := by
  subst hj
  refine ⟨g.os.trans h.os, g.tape.trans h.tape, g.output.trans h.output, Nat.le_trans h.size g.size, fun i hi => ?_⟩
  rw [g.block i (Nat.lt_of_lt_of_le hi h.size), puts_app]
  exact puts_cong bs _ (h.block i hi)
theorem Wr.one (w : World) (p : Pl) (k : Int) : Wr w (w.setCell (adr p) (mkv p.2.2 k)) [p] k :=
  ⟨rfl, rfl, rfl, Nat.le_of_eq (set_size w _ _).symm, fun _ _ => rfl⟩
theorem Wr.put {w w1 : World} {ps : List Pl} {k j : Int} (h : Wr w w1 ps k) (p : Pl) (hj : j = k + (ps.length : Int)) : Wr w (w1.setCell (adr p) (mkv p.2.2 j)) (ps ++ [p]) k :=
  h.trans (Wr.one w1 p j) hj
theorem Wr.kept {w w' : World} {ps : List Pl} {k : Int} {S : Nat → Prop} (h : Wr w w' ps k) (hS : ∀ p ∈ ps, S p.1) : Kept w w' S :=
  ⟨h.size, fun i hi hn => (h.block i hi).trans (puts_far ps w k (fun p hp e => hn (e ▸ hS p hp)))⟩
theorem Wr.under {w0 w w' : World} {ps : List Pl} {k : Int} (h : Wr w w' ps k) (hb : Below w0.heap.size w0 w) (ha : ∀ p ∈ ps, w0.heap.size ≤ p.1) : Below w0.heap.size w0 w' :=
  ⟨h.os.trans hb.os, h.tape.trans hb.tape, h.output.trans hb.output, Nat.le_trans hb.size h.size, fun i hi =>
    ((h.block i (Nat.lt_of_lt_of_le hi hb.size)).trans (puts_far ps w k (fun p hp e => by have := ha p hp; omega))).trans (hb.block i hi)⟩
def okc (w : World) (p : Pl) : Prop := (∃ u, w.cell? (adr p) = some u ∧ plain p.2.2 u) ∧ w.frozen? (adr p) = false
def okh (w : World) (q : (Nat × Nat) × Value) : Prop := w.cell? ⟨q.1.1, q.1.2, none⟩ = some q.2 ∧ ∃ A n c, q.2 = .slice A n c
theorem adr_ne {p q : Pl} (h : ¬ (p.1 = q.1 ∧ p.2.1 = q.2.1)) : adr p ≠ adr q := by
  intro e
  injection e with e1 e2
  exact h ⟨e1, e2⟩
theorem okc_set {w : World} {p q : Pl} (hp : okc w p) (hq : okc w q) (k : Int) : okc (w.setCell (adr p) (mkv p.2.2 k)) q := by
  refine ⟨?_, by rw [World.frozen?_setCell]; exact hq.2⟩
  obtain ⟨⟨u, hu, hpu⟩, _⟩ := hp
  obtain ⟨⟨v, hv, hpv⟩, _⟩ := hq
  by_cases c : p.1 = q.1 ∧ p.2.1 = q.2.1
  · have e : adr p = adr q := by unfold adr; rw [c.1, c.2]
    rw [e] at hu ⊢
    rw [hu] at hv
    cases hv
    exact ⟨_, World.cell?_setCell_same _ _ _ hu, by rw [plain_one hpv hpu]; exact plain_mkv _ _⟩
  · exact ⟨v, by rw [World.cell?_setCell_other (h := adr_ne c)]; exact hv, hpv⟩
theorem okh_set {w : World} {p : Pl} {q : (Nat × Nat) × Value} (hp : okc w p) (hq : okh w q) (k : Int) : okh (w.setCell (adr p) (mkv p.2.2 k)) q := by
  obtain ⟨⟨u, hu, hpu⟩, _⟩ := hp
  obtain ⟨hv, A, n, c, he⟩ := hq
  refine ⟨?_, A, n, c, he⟩
  rw [World.cell?_setCell_other]
  · exact hv
  · intro e
    rw [e, hv, he] at hu
    cases hu
    cases hb : p.2.2 <;> rw [hb] at hpu <;> obtain ⟨z, hz⟩ := hpu <;> cases hz
structure Pt (w : World) (hs : List ((Nat × Nat) × Value)) (ps : List Pl) : Prop where
  h : ∀ q ∈ hs, okh w q
  a : ∀ p ∈ ps, okc w p
theorem Pt.nil (w : World) : Pt w [] [] := ⟨fun _ h => by simp at h, fun _ h => by simp at h⟩
theorem Pt.app {w : World} {h1 h2 : List ((Nat × Nat) × Value)} {a1 a2 : List Pl} (x : Pt w h1 a1) (y : Pt w h2 a2) : Pt w (h1 ++ h2) (a1 ++ a2) :=
  ⟨fun q hq => (List.mem_append.1 hq).elim (x.h q) (y.h q), fun p hp => (List.mem_append.1 hp).elim (x.a p) (y.a p)⟩
theorem Pt.left {w : World} {h1 h2 : List ((Nat × Nat) × Value)} {a1 a2 : List Pl} (x : Pt w (h1 ++ h2) (a1 ++ a2)) : Pt w h1 a1 :=
  ⟨fun q hq => x.h q (List.mem_append_left _ hq), fun p hp => x.a p (List.mem_append_left _ hp)⟩
theorem Pt.right {w : World} {h1 h2 : List ((Nat × Nat) × Value)} {a1 a2 : List Pl} (x : Pt w (h1 ++ h2) (a1 ++ a2)) : Pt w h2 a2 :=
  ⟨fun q hq => x.h q (List.mem_append_right _ hq), fun p hp => x.a p (List.mem_append_right _ hp)⟩
theorem Pt.puts {hs : List ((Nat × Nat) × Value)} {ps : List Pl} : ∀ (bs : List Pl) {w : World} (k : Int), Pt w hs ps → (∀ p ∈ bs, okc w p) → Pt (puts w bs k) hs ps
  | [], _, _, h, _ => h
  | p :: bs, w, k, h, hb => by
    have hp := hb p List.mem_cons_self
    exact Pt.puts bs (k + 1) ⟨fun q hq => okh_set hp (h.h q hq) k, fun q hq => okc_set hp (h.a q hq) k⟩ (fun q hq => okc_set hp (hb q (List.mem_cons_of_mem _ hq)) k)
theorem okc_block {w w' : World} {p : Pl} (h : okc w p) (hb : ∀ i, i < w.heap.size → w'.heap[i]? = w.heap[i]?) : okc w' p := by
  obtain ⟨⟨u, hu, hp⟩, hf⟩ := h
  have := hb _ (World.block_lt_of_cell? _ _ hu)
  exact ⟨⟨u, by rw [World.cell?_of_block this]; exact hu, hp⟩, by rw [World.frozen?_of_block this]; exact hf⟩
theorem okh_block {w w' : World} {q : (Nat × Nat) × Value} (h : okh w q) (hb : ∀ i, i < w.heap.size → w'.heap[i]? = w.heap[i]?) : okh w' q :=
  ⟨by rw [World.cell?_of_block (hb _ (World.block_lt_of_cell? _ _ h.1))]; exact h.1, h.2⟩
theorem Pt.block {w w' : World} {hs : List ((Nat × Nat) × Value)} {ps : List Pl} (h : Pt w hs ps) (hb : ∀ i, i < w.heap.size → w'.heap[i]? = w.heap[i]?) : Pt w' hs ps :=
  ⟨fun q hq => okh_block (h.h q hq) hb, fun p hp => okc_block (h.a p hp) hb⟩
theorem Pt.below {w w' : World} {hs : List ((Nat × Nat) × Value)} {ps : List Pl} (h : Pt w hs ps) (hb : Below w.heap.size w w') : Pt w' hs ps := h.block hb.block
theorem Pt.wr {w w' : World} {hs : List ((Nat × Nat) × Value)} {ps bs : List Pl} {k : Int} (h : Pt w hs ps) (hw : Wr w w' bs k) (hb : ∀ p ∈ bs, okc w p) : Pt w' hs ps :=
  (h.puts bs k hb).block (fun i hi => hw.block i (by rwa [puts_size] at hi))
theorem Pt.set {w : World} {hs : List ((Nat × Nat) × Value)} {ps : List Pl} (h : Pt w hs ps) {p : Pl} (hp : okc w p) (k : Int) : Pt (w.setCell (adr p) (mkv p.2.2 k)) hs ps :=
  ⟨fun q hq => okh_set hp (h.h q hq) k, fun q hq => okc_set hp (h.a q hq) k⟩
def Hs (w : World) (ps : List Pl) (k : Int) : Prop := ∀ (i : Nat) (p : Pl), ps[i]? = some p → w.cell? (adr p) = some (mkv p.2.2 (k + (i : Int)))
theorem Hs.block {w w' : World} {ps : List Pl} {k : Int} (h : Hs w ps k) (hb : ∀ i, i < w.heap.size → w'.heap[i]? = w.heap[i]?) : Hs w' ps k :=
  fun i p hp => by rw [World.cell?_of_block (hb _ (World.block_lt_of_cell? _ _ (h i p hp)))]; exact h i p hp
theorem Hs.below {w w' : World} {ps : List Pl} {k : Int} (h : Hs w ps k) (hb : Below w.heap.size w w') : Hs w' ps k := h.block hb.block
theorem Hs.head {w : World} {p : Pl} {ps : List Pl} {k : Int} (h : Hs w (p :: ps) k) : w.cell? (adr p) = some (mkv p.2.2 k) := by
  have := h 0 p rfl
  simpa using this
theorem Hs.left {w : World} {ps bs : List Pl} {k : Int} (h : Hs w (ps ++ bs) k) : Hs w ps k := fun i p hp => h i p (by
  rw [List.getElem?_append_left (List.getElem?_eq_some_iff.1 hp).1]; exact hp)
theorem Hs.right {w : World} {ps bs : List Pl} {k : Int} (h : Hs w (ps ++ bs) k) : Hs w bs (k + (ps.length : Int)) := fun i p hp => by
  have := h (ps.length + i) p (by rw [List.getElem?_append_right (by omega), Nat.add_sub_cancel_left]; exact hp)
  rw [this]
  congr 2
  omega
def apart (ps : List Pl) : Prop := (ps.map fun p => (p.1, p.2.1)).Nodup
theorem puts_cell : ∀ (l : List Pl) (w : World) (k : Int) (q : Pl), (∀ p ∈ l, ¬ (p.1 = q.1 ∧ p.2.1 = q.2.1)) → (puts w l k).cell? (adr q) = w.cell? (adr q)
  | [], _, _, _, _ => rfl
  | p :: l, w, k, q, h => by
    rw [puts, puts_cell l _ _ q (fun r hr => h r (List.mem_cons_of_mem _ hr)), World.cell?_setCell_other (h := adr_ne (h p List.mem_cons_self))]
theorem hs_puts : ∀ (ps : List Pl) {w : World} (k : Int), apart ps → (∀ p ∈ ps, okc w p) → Hs (puts w ps k) ps k
  | [], _, _, _, _ => fun i p h => by simp at h
  | q :: ps, w, k, hn, ho => by
    have hq := ho q List.mem_cons_self
    unfold apart at hn
    rw [List.map_cons, List.nodup_cons] at hn
    have ih := hs_puts ps (w := w.setCell (adr q) (mkv q.2.2 k)) (k + 1) hn.2 (fun p hp => okc_set hq (ho p (List.mem_cons_of_mem _ hp)) k)
    intro i p hp
    cases i with
    | zero =>
      simp only [List.getElem?_cons_zero, Option.some.injEq] at hp
      subst hp
      rw [puts, puts_cell ps _ _ q (fun r hr e => hn.1 (List.mem_map.2 ⟨r, hr, by rw [e.1, e.2]⟩))]
      obtain ⟨⟨u, hu, _⟩, _⟩ := hq
      rw [World.cell?_setCell_same _ _ _ hu]
      congr 2
      omega
    | succ i =>
      simp only [List.getElem?_cons_succ] at hp
      rw [puts, ih i p hp]
      congr 2
      omega
theorem Wr.hs {w w' : World} {ps : List Pl} {k : Int} (h : Wr w w' ps k) (hn : apart ps) (ho : ∀ p ∈ ps, okc w p) : Hs w' ps k :=
  (hs_puts ps k hn ho).block (fun i hi => h.block i (by rwa [puts_size] at hi))
structure Md where
  sz : Nat
  Sh : Nat → Nat → List ((Nat × Nat) × Value) → List Pl → Prop
namespace Md
def int : Md := ⟨1, fun g o hs ps => hs = [] ∧ ps = [(g, o, false)]⟩
def bool : Md := ⟨1, fun g o hs ps => hs = [] ∧ ps = [(g, o, true)]⟩
def pair (a b : Md) : Md := ⟨a.sz + b.sz, fun g o hs ps => ∃ h1 a1 h2 a2, a.Sh g o h1 a1 ∧ b.Sh g (o + a.sz) h2 a2 ∧ hs = h1 ++ h2 ∧ ps = a1 ++ a2⟩
def N (d : Md) (g : Nat) : Nat → Nat → List ((Nat × Nat) × Value) → List Pl → Prop
  | _, 0, hs, ps => hs = [] ∧ ps = []
  | j, n + 1, hs, ps => ∃ h1 a1 h2 a2, d.Sh g (j * d.sz) h1 a1 ∧ N d g (j + 1) n h2 a2 ∧ hs = h1 ++ h2 ∧ ps = a1 ++ a2
def Row (d : Md) (v : Value) (hs : List ((Nat × Nat) × Value)) (ps : List Pl) : Prop :=
  ∃ A n c, v = .slice A n c ∧ n ≤ c ∧ n ≤ 9223372036854775807 ∧ ((n = 0 ∧ hs = [] ∧ ps = []) ∨ ∃ g, A = some ⟨g, 0, none⟩ ∧ d.N g 0 n hs ps)
def Nr (d : Md) (A : Option Addr) (j n : Nat) (hs : List ((Nat × Nat) × Value)) (ps : List Pl) : Prop := (n = 0 ∧ hs = [] ∧ ps = []) ∨ ∃ g, A = some ⟨g, 0, none⟩ ∧ d.N g j n hs ps
theorem Nr_nil {d : Md} {A : Option Addr} {j : Nat} {hs : List ((Nat × Nat) × Value)} {ps : List Pl} (h : d.Nr A j 0 hs ps) : ps = [] := by
  rcases h with ⟨_, _, h⟩ | ⟨g, _, h⟩
  · exact h
  · exact h.2
theorem Nr_cons {d : Md} {A : Option Addr} {j n : Nat} {hs : List ((Nat × Nat) × Value)} {ps : List Pl} (h : d.Nr A j (n + 1) hs ps) :
    ∃ g, A = some ⟨g, 0, none⟩ ∧ ∃ h1 a1 h2 a2, d.Sh g (j * d.sz) h1 a1 ∧ d.Nr A (j + 1) n h2 a2 ∧ hs = h1 ++ h2 ∧ ps = a1 ++ a2 := by
  rcases h with ⟨h, _⟩ | ⟨g, hA, h1, a1, h2, a2, x, y, z⟩
  · cases h
  · exact ⟨g, hA, h1, a1, h2, a2, x, .inr ⟨g, hA, y⟩, z⟩
def slice (d : Md) : Md := ⟨1, fun g o hs ps => ∃ v h1, d.Row v h1 ps ∧ hs = ((g, o), v) :: h1⟩
end Md
end Go.Proofs.Ytgcliajajcinpaa.Mk
end
section
namespace Go.Proofs.Ytgcliajajcinpaa.Mk
open Go.RowKit Go.Proofs.YtgcliajajcinpaaW.PrintWords Go.Proofs.YtgcliajajcinpaaW.PrintLast
set_option linter.unusedVariables false
set_option linter.unusedSimpArgs false
theorem apart_nil : apart [] := List.nodup_nil
theorem apart_app {a b : List Pl} (ha : apart a) (hb : apart b) (h : ∀ p ∈ a, ∀ q ∈ b, ¬ (p.1 = q.1 ∧ p.2.1 = q.2.1)) : apart (a ++ b) := by
  unfold apart at *
  rw [List.map_append, List.nodup_append]
  refine ⟨ha, hb, fun x hx y hy e => ?_⟩
  obtain ⟨p, hp, rfl⟩ := List.mem_map.1 hx
  obtain ⟨q, hq, rfl⟩ := List.mem_map.1 hy
  injection e with e1 e2
  exact h p hp q hq ⟨e1, e2⟩
structure Br {α : Type} (d : Kd α) (m : Md) (c inn : α → Nat) (ex : α → Prop) : Prop where
  sz : m.sz = d.sz
  el : ∀ {w : World} {base : Nat} {ok : Nat → Prop} {x : α} {cs : List Value} {g o : Nat}, d.M w base ok x cs → (∀ k, ok k → k ≠ g) → (∀ j u, cs[j]? = some u → w.cell? ⟨g, o + j, none⟩ = some u) → (∀ j, w.frozen? ⟨g, o + j, none⟩ = false) →
    ∃ hs ps, m.Sh g o hs ps ∧ Pt w hs ps ∧ ps.length = c x ∧ (ex x → apart ps) ∧ (∀ p ∈ ps, (p.1 = g ∧ o ≤ p.2.1 ∧ p.2.1 < o + m.sz) ∨ (ok p.1 ∧ inn x ≠ 0)) ∧ ∀ q ∈ hs, q.1.1 = g ∨ ok q.1.1
namespace Br
variable {α β : Type}
theorem int : Br (Kd.int .i64) Md.int (fun _ => 1) (fun _ => 0) (fun _ => True) where
  sz := rfl
  el := by
    intro w base ok x cs g o h _ hc hf
    obtain rfl : cs = [.int .i64 x] := h
    refine ⟨[], [(g, o, false)], ⟨rfl, rfl⟩, ⟨fun _ h => by simp at h, fun p hp => ?_⟩, rfl, fun _ => by simp [apart], fun p hp => ?_, fun _ h => by simp at h⟩
    · obtain rfl := List.mem_singleton.1 hp
      exact ⟨⟨_, hc 0 _ rfl, x, rfl⟩, hf 0⟩
    · obtain rfl := List.mem_singleton.1 hp
      exact .inl ⟨rfl, Nat.le_refl _, Nat.lt_succ_self _⟩
theorem bool : Br Kd.bool Md.bool (fun _ => 1) (fun _ => 0) (fun _ => True) where
  sz := rfl
  el := by
    intro w base ok x cs g o h _ hc hf
    obtain rfl : cs = [.bool x] := h
    refine ⟨[], [(g, o, true)], ⟨rfl, rfl⟩, ⟨fun _ h => by simp at h, fun p hp => ?_⟩, rfl, fun _ => by simp [apart], fun p hp => ?_, fun _ h => by simp at h⟩
    · obtain rfl := List.mem_singleton.1 hp
      exact ⟨⟨_, hc 0 _ rfl, x, rfl⟩, hf 0⟩
    · obtain rfl := List.mem_singleton.1 hp
      exact .inl ⟨rfl, Nat.le_refl _, Nat.lt_succ_self _⟩
theorem pair {d1 : Kd α} {d2 : Kd β} {m1 m2 : Md} {c1 i1 : α → Nat} {c2 i2 : β → Nat} {e1 : α → Prop} {e2 : β → Prop} (h1 : Br d1 m1 c1 i1 e1) (h2 : Br d2 m2 c2 i2 e2) :
    Br (Kd.pair d1 d2) (Md.pair m1 m2) (fun x => c1 x.1 + c2 x.2) (fun x => i1 x.1 + i2 x.2) (fun x => e1 x.1 ∧ e2 x.2 ∧ (i1 x.1 = 0 ∨ i2 x.2 = 0)) where
  sz := by show m1.sz + m2.sz = d1.sz + d2.sz; rw [h1.sz, h2.sz]
  el := by
    rintro w base ok x cs g o ⟨u0, u1, rfl, hM1, hM2⟩ hg hc hf
    have hl := d1.K_len (d1.K_of_M hM1)
    obtain ⟨s1, a1, sh1, p1, l1, x1, b1, q1⟩ := h1.el (g := g) (o := o) hM1 hg (fun j u hu => hc j u (by rw [List.getElem?_append_left (List.getElem?_eq_some_iff.1 hu).1]; exact hu)) hf
    obtain ⟨s2, a2, sh2, p2, l2, x2, b2, q2⟩ := h2.el (g := g) (o := o + m1.sz) hM2 hg (fun j u hu => by
      have := hc (m1.sz + j) u (by rw [List.getElem?_append_right (by rw [hl, h1.sz]; omega), hl, h1.sz, Nat.add_sub_cancel_left]; exact hu)
      rw [← Nat.add_assoc] at this
      exact this) (fun j => by have := hf (m1.sz + j); rw [← Nat.add_assoc] at this; exact this)
    refine ⟨s1 ++ s2, a1 ++ a2, ⟨s1, a1, s2, a2, sh1, sh2, rfl, rfl⟩, p1.app p2, by rw [List.length_append, l1, l2], ?_, ?_, fun q hq => (List.mem_append.1 hq).elim (q1 q) (q2 q)⟩
    · rintro ⟨y1, y2, y3⟩
      refine apart_app (x1 y1) (x2 y2) (fun p hp q hq e => ?_)
      rcases b1 p hp with hp' | ⟨hp', hp2⟩
      · rcases b2 q hq with hq' | ⟨hq', _⟩
        · omega
        · exact hg _ hq' (by rw [← e.1]; exact hp'.1)
      · rcases b2 q hq with hq' | ⟨_, hq2⟩
        · exact hg _ hp' (by rw [e.1]; exact hq'.1)
        · exact y3.elim hp2 hq2
    · intro p hp
      show (p.1 = g ∧ o ≤ p.2.1 ∧ p.2.1 < o + (m1.sz + m2.sz)) ∨ _
      rcases List.mem_append.1 hp with hp | hp
      · rcases b1 p hp with hp' | hp'
        · exact .inl ⟨hp'.1, by omega, by omega⟩
        · exact .inr ⟨hp'.1, by have := hp'.2; omega⟩
      · rcases b2 p hp with hp' | hp'
        · exact .inl ⟨hp'.1, by omega, by omega⟩
        · exact .inr ⟨hp'.1, by have := hp'.2; omega⟩
end Br
section
variable {α : Type} {d : Kd α} {m : Md} {c inn : α → Nat} {ex : α → Prop}
def tot (c : α → Nat) (xs : List α) : Nat := (xs.map c).sum
theorem tot_one (xs : List α) : tot (fun _ => 1) xs = xs.length := by
  induction xs with
  | nil => rfl
  | cons x xs ih =>
    unfold tot at *
    rw [List.map_cons, List.sum_cons, ih, List.length_cons, Nat.add_comm]
theorem tot_drop (c : α → Nat) (xs : List α) (j : Nat) (h : j < xs.length) : tot c (xs.drop j) = c xs[j] + tot c (xs.drop (j + 1)) := by
  unfold tot
  rw [List.drop_eq_getElem_cons h, List.map_cons, List.sum_cons]
theorem row_n (hb : Br d m c inn ex) {w : World} {base g : Nat} {ok : Nat → Prop} {Q : Nat → Nat → Prop} (xs : List α)
    (E : ∀ i (h : i < xs.length), ∃ cs, d.M w base (fun k => ok k ∧ k ≠ g ∧ Q i k) xs[i] cs ∧ (∀ j u, cs[j]? = some u → w.cell? ⟨g, i * m.sz + j, none⟩ = some u) ∧ ∀ j, w.frozen? ⟨g, i * m.sz + j, none⟩ = false) :
    ∀ n j, j + n = xs.length → ∃ hs ps, m.N g j n hs ps ∧ Pt w hs ps ∧ ps.length = tot c (xs.drop j) ∧ (∀ q ∈ hs, q.1.1 = g ∨ ok q.1.1) ∧
      (∀ p ∈ ps, (p.1 = g ∧ j * m.sz ≤ p.2.1) ∨ (ok p.1 ∧ p.1 ≠ g ∧ ∃ i, j ≤ i ∧ Q i p.1 ∧ ∃ h : i < xs.length, inn xs[i] ≠ 0)) ∧
      ((∀ x ∈ xs, ex x) → ((∀ i i' k, Q i k → Q i' k → i = i') ∨ ∀ x ∈ xs, inn x = 0) → apart ps)
  | 0, j, e => ⟨[], [], ⟨rfl, rfl⟩, Pt.nil w, by
      rw [List.drop_eq_nil_of_le (by omega)]
      rfl, fun q hq => by simp at hq, fun p hp => by simp at hp, fun _ _ => apart_nil⟩
  | n + 1, j, e => by
    have hj : j < xs.length := by omega
    obtain ⟨cs, hM, hc, hf⟩ := E j hj
    obtain ⟨s1, a1, sh1, p1, l1, x1, b1, q1⟩ := hb.el (g := g) (o := j * m.sz) hM (fun k hk => hk.2.1) hc hf
    obtain ⟨s2, a2, sh2, p2, l2, q2, b2, x2⟩ := row_n hb xs E n (j + 1) (by omega)
    have hmul : (j + 1) * m.sz = j * m.sz + m.sz := Nat.succ_mul _ _
    refine ⟨s1 ++ s2, a1 ++ a2, ⟨s1, a1, s2, a2, sh1, sh2, rfl, rfl⟩, p1.app p2, by rw [List.length_append, l1, l2, tot_drop c xs j hj], fun q hq => (List.mem_append.1 hq).elim (fun h => (q1 q h).imp_right (·.1)) (q2 q), ?_, ?_⟩
    · intro p hp
      rcases List.mem_append.1 hp with hp | hp
      · rcases b1 p hp with hp' | hp'
        · exact .inl ⟨hp'.1, hp'.2.1⟩
        · exact .inr ⟨hp'.1.1, hp'.1.2.1, j, Nat.le_refl _, hp'.1.2.2, hj, hp'.2⟩
      · rcases b2 p hp with hp' | ⟨h1, h2, i, hi, hq, hl, hn⟩
        · exact .inl ⟨hp'.1, by omega⟩
        · exact .inr ⟨h1, h2, i, by omega, hq, hl, hn⟩
    · intro y1 y2
      refine apart_app (x1 (y1 _ (List.getElem_mem hj))) (x2 y1 y2) (fun p hp q hq e => ?_)
      rcases b1 p hp with hp' | hp'
      · rcases b2 q hq with hq' | hq'
        · omega
        · exact hq'.2.1 (by rw [← e.1]; exact hp'.1)
      · rcases b2 q hq with hq' | ⟨_, _, i, hi, hqi, hl, hn⟩
        · exact hp'.1.2.1 (by rw [e.1]; exact hq'.1)
        · rcases y2 with y2 | y2
          · have := y2 j i p.1 hp'.1.2.2 (by rw [e.1]; exact hqi)
            omega
          · exact hn (y2 _ (List.getElem_mem hl))
theorem row_R (hb : Br d m c inn ex) {e base : Nat} {w : World} {ok : Nat → Prop} {v : Value} {xs : List α} (h : d.R e w base ok v xs) :
    ∃ hs ps, m.Row v hs ps ∧ Pt w hs ps ∧ ps.length = tot c xs ∧ (∀ q ∈ hs, ok q.1.1) ∧ (∀ p ∈ ps, ok p.1 ∧ (some p.1 = v.ownBlock ∨ ∃ x ∈ xs, inn x ≠ 0)) ∧ ((∀ x ∈ xs, ex x) → (∀ x ∈ xs, inn x = 0) → apart ps) := by
  obtain ⟨A, cp, rfl, hle, hC⟩ := Kd.R_reads h
  have hmax : xs.length ≤ 9223372036854775807 := hC.2.1
  by_cases hp : 0 < xs.length
  · obtain ⟨g, cap, he, _, _, _⟩ := Kd.R_form h hp
    injection he with h1 h2 h3
    subst h1
    obtain ⟨z⟩ : Nonempty α := ⟨xs[0]⟩
    obtain ⟨hs, ps, hN, hPt, hl, hq0, hbk, hx⟩ := row_n hb (g := g) (ok := ok) (Q := fun _ _ => True) (base := base) (w := w) xs (fun i hi => by
      obtain ⟨cs, _, hM, hc, hf⟩ := Kd.R_elem h z (i : Int) (by omega) (by omega)
      rw [Int.toNat_natCast] at hM hc hf
      rw [List.getD_eq_getElem?_getD, List.getElem?_eq_getElem hi, Option.getD_some] at hM
      rw [← hb.sz] at hc hf
      exact ⟨cs, d.M_mono (fun k hk => ⟨hk.1, hk.2, trivial⟩) hM, hc, hf⟩) xs.length 0 (by omega)
    refine ⟨hs, ps, ⟨_, _, _, rfl, hle, hmax, .inr ⟨g, rfl, hN⟩⟩, hPt, by rw [hl, List.drop_zero], fun q hq => (hq0 q hq).elim (fun e => by rw [e]; exact h.1 g rfl) id, fun p hp => ?_, fun y1 y2 => hx y1 (.inr y2)⟩
    rcases hbk p hp with hp' | ⟨hp', _, i, _, _, hl, hn⟩
    · exact ⟨by rw [hp'.1]; exact h.1 g rfl, .inl (by rw [hp'.1]; rfl)⟩
    · exact ⟨hp', .inr ⟨_, List.getElem_mem hl, hn⟩⟩
  · have h0 : xs = [] := List.eq_nil_of_length_eq_zero (by omega)
    subst h0
    exact ⟨[], [], ⟨_, _, _, rfl, hle, hmax, .inl ⟨rfl, rfl, rfl⟩⟩, Pt.nil w, rfl, fun q hq => by simp at hq, fun p hp => by simp at hp, fun _ _ => apart_nil⟩
theorem row_S (hb : Br d m c inn ex) {e base : Nat} {w : World} {ok : Nat → Prop} {v : Value} {xs : List α} (h : Kd.S d e w base ok v xs) :
    ∃ hs ps, m.Row v hs ps ∧ Pt w hs ps ∧ ps.length = tot c xs ∧ (∀ q ∈ hs, ok q.1.1) ∧ (∀ p ∈ ps, ok p.1 ∧ (some p.1 = v.ownBlock ∨ ∃ x ∈ xs, inn x ≠ 0)) ∧ ((∀ x ∈ xs, ex x) → apart ps) := by
  have hR := Kd.S_R h
  obtain ⟨A, cp, rfl, hle, hC⟩ := Kd.R_reads hR
  have hmax : xs.length ≤ 9223372036854775807 := hC.2.1
  obtain ⟨f, hf_⟩ := h
  by_cases hp : 0 < xs.length
  · obtain ⟨g, cap, he, _, _, _⟩ := Kd.R_form hR hp
    injection he with h1 h2 h3
    subst h1
    obtain ⟨z⟩ : Nonempty α := ⟨xs[0]⟩
    obtain ⟨hs, ps, hN, hPt, hl, hq0, hbk, hx⟩ := row_n hb (g := g) (ok := ok) (Q := fun i k => f k = i) (base := base) (w := w) xs (fun i hi => by
      obtain ⟨cs, _, hM, hc, hf⟩ := Kd.R_elem hf_ (z, 0) (i : Int) (by omega) (by omega)
      rw [Int.toNat_natCast] at hM hc hf
      rw [List.getD_eq_getElem?_getD, Kd.zip_at (List.getElem?_eq_getElem hi), Option.getD_some] at hM
      rw [show (Kd.tag f d).sz = m.sz from hb.sz.symm] at hc hf
      exact ⟨cs, d.M_mono (fun k hk => ⟨hk.1.1, hk.1.2, hk.2⟩) hM, hc, hf⟩) xs.length 0 (by omega)
    refine ⟨hs, ps, ⟨_, _, _, rfl, hle, hmax, .inr ⟨g, rfl, hN⟩⟩, hPt, by rw [hl, List.drop_zero], fun q hq => (hq0 q hq).elim (fun e => by rw [e]; exact hR.1 g rfl) id, fun p hp => ?_, fun y1 => hx y1 (.inl fun i i' k h1 h2 => h1.symm.trans h2)⟩
    rcases hbk p hp with hp' | ⟨hp', _, i, _, _, hl, hn⟩
    · exact ⟨by rw [hp'.1]; exact hR.1 g rfl, .inl (by rw [hp'.1]; rfl)⟩
    · exact ⟨hp', .inr ⟨_, List.getElem_mem hl, hn⟩⟩
  · have h0 : xs = [] := List.eq_nil_of_length_eq_zero (by omega)
    subst h0
    exact ⟨[], [], ⟨_, _, _, rfl, hle, hmax, .inl ⟨rfl, rfl, rfl⟩⟩, Pt.nil w, rfl, fun q hq => by simp at hq, fun p hp => by simp at hp, fun _ => apart_nil⟩
theorem Br.slice (hb : Br d m c inn ex) (e : Nat) (h0 : ∀ x, inn x = 0) : Br (Kd.slice e d) (Md.slice m) (fun xs => tot c xs) (fun xs => tot c xs) (fun xs => ∀ x ∈ xs, ex x) where
  sz := rfl
  el := by
    rintro w base ok x cs g o ⟨v, rfl, hR⟩ hg hc hf
    obtain ⟨hs, ps, hr, hPt, hl, hq0, hbk, hx⟩ := row_R hb hR
    obtain ⟨A, n, cp, hv, _⟩ := hr
    refine ⟨((g, o), v) :: hs, ps, ⟨v, hs, ⟨A, n, cp, hv, by assumption⟩, rfl⟩, ⟨fun q hq => ?_, hPt.a⟩, hl, fun y => hx y (fun x _ => h0 x), fun p hp => .inr ⟨(hbk p hp).1, ?_⟩, fun q hq => ?_⟩
    · rcases List.mem_cons.1 hq with rfl | hq
      · exact ⟨hc 0 _ rfl, A, n, cp, hv⟩
      · exact hPt.h q hq
    · show tot c x ≠ 0
      have := List.length_pos_of_mem hp
      omega
    · rcases List.mem_cons.1 hq with rfl | hq
      · exact .inl rfl
      · exact .inr (hq0 q hq)
end
structure Sg (w : World) (k : Int) (wr : World) (pre : List Pl) (hs : List ((Nat × Nat) × Value)) (ps : List Pl) (kk : Int) : Prop where
  ek : kk = k + (pre.length : Int)
  pt : Pt wr hs ps
  wr : Wr w wr pre k
theorem Pt.sub {w : World} {hs h1 : List ((Nat × Nat) × Value)} {ps a1 : List Pl} (h : Pt w hs ps) (x : ∀ q ∈ h1, q ∈ hs) (y : ∀ q ∈ a1, q ∈ ps) : Pt w h1 a1 := ⟨fun q hq => h.h q (x q hq), fun q hq => h.a q (y q hq)⟩
namespace Sg
variable {w wr w2 : World} {k kk : Int} {pre ps qs a1 a2 : List Pl} {hs h1 h2 : List ((Nat × Nat) × Value)}
theorem start (h : Pt w hs ps) (k : Int) : Sg w k w [] hs ps k := ⟨by simp, h, Wr.refl w k⟩
theorem put (h : Sg w k wr pre hs ps kk) {b o : Nat} {t : Bool} (hm : (b, o, t) ∈ ps) {v : Value} (hv : v = mkv t kk) : Sg w k (wr.setCell ⟨b, o, none⟩ v) (pre ++ [(b, o, t)]) hs ps (kk + 1) := by
  subst hv
  refine ⟨by rw [h.ek, List.length_append, List.length_singleton]; omega, h.pt.set (p := (b, o, t)) (h.pt.a _ hm) kk, h.wr.put (b, o, t) h.ek⟩
theorem call (h : Sg w k wr pre hs ps kk) (hw : Wr wr w2 qs kk) (hq : ∀ q ∈ qs, q ∈ ps) : Sg w k w2 (pre ++ qs) hs ps (kk + (qs.length : Int)) :=
  ⟨by rw [h.ek, List.length_append]; omega, h.pt.wr hw (fun p hp => h.pt.a p (hq p hp)), h.wr.trans hw h.ek⟩
theorem below (h : Sg w k wr pre hs ps kk) (hb : Below wr.heap.size wr w2) : Sg w k w2 pre hs ps kk := ⟨h.ek, h.pt.below hb, h.wr.below hb⟩
theorem rest (h : Sg w k wr pre (h1 ++ h2) (a1 ++ a2) kk) : Sg w k wr pre h2 a2 kk := ⟨h.ek, h.pt.right, h.wr⟩
theorem cell (h : Sg w k wr pre hs ps kk) {b o : Nat} {t : Bool} (hm : (b, o, t) ∈ ps) : ∃ u, wr.cell? ⟨b, o, none⟩ = some u ∧ wr.frozen? ⟨b, o, none⟩ = false := by
  obtain ⟨⟨u, hu, _⟩, hf⟩ := h.pt.a _ hm
  exact ⟨u, hu, hf⟩
theorem head (h : Sg w k wr pre hs ps kk) {b o : Nat} {v : Value} (hm : ((b, o), v) ∈ hs) : wr.cell? ⟨b, o, none⟩ = some v := (h.pt.h _ hm).1
theorem sub (h : Sg w k wr pre hs ps kk) (x : ∀ q ∈ h1, q ∈ hs) (y : ∀ q ∈ a1, q ∈ ps) : Pt wr h1 a1 := h.pt.sub x y
theorem narrow (h : Sg w k wr pre hs ps kk) (x : ∀ q ∈ h1, q ∈ hs) (y : ∀ q ∈ a1, q ∈ ps) : Sg w k wr pre h1 a1 kk := ⟨h.ek, h.pt.sub x y, h.wr⟩
end Sg
theorem Wr.after {w wb w2 : World} {ps : List Pl} {k : Int} (hb : Below w.heap.size w wb) (h : Wr wb w2 ps k) : Wr w w2 ps k :=
  ⟨h.os.trans hb.os, h.tape.trans hb.tape, h.output.trans hb.output, Nat.le_trans hb.size h.size, fun i hi =>
    (h.block i (Nat.lt_of_lt_of_le hi hb.size)).trans (puts_cong ps k (hb.block i hi))⟩
theorem Md.Row_slice {d : Md} {v : Value} {hs : List ((Nat × Nat) × Value)} {ps : List Pl} (h : d.Row v hs ps) : ∃ A n c, v = .slice A n c := by
  obtain ⟨A, n, c, e, _⟩ := h
  exact ⟨A, n, c, e⟩
structure Sq (w : World) (k : Int) (wr : World) (pre : List Pl) (hs : List ((Nat × Nat) × Value)) (ps : List Pl) (kk : Int) : Prop where
  ek : kk = k + (pre.length : Int)
  pt : Pt wr hs ps
  hd : Hs wr ps kk
  bl : Below w.heap.size w wr
theorem Hs.tail {w : World} {p : Pl} {ps : List Pl} {k : Int} (h : Hs w (p :: ps) k) : Hs w ps (k + 1) := by
  have := Hs.right (ps := [p]) (bs := ps) h
  simpa using this
namespace Sq
variable {w wr w2 : World} {k kk : Int} {pre ps qs a1 a2 : List Pl} {hs h1 h2 : List ((Nat × Nat) × Value)} {p : Pl}
theorem start (h : Pt w hs ps) (g : Hs w ps k) : Sq w k w [] hs ps k := ⟨by simp, h, g, Below.refl _ _⟩
theorem cell {b o : Nat} {t : Bool} (h : Sq w k wr pre hs ((b, o, t) :: ps) kk) : wr.cell? ⟨b, o, none⟩ = some (mkv t kk) := h.hd.head (p := (b, o, t))
theorem tail (h : Sq w k wr pre hs (p :: ps) kk) : Sq w k wr (pre ++ [p]) hs ps (kk + 1) :=
  ⟨by rw [h.ek, List.length_append, List.length_singleton]; omega, ⟨h.pt.h, fun q hq => h.pt.a q (List.mem_cons_of_mem _ hq)⟩, h.hd.tail, h.bl⟩
theorem call (h : Sq w k wr pre hs (a1 ++ a2) kk) (hb : Below wr.heap.size wr w2) : Sq w k w2 (pre ++ a1) hs a2 (kk + (a1.length : Int)) :=
  ⟨by rw [h.ek, List.length_append]; omega, ⟨(h.pt.below hb).h, fun q hq => (h.pt.below hb).a q (List.mem_append_right _ hq)⟩, h.hd.right.below hb, h.bl.trans (hb.mono h.bl.size)⟩
theorem head (h : Sq w k wr pre hs ps kk) {b o : Nat} {v : Value} (hm : ((b, o), v) ∈ hs) : wr.cell? ⟨b, o, none⟩ = some v := (h.pt.h _ hm).1
theorem narrow (h : Sq w k wr pre hs ps kk) (x : ∀ q ∈ h1, q ∈ hs) : Sq w k wr pre h1 ps kk := ⟨h.ek, h.pt.sub x (fun _ hq => hq), h.hd, h.bl⟩
end Sq
end Go.Proofs.Ytgcliajajcinpaa.Mk
end
section
namespace Go.Proofs.Ytgcliajajcinpaa.Mk
open Go.RowKit Go.Proofs.YtgcliajajcinpaaW.PrintWords Go.Proofs.YtgcliajajcinpaaW.PrintLast
set_option linter.unusedVariables false
set_option linter.unusedSimpArgs false
def Bt (lo hi : Nat) (q : Nat) : Prop := lo ≤ q ∧ q < hi
abbrev Item := Nat × Nat × (World → Prop)
def Chn (n0 : Nat) (W : World) : List Item → Prop
  | [] => True
  | (lo, hi, P) :: L => n0 ≤ lo ∧ lo ≤ hi ∧ hi ≤ W.heap.size ∧ Foot P W (Bt lo hi) ∧ (∀ y ∈ L, y.2.1 ≤ lo) ∧ Chn n0 W L
theorem Chn.step {n0 : Nat} {W W' : World} {S : Nat → Prop} (hk : Kept W W' S) : ∀ {L : List Item}, (∀ y ∈ L, ∀ q, Bt y.1 y.2.1 q → ¬ S q) → Chn n0 W L → Chn n0 W' L
  | [], _, _ => trivial
  | (lo, hi, P) :: L, hd, ⟨h1, h2, h3, h4, h5, h6⟩ =>
    ⟨h1, h2, Nat.le_trans h3 hk.1, h4.step (fun k hk' hlt => hk.2 k hlt (hd _ List.mem_cons_self k hk')), h5, Chn.step hk (fun y hy => hd y (List.mem_cons_of_mem _ hy)) h6⟩
theorem Chn.lt {n0 : Nat} {W : World} : ∀ {L : List Item}, Chn n0 W L → ∀ y ∈ L, n0 ≤ y.1 ∧ y.1 ≤ y.2.1 ∧ y.2.1 ≤ W.heap.size
  | [], _, y, hy => by simp at hy
  | (lo, hi, P) :: L, ⟨h1, h2, h3, _, _, h6⟩, y, hy => by
    rcases List.mem_cons.1 hy with rfl | hy
    · exact ⟨h1, h2, h3⟩
    · exact Chn.lt h6 y hy
structure Ch (w W : World) (L : List Item) : Prop where
  b : Below w.heap.size w W
  c : Chn w.heap.size W L
namespace Ch
variable {w W W' : World} {L L1 L2 : List Item} {lo hi : Nat} {P P' : World → Prop}
theorem start (w : World) : Ch w w [] := ⟨Below.refl _ _, trivial⟩
theorem below (h : Ch w W L) (hb : Below W.heap.size W W') : Ch w W' L := ⟨below_step h.b hb, Chn.step (Kept.of_below hb (fun _ => False)) (fun _ _ _ _ h => h) h.c⟩
theorem drawn (h : Ch w W L) (hd : Drawn0 W W') : Ch w W' L := by
  obtain ⟨n, rfl⟩ := hd.out
  exact h.below (pw_below_drewN (Below.refl _ _) n)
theorem push (h : Ch w W L) (hb : Below W.heap.size W W') {Q : Nat → Nat → World → Prop} (hQ : Foot (Q W.heap.size W'.heap.size) W' (Bt W.heap.size W'.heap.size)) : ∃ lo hi, Ch w W' ((lo, hi, Q lo hi) :: L) :=
  ⟨W.heap.size, W'.heap.size, (h.below hb).b, h.b.size, hb.size, Nat.le_refl _, hQ, fun y hy => (h.c.lt y hy).2.2, (h.below hb).c⟩
theorem get (h : Ch w W L) : ∀ (i : Nat), L[i]? = some (lo, hi, P) → P W ∧ Foot P W (Bt lo hi) := by
  have key : ∀ {L : List Item}, Chn w.heap.size W L → ∀ (i : Nat), L[i]? = some (lo, hi, P) → P W ∧ Foot P W (Bt lo hi) := by
    intro L
    induction L with
    | nil => intro _ i e; simp at e
    | cons y L ih =>
      intro hc i e
      obtain ⟨a, b, Q⟩ := y
      cases i with
      | zero =>
        simp only [List.getElem?_cons_zero, Option.some.injEq, Prod.mk.injEq] at e
        obtain ⟨rfl, rfl, rfl⟩ := e
        exact ⟨hc.2.2.2.1.now, hc.2.2.2.1⟩
      | succ i => exact ih hc.2.2.2.2.2 i (by simpa using e)
  exact key h.c
theorem at_ (h : Ch w W L) (i : Nat) (e : L[i]? = some (lo, hi, P)) : P W := (h.get i e).1
theorem mark (h : Ch w W (L1 ++ (lo, hi, P) :: L2)) (hk : Kept W W' (Bt lo hi)) (hb : Below w.heap.size w W') (hP : Foot P' W' (Bt lo hi)) : Ch w W' (L1 ++ (lo, hi, P') :: L2) := by
  refine ⟨hb, ?_⟩
  have key : ∀ {L1 : List Item}, Chn w.heap.size W (L1 ++ (lo, hi, P) :: L2) → Chn w.heap.size W' (L1 ++ (lo, hi, P') :: L2) := by
    intro L1
    induction L1 with
    | nil =>
      rintro ⟨h1, h2, h3, h4, h5, h6⟩
      exact ⟨h1, h2, Nat.le_trans h3 hk.1, hP, h5, Chn.step hk (fun y hy q hq hq2 => by have := h5 y hy; have := hq.2; have := hq2.1; omega) h6⟩
    | cons y L1 ih =>
      obtain ⟨a, b, Q⟩ := y
      rintro ⟨h1, h2, h3, h4, h5, h6⟩
      refine ⟨h1, h2, Nat.le_trans h3 hk.1, h4.step (fun k hk' hlt => hk.2 k hlt (fun hq => ?_)), ?_, ih h6⟩
      · have := h5 (lo, hi, P) (List.mem_append_right _ List.mem_cons_self)
        have := hk'.1
        have := hq.2
        simp only at *
        omega
      · intro y hy
        rcases List.mem_append.1 hy with hy | hy
        · exact h5 y (List.mem_append_left _ hy)
        · rcases List.mem_cons.1 hy with rfl | hy
          · exact h5 (lo, hi, P) (List.mem_append_right _ List.mem_cons_self)
          · exact h5 y (List.mem_append_right _ (List.mem_cons_of_mem _ hy))
  exact key h.c
theorem lt_ (h : Ch w W (L1 ++ (lo, hi, P) :: L2)) : w.heap.size ≤ lo := (h.c.lt (lo, hi, P) (List.mem_append_right _ List.mem_cons_self)).1
theorem wr {ps : List Pl} {k : Int} (h : Ch w W (L1 ++ (lo, hi, P) :: L2)) (hw : Wr W W' ps k) (hp : ∀ p ∈ ps, Bt lo hi p.1) (hP : Foot P' W' (Bt lo hi)) : Ch w W' (L1 ++ (lo, hi, P') :: L2) :=
  h.mark (hw.kept hp) (hw.under h.b (fun p hq => Nat.le_trans h.lt_ (hp p hq).1)) hP
theorem wr0 {ps : List Pl} {k : Int} (h : Ch w W (L1 ++ (lo, hi, P) :: L2)) (hw : Wr W W' ps k) (hp : ∀ p ∈ ps, Bt lo hi p.1) : Ch w W' (L1 ++ (lo, hi, fun _ => True) :: L2) :=
  h.wr hw hp (fun _ _ => trivial)
end Ch
section
variable {α : Type} {d : Kd α} {e : Nat} {W W' : World} {lo hi : Nat} {v : Value} {xs : List α}
theorem foot_R (h : d.R e W lo (Bt lo hi) v xs) : Foot (fun U => d.R e U lo (Bt lo hi) v xs) W (Bt lo hi) := fun _ hW => Kd.R_step h hW
theorem foot_S (h : Kd.S d e W lo (Bt lo hi) v xs) : Foot (fun U => Kd.S d e U lo (Bt lo hi) v xs) W (Bt lo hi) := fun _ hW => Kd.S_step h hW
theorem in_R {ok : Nat → Prop} (h : d.R e W' W.heap.size ok v xs) : d.R e W' W.heap.size (Bt W.heap.size W'.heap.size) v xs := Kd.R_mono (Kd.R_bound h) (fun _ hk => ⟨hk.2.1, hk.2.2.1⟩)
theorem in_S {ok : Nat → Prop} (h : Kd.S d e W' W.heap.size ok v xs) : Kd.S d e W' W.heap.size (Bt W.heap.size W'.heap.size) v xs := Kd.S_mono (Kd.S_bound h) (fun _ hk => ⟨hk.2.1, hk.2.2.1⟩)
theorem foot_and {P Q : World → Prop} {ok : Nat → Prop} (h : Foot P W ok) (g : Foot Q W ok) : Foot (fun U => P U ∧ Q U) W ok := fun U hU => ⟨h U hU, g U hU⟩
end
theorem foot_pt {W : World} {hs : List ((Nat × Nat) × Value)} {ps : List Pl} {ok : Nat → Prop} (h : Pt W hs ps) (h1 : ∀ q ∈ hs, ok q.1.1) (h2 : ∀ p ∈ ps, ok p.1) : Foot (fun U => Pt U hs ps) W ok := fun U hU => by
  refine ⟨fun q hq => ?_, fun p hp => ?_⟩
  · have a := h.h q hq
    exact ⟨by rw [World.cell?_of_block (hU _ (h1 q hq) (World.block_lt_of_cell? _ _ a.1))]; exact a.1, a.2⟩
  · obtain ⟨⟨u, hu, hpu⟩, hf⟩ := h.a p hp
    have e := hU _ (h2 p hp) (World.block_lt_of_cell? _ _ hu)
    exact ⟨⟨u, by rw [World.cell?_of_block e]; exact hu, hpu⟩, by rw [World.frozen?_of_block e]; exact hf⟩
theorem foot_hs {W : World} {ps : List Pl} {k : Int} {ok : Nat → Prop} (h : Hs W ps k) (h2 : ∀ p ∈ ps, ok p.1) : Foot (fun U => Hs U ps k) W ok := fun U hU i p hp => by
  rw [World.cell?_of_block (hU _ (h2 p (List.mem_of_getElem? hp)) (World.block_lt_of_cell? _ _ (h i p hp)))]
  exact h i p hp
end Go.Proofs.Ytgcliajajcinpaa.Mk
end
section
namespace Go.Proofs.Ytgcliajajcinpaa.Mk
open Go.RowKit Go.Proofs.Ytgcliajajcinpaa.P Go.Proofs.YtgcliajajcinpaaW.PrintWords Go.Proofs.YtgcliajajcinpaaW.PrintLast Go.Proofs.YtgcliajajcinpaaW.PrintMore
set_option linter.unusedVariables false
set_option linter.unusedSimpArgs false
set_option maxHeartbeats 4000000 in
set_option maxRecDepth 100000 in
theorem markIntS_ok (v : Value) (hs : List ((Nat × Nat) × Value)) (ps : List Pl) (k : Int) (w : World) (hr : Md.Row (Md.int) v hs ps) (hp : Pt w hs ps) (h0 : 0 ≤ k) (h1 : k + (ps.length : Int) ≤ 1000000000) :
    Calls Try.prog 22 #[v, .int .i64 k] w fun e w' => e = .returned (.int .i64 (k + (ps.length : Int))) ∧ Wr w w' ps k := by
  obtain ⟨A, n, c, rfl, hnc, hmax, hN0⟩ := hr
  have HN : Aside0 (Md.Nr (Md.int) A 0 n hs ps) := ⟨hN0⟩
  have HG := Aside0.mk (Sg.start hp k)
  clear hN0 hp hnc
  go_enter Try.func22, Try.ntmps22
  go_wp2
  go_loopg [1, 5] n (fun kq v1 v5 w' => ∃ (j : Nat) (kk : Int) (pre : List Pl) (hs1 : List ((Nat × Nat) × Value)) (ps1 : List Pl), v1 = .int .i64 kk ∧ v5 = .int .i64 (j : Int) ∧ Aside0 (j + kq = n) ∧ Aside0 (ps = pre ++ ps1) ∧ Aside0 (Md.Nr (Md.int) A j kq hs1 ps1) ∧ Aside0 (Sg w k w' pre hs1 ps1 kk))
  case atStart => exact ⟨0, k, [], hs, ps, rfl, rfl, ⟨by omega⟩, ⟨rfl⟩, HN, HG⟩
  case round =>
    clear HN HG
    obtain ⟨j, kk, pre, hs1, ps1, rfl, rfl, HJ, HS, HN, HG⟩ := hrel
    cases gk with
    | zero =>
      have hd : decide ((j : Int) < (n : Int)) = false := decide_eq_false (by have := HJ.out; omega)
      have hd2 : decide (j < n) = false := decide_eq_false (by have := HJ.out; omega)
      go_wp2
      go_ret
      have e0 := Md.Nr_nil HN.out
      have e1 := HS.out
      subst e0
      rw [List.append_nil] at e1
      subst e1
      exact ⟨by rw [HG.out.ek]; rfl, HG.out.wr⟩
    | succ m =>
      have hd : decide ((j : Int) < (n : Int)) = true := decide_eq_true (by have := HJ.out; omega)
      have hd2 : decide (j < n) = true := decide_eq_true (by have := HJ.out; omega)
      have hlt : j < n := by have := HJ.out; omega
      have hlt2 : (j : Int) < (n : Int) := by omega
      obtain ⟨g, rfl, s1, a1, s2, a2, hsh, hn2, rfl, rfl⟩ := Md.Nr_cons HN.out
      clear HN
      have HN2 := Aside0.mk hn2
      clear hn2
      obtain ⟨rfl, rfl⟩ := (show (Md.int).Sh g (j * 1) s1 a1 from hsh)
      simp only [Nat.mul_one] at HG HS
      have hk0 : 0 ≤ kk := by have := HG.out.ek; omega
      have hk1 : kk ≤ 1000000000 := by have := HG.out.ek; have := HS.out; subst this; simp only [List.length_append] at h1; omega
      obtain ⟨u0_0, x0_0, f0_0⟩ := HG.out.cell (b := g) (o := j) (t := false) (by simp)
      go_wp2
      go_roundg m
      case measure => omega
      case rel =>
        have HZ := (Sg.put HG.out (b := g) (o := j) (t := false) (by simp) rfl).narrow (h1 := s2) (a1 := a2) (by intro q_ hq_; simp [hq_]) (by intro q_ hq_; simp [hq_])
        exact ⟨j + 1, _, _, s2, a2, rfl, by go_num, ⟨by have := HJ.out; omega⟩, ⟨by rw [HS.out]; simp⟩, HN2, ⟨HZ⟩⟩
set_option maxHeartbeats 4000000 in
set_option maxRecDepth 100000 in
theorem markIntSS_ok (v : Value) (hs : List ((Nat × Nat) × Value)) (ps : List Pl) (k : Int) (w : World) (hr : Md.Row (Md.slice Md.int) v hs ps) (hp : Pt w hs ps) (h0 : 0 ≤ k) (h1 : k + (ps.length : Int) ≤ 1000000000) :
    Calls Try.prog 46 #[v, .int .i64 k] w fun e w' => e = .returned (.int .i64 (k + (ps.length : Int))) ∧ Wr w w' ps k := by
  obtain ⟨A, n, c, rfl, hnc, hmax, hN0⟩ := hr
  have HN : Aside0 (Md.Nr (Md.slice Md.int) A 0 n hs ps) := ⟨hN0⟩
  have HG := Aside0.mk (Sg.start hp k)
  clear hN0 hp hnc
  go_enter Try.func46, Try.ntmps46
  go_wp2
  go_loopg [1, 5] n (fun kq v1 v5 w' => ∃ (j : Nat) (kk : Int) (pre : List Pl) (hs1 : List ((Nat × Nat) × Value)) (ps1 : List Pl), v1 = .int .i64 kk ∧ v5 = .int .i64 (j : Int) ∧ Aside0 (j + kq = n) ∧ Aside0 (ps = pre ++ ps1) ∧ Aside0 (Md.Nr (Md.slice Md.int) A j kq hs1 ps1) ∧ Aside0 (Sg w k w' pre hs1 ps1 kk))
  case atStart => exact ⟨0, k, [], hs, ps, rfl, rfl, ⟨by omega⟩, ⟨rfl⟩, HN, HG⟩
  case round =>
    clear HN HG
    obtain ⟨j, kk, pre, hs1, ps1, rfl, rfl, HJ, HS, HN, HG⟩ := hrel
    cases gk with
    | zero =>
      have hd : decide ((j : Int) < (n : Int)) = false := decide_eq_false (by have := HJ.out; omega)
      have hd2 : decide (j < n) = false := decide_eq_false (by have := HJ.out; omega)
      go_wp2
      go_ret
      have e0 := Md.Nr_nil HN.out
      have e1 := HS.out
      subst e0
      rw [List.append_nil] at e1
      subst e1
      exact ⟨by rw [HG.out.ek]; rfl, HG.out.wr⟩
    | succ m =>
      have hd : decide ((j : Int) < (n : Int)) = true := decide_eq_true (by have := HJ.out; omega)
      have hd2 : decide (j < n) = true := decide_eq_true (by have := HJ.out; omega)
      have hlt : j < n := by have := HJ.out; omega
      have hlt2 : (j : Int) < (n : Int) := by omega
      obtain ⟨g, rfl, s1, a1, s2, a2, hsh, hn2, rfl, rfl⟩ := Md.Nr_cons HN.out
      clear HN
      have HN2 := Aside0.mk hn2
      clear hn2
      obtain ⟨v0, h0, r0, rfl⟩ := (show (Md.slice (Md.int)).Sh g (j * 1) s1 a1 from hsh)
      obtain ⟨b0, rfl⟩ : ∃ b0, b0 = a1 := ⟨_, rfl⟩
      simp only [Nat.mul_one] at HG HS
      obtain ⟨A0, n0, c0, rfl⟩ := Md.Row_slice r0
      have R0 := Aside0.mk r0
      clear r0
      have hk0 : 0 ≤ kk := by have := HG.out.ek; omega
      have hk1 : kk ≤ 1000000000 := by have := HG.out.ek; have := HS.out; subst this; simp only [List.length_append] at h1; omega
      have x0_0 : wr.cell? ⟨g, j, none⟩ = some (.slice A0 n0 c0) := HG.out.head (by simp)
      go_wp2_with fail
      have HG1 := Aside0.mk HG.out
      refine (markIntS_ok _ h0 b0 _ _ R0.out (HG1.out.sub (by intro q_ hq_; simp [hq_]) (by intro q_ hq_; simp [hq_])) (by omega) (by have := HG1.out.ek; have := HS.out; subst this; simp only [List.length_append, List.length_cons, List.length_nil] at *; omega)).mono ?_
      rintro e w1 ⟨rfl, hw⟩
      have HC1 := Aside0.mk (HG1.out.call hw (by intro q_ hq_; simp [hq_]))
      obtain ⟨kq1, hkq⟩ : ∃ kq_ : Int, kq_ = kk + (b0.length : Int) := ⟨_, rfl⟩
      rw [← hkq] at HC1 ⊢
      have hq0_1 : 0 ≤ kq1 := by omega
      have hq1_1 : kq1 ≤ 1000000000 := by have := HC1.out.ek; have := HS.out; subst this; simp only [List.length_append, List.length_cons, List.length_nil] at *; omega
      clear hkq hw
      clear x0_0
      have x1_0 : w1.cell? ⟨g, j, none⟩ = some (.slice A0 n0 c0) := HC1.out.head (by simp)
      go_wp2
      go_roundg m
      case measure => omega
      case rel =>
        have HZ := HC1.out.narrow (h1 := s2) (a1 := a2) (by intro q_ hq_; simp [hq_]) (by intro q_ hq_; simp [hq_])
        exact ⟨j + 1, _, _, s2, a2, rfl, by go_num, ⟨by have := HJ.out; omega⟩, ⟨by rw [HS.out]; simp⟩, HN2, ⟨HZ⟩⟩
set_option maxHeartbeats 4000000 in
set_option maxRecDepth 100000 in
theorem heldIntS_ok (v : Value) (hs : List ((Nat × Nat) × Value)) (ps : List Pl) (k : Int) (w : World) (hr : Md.Row (Md.int) v hs ps) (hp : Pt w hs ps) (hh : Hs w ps k) (h0 : 0 ≤ k) (h1 : k + (ps.length : Int) ≤ 1000000000) :
    Calls Try.prog 23 #[v, .int .i64 k] w fun e w' => e = .returned (.int .i64 (k + (ps.length : Int))) ∧ Below w.heap.size w w' := by
  obtain ⟨A, n, c, rfl, hnc, hmax, hN0⟩ := hr
  have HN : Aside0 (Md.Nr (Md.int) A 0 n hs ps) := ⟨hN0⟩
  have HG := Aside0.mk (Sq.start hp hh)
  clear hN0 hp hnc hh
  go_enter Try.func23, Try.ntmps23
  go_wp2
  go_loopg [1, 5] n (fun kq v1 v5 w' => ∃ (j : Nat) (kk : Int) (pre : List Pl) (hs1 : List ((Nat × Nat) × Value)) (ps1 : List Pl), v1 = .int .i64 kk ∧ v5 = .int .i64 (j : Int) ∧ Aside0 (j + kq = n) ∧ Aside0 (ps = pre ++ ps1) ∧ Aside0 (Md.Nr (Md.int) A j kq hs1 ps1) ∧ Aside0 (Sq w k w' pre hs1 ps1 kk))
  case atStart => exact ⟨0, k, [], hs, ps, rfl, rfl, ⟨by omega⟩, ⟨rfl⟩, HN, HG⟩
  case round =>
    clear HN HG
    obtain ⟨j, kk, pre, hs1, ps1, rfl, rfl, HJ, HS, HN, HG⟩ := hrel
    cases gk with
    | zero =>
      have hd : decide ((j : Int) < (n : Int)) = false := decide_eq_false (by have := HJ.out; omega)
      have hd2 : decide (j < n) = false := decide_eq_false (by have := HJ.out; omega)
      go_wp2
      go_ret
      have e0 := Md.Nr_nil HN.out
      have e1 := HS.out
      subst e0
      rw [List.append_nil] at e1
      subst e1
      exact ⟨by rw [HG.out.ek]; rfl, HG.out.bl⟩
    | succ m =>
      have hd : decide ((j : Int) < (n : Int)) = true := decide_eq_true (by have := HJ.out; omega)
      have hd2 : decide (j < n) = true := decide_eq_true (by have := HJ.out; omega)
      have hlt : j < n := by have := HJ.out; omega
      have hlt2 : (j : Int) < (n : Int) := by omega
      obtain ⟨g, rfl, s1, a1, s2, a2, hsh, hn2, rfl, rfl⟩ := Md.Nr_cons HN.out
      clear HN
      have HN2 := Aside0.mk hn2
      clear hn2
      obtain ⟨rfl, rfl⟩ := (show (Md.int).Sh g (j * 1) s1 a1 from hsh)
      simp only [Nat.mul_one] at HG HS
      have hk0 : 0 ≤ kk := by have := HG.out.ek; omega
      have hk1 : kk ≤ 1000000000 := by have := HG.out.ek; have := HS.out; subst this; simp only [List.length_append] at h1; omega
      simp only [List.append_assoc, List.singleton_append, List.cons_append, List.nil_append] at HG
      have HG0 := HG
      clear HG
      have x0_0 : wr.cell? ⟨g, j, none⟩ = some (.int .i64 kk) := HG0.out.cell
      have HG1 := Aside0.mk HG0.out.tail
      clear HG0
      go_wp2
      go_roundg m
      case measure => omega
      case rel =>
        have HZ := HG1.out.narrow (h1 := s2) (by intro q_ hq_; simp [hq_])
        exact ⟨j + 1, _, _, s2, a2, rfl, by go_num, ⟨by have := HJ.out; omega⟩, ⟨by rw [HS.out]; simp⟩, HN2, ⟨HZ⟩⟩
set_option maxHeartbeats 4000000 in
set_option maxRecDepth 100000 in
theorem heldIntSS_ok (v : Value) (hs : List ((Nat × Nat) × Value)) (ps : List Pl) (k : Int) (w : World) (hr : Md.Row (Md.slice Md.int) v hs ps) (hp : Pt w hs ps) (hh : Hs w ps k) (h0 : 0 ≤ k) (h1 : k + (ps.length : Int) ≤ 1000000000) :
    Calls Try.prog 47 #[v, .int .i64 k] w fun e w' => e = .returned (.int .i64 (k + (ps.length : Int))) ∧ Below w.heap.size w w' := by
  obtain ⟨A, n, c, rfl, hnc, hmax, hN0⟩ := hr
  have HN : Aside0 (Md.Nr (Md.slice Md.int) A 0 n hs ps) := ⟨hN0⟩
  have HG := Aside0.mk (Sq.start hp hh)
  clear hN0 hp hnc hh
  go_enter Try.func47, Try.ntmps47
  go_wp2
  go_loopg [1, 5] n (fun kq v1 v5 w' => ∃ (j : Nat) (kk : Int) (pre : List Pl) (hs1 : List ((Nat × Nat) × Value)) (ps1 : List Pl), v1 = .int .i64 kk ∧ v5 = .int .i64 (j : Int) ∧ Aside0 (j + kq = n) ∧ Aside0 (ps = pre ++ ps1) ∧ Aside0 (Md.Nr (Md.slice Md.int) A j kq hs1 ps1) ∧ Aside0 (Sq w k w' pre hs1 ps1 kk))
  case atStart => exact ⟨0, k, [], hs, ps, rfl, rfl, ⟨by omega⟩, ⟨rfl⟩, HN, HG⟩
  case round =>
    clear HN HG
    obtain ⟨j, kk, pre, hs1, ps1, rfl, rfl, HJ, HS, HN, HG⟩ := hrel
    cases gk with
    | zero =>
      have hd : decide ((j : Int) < (n : Int)) = false := decide_eq_false (by have := HJ.out; omega)
      have hd2 : decide (j < n) = false := decide_eq_false (by have := HJ.out; omega)
      go_wp2
      go_ret
      have e0 := Md.Nr_nil HN.out
      have e1 := HS.out
      subst e0
      rw [List.append_nil] at e1
      subst e1
      exact ⟨by rw [HG.out.ek]; rfl, HG.out.bl⟩
    | succ m =>
      have hd : decide ((j : Int) < (n : Int)) = true := decide_eq_true (by have := HJ.out; omega)
      have hd2 : decide (j < n) = true := decide_eq_true (by have := HJ.out; omega)
      have hlt : j < n := by have := HJ.out; omega
      have hlt2 : (j : Int) < (n : Int) := by omega
      obtain ⟨g, rfl, s1, a1, s2, a2, hsh, hn2, rfl, rfl⟩ := Md.Nr_cons HN.out
      clear HN
      have HN2 := Aside0.mk hn2
      clear hn2
      obtain ⟨v0, h0, r0, rfl⟩ := (show (Md.slice (Md.int)).Sh g (j * 1) s1 a1 from hsh)
      obtain ⟨b0, rfl⟩ : ∃ b0, b0 = a1 := ⟨_, rfl⟩
      simp only [Nat.mul_one] at HG HS
      obtain ⟨A0, n0, c0, rfl⟩ := Md.Row_slice r0
      have R0 := Aside0.mk r0
      clear r0
      have hk0 : 0 ≤ kk := by have := HG.out.ek; omega
      have hk1 : kk ≤ 1000000000 := by have := HG.out.ek; have := HS.out; subst this; simp only [List.length_append] at h1; omega
      simp only [List.append_assoc, List.singleton_append, List.cons_append, List.nil_append] at HG
      have HG0 := HG
      clear HG
      have x0_0 : wr.cell? ⟨g, j, none⟩ = some (.slice A0 n0 c0) := HG0.out.head (by simp)
      go_wp2_with fail
      have hb_ := HG0.out.bl
      refine (heldIntS_ok _ h0 b0 _ _ R0.out (HG0.out.pt.sub (by intro q_ hq_; simp [hq_]) (by intro q_ hq_; simp [hq_])) HG0.out.hd.left (by omega) (by have := HG0.out.ek; have := HS.out; subst this; simp only [List.length_append, List.length_cons, List.length_nil] at *; omega)).mono ?_
      rintro e w1 ⟨rfl, hw⟩
      have HG1 := Aside0.mk (HG0.out.call hw)
      clear HG0 hb_
      obtain ⟨kq1, hkq⟩ : ∃ kq_ : Int, kq_ = kk + (b0.length : Int) := ⟨_, rfl⟩
      rw [← hkq] at HG1 ⊢
      have hq0_1 : 0 ≤ kq1 := by omega
      have hq1_1 : kq1 ≤ 1000000000 := by have := HG1.out.ek; have := HS.out; subst this; simp only [List.length_append, List.length_cons, List.length_nil] at *; omega
      have hq2_1 : decide (kq1 < 0) = false := decide_eq_false (by omega)
      clear hkq hw
      clear x0_0
      go_wp2
      go_roundg m
      case measure => omega
      case rel =>
        have HZ := HG1.out.narrow (h1 := s2) (by intro q_ hq_; simp [hq_])
        exact ⟨j + 1, _, _, s2, a2, rfl, by go_num, ⟨by have := HJ.out; omega⟩, ⟨by rw [HS.out]; simp⟩, HN2, ⟨HZ⟩⟩
end Go.Proofs.Ytgcliajajcinpaa.Mk
end
section
namespace Go.Proofs.Ytgcliajajcinpaa.Mk
open Go.RowKit Go.Proofs.Ytgcliajajcinpaa.P Go.Proofs.YtgcliajajcinpaaW.PrintWords Go.Proofs.YtgcliajajcinpaaW.PrintLast Go.Proofs.YtgcliajajcinpaaW.PrintMore
set_option linter.unusedVariables false
set_option linter.unusedSimpArgs false
set_option maxHeartbeats 8000000 in
set_option maxRecDepth 100000 in
theorem FnExactRacksOf_law (k : Nat) (A0 : Option Addr) (c0 : Nat) (l0 : List Int) (a1 : Int) (w : World) (hr0 : Kd.C (Kd.int .i64) w A0 l0.length l0) (hc0 : l0.length ≤ c0)    (x1 : List Int) (r8 : List (List Int)) (r9 : Bool) (eE2 : laws_toIntS.f k l0 = some x1) (eE10 : spec_RacksOf.f k x1 a1 = some (r8, r9)) (eE21 : impl_RacksOf.f k x1 a1 = some (r8, r9)) (eE27 : laws_eqIntSS.f k r8 r8 = some true) (eE33 : laws_eqIntS.f k x1 x1 = some true) (hB0_ : tot (fun _ => 1) x1 ≤ 100000000) (hB1_ : tot (fun y => tot (fun _ => 1) y) r8 ≤ 100000000) (hX0_ : ∀ x ∈ r8, ∀ y ∈ x, True) (hL0 : ¬ ((l0.length : Int) > 1048576)) :
    Calls Try.prog 9 #[.slice A0 l0.length c0, .int .i64 a1] w fun e w' => e = .returned (.bool true) ∧ Below w.heap.size w w' := by
  have HR0 := Aside0.mk hr0
  clear hr0
  have HC := Aside0.mk (Ch.start w)
  have E2 := Aside0.mk eE2
  clear eE2
  have E10 := Aside0.mk eE10
  clear eE10
  have E21 := Aside0.mk eE21
  clear eE21
  have E27 := Aside0.mk eE27
  clear eE27
  have E33 := Aside0.mk eE33
  clear eE33
  have hB0 := Aside0.mk hB0_
  clear hB0_
  have hB1 := Aside0.mk hB1_
  clear hB1_
  have hX0 := Aside0.mk hX0_
  clear hX0_
  have hLa0 : decide (1048576 < (l0.length : Int)) = false := decide_eq_false (by omega)
  have hLb0 : decide (1048576 < l0.length) = false := decide_eq_false (by omega)
  clear hL0
  go_enter Try.func9, Try.ntmps9
  go_wp2_with fail
  refine (laws_toIntS.calls k _ _ l0 x1 _ (Kd.C_below HR0.out HC.out.b) hc0 E2.out).mono ?_
  rintro e w1 ⟨v3, rfl, ho0, hb⟩
  obtain ⟨A4, c5, rfl⟩ := Kd.R_slice ho0
  obtain ⟨lo6, hi7, HC'⟩ := HC.out.push hb (Q := fun lo hi U => Kd.R (Kd.int .i64) 3 U lo (Bt lo hi) (.slice A4 x1.length c5) x1) (foot_R (in_R ho0))
  replace HC := Aside0.mk HC'
  clear HC' hb ho0
  go_wp2_with fail
  refine (spec_RacksOf.calls k _ _ x1 a1 r8 r9 _ (Kd.R_reads' (HC.out.at_ 0 rfl)).2.2 (Kd.R_reads' (HC.out.at_ 0 rfl)).2.1 E10.out).mono ?_
  rintro e w2 ⟨v11, rfl, ho0, hb⟩
  obtain ⟨A12, c13, rfl⟩ := Kd.S_slice ho0
  obtain ⟨lo14, hi15, HC'⟩ := HC.out.push hb (Q := fun lo hi U => Kd.S (Kd.slice 3 (Kd.int .i64)) 22 U lo (Bt lo hi) (.slice A12 r8.length c13) r8) (foot_S (in_S ho0))
  replace HC := Aside0.mk HC'
  clear HC' hb ho0
  go_wp2_with fail
  refine (laws_toIntS.calls k _ _ l0 x1 _ (Kd.C_below HR0.out HC.out.b) hc0 E2.out).mono ?_
  rintro e w3 ⟨v16, rfl, ho0, hb⟩
  obtain ⟨A17, c18, rfl⟩ := Kd.R_slice ho0
  obtain ⟨lo19, hi20, HC'⟩ := HC.out.push hb (Q := fun lo hi U => Kd.R (Kd.int .i64) 3 U lo (Bt lo hi) (.slice A17 x1.length c18) x1) (foot_R (in_R ho0))
  replace HC := Aside0.mk HC'
  clear HC' hb ho0
  go_wp2_with fail
  refine (impl_RacksOf.calls k _ _ x1 a1 r8 r9 _ (Kd.R_reads' (HC.out.at_ 0 rfl)).2.2 (Kd.R_reads' (HC.out.at_ 0 rfl)).2.1 E21.out).mono ?_
  rintro e w4 ⟨v22, rfl, ho0, hb⟩
  obtain ⟨A23, c24, rfl⟩ := Kd.S_slice ho0
  obtain ⟨lo25, hi26, HC'⟩ := HC.out.push hb (Q := fun lo hi U => Kd.S (Kd.slice 3 (Kd.int .i64)) 22 U lo (Bt lo hi) (.slice A23 r8.length c24) r8) (foot_S (in_S ho0))
  replace HC := Aside0.mk HC'
  clear HC' hb ho0
  go_wp2_with fail
  refine (laws_eqIntSS.calls k _ _ r8 _ _ r8 true _ (Kd.S_reads' (HC.out.at_ 0 rfl)).2.2 (Kd.S_reads' (HC.out.at_ 0 rfl)).2.1 (Kd.S_reads' (HC.out.at_ 2 rfl)).2.2 (Kd.S_reads' (HC.out.at_ 2 rfl)).2.1 E27.out).mono ?_
  rintro e w5 ⟨rfl, hb⟩
  replace HC := Aside0.mk (HC.out.drawn hb)
  clear hb
  go_wp2_with fail
  refine (laws_toIntS.calls k _ _ l0 x1 _ (Kd.C_below HR0.out HC.out.b) hc0 E2.out).mono ?_
  rintro e w6 ⟨v28, rfl, ho0, hb⟩
  obtain ⟨A29, c30, rfl⟩ := Kd.R_slice ho0
  obtain ⟨lo31, hi32, HC'⟩ := HC.out.push hb (Q := fun lo hi U => Kd.R (Kd.int .i64) 3 U lo (Bt lo hi) (.slice A29 x1.length c30) x1) (foot_R (in_R ho0))
  replace HC := Aside0.mk HC'
  clear HC' hb ho0
  go_wp2_with fail
  refine (laws_eqIntS.calls k _ _ x1 _ _ x1 true _ (Kd.R_reads' (HC.out.at_ 2 rfl)).2.2 (Kd.R_reads' (HC.out.at_ 2 rfl)).2.1 (Kd.R_reads' (HC.out.at_ 0 rfl)).2.2 (Kd.R_reads' (HC.out.at_ 0 rfl)).2.1 E33.out).mono ?_
  rintro e w7 ⟨rfl, hb⟩
  replace HC := Aside0.mk (HC.out.drawn hb)
  clear hb
  go_wp2_with fail
  obtain ⟨ms1_0, mp1_0, mq1_0, mt1_0, mn1_0, mg1_0, mf1_0, md1_0⟩ := row_R Br.int (HC.out.at_ 2 rfl)
  refine (markIntS_ok _ ms1_0 mp1_0  1 _ mq1_0 mt1_0 (by decide) (by rw [mn1_0]; have := hB0.out;  omega)).mono ?_
  rintro e w8 ⟨rfl, hw⟩
  replace HC := Aside0.mk (Ch.wr0 (L1 := [_, _]) HC.out hw (fun p h => by (try simp only [List.append_assoc] at h); exact (mf1_0 p h).1))
  obtain ⟨km1, hkm⟩ : ∃ km_ : Int, km_ = 1 + ((mp1_0).length : Int) := ⟨_, rfl⟩
  rw [← hkm]
  have km1p : Aside0 (0 ≤ km1) := ⟨by  omega⟩
  have km1b : Aside0 (km1 ≤ 400000001) := ⟨by rw [hkm]; rw [mn1_0]; have := hB0.out;  omega⟩
  have hd_km1 : decide (km1 < 0) = false := decide_eq_false (by have := km1p.out; omega)
  clear hkm hw ms1_0 mq1_0 mt1_0 mn1_0 mg1_0 mf1_0 md1_0 
  go_wp2_with fail
  refine (laws_eqIntSS.calls k _ _ r8 _ _ r8 true _ (Kd.S_reads' (HC.out.at_ 1 rfl)).2.2 (Kd.S_reads' (HC.out.at_ 1 rfl)).2.1 (Kd.S_reads' (HC.out.at_ 3 rfl)).2.2 (Kd.S_reads' (HC.out.at_ 3 rfl)).2.1 E27.out).mono ?_
  rintro e w9 ⟨rfl, hb⟩
  replace HC := Aside0.mk (HC.out.drawn hb)
  clear hb
  go_wp2_with fail
  obtain ⟨ms2_0, mp2_0, mq2_0, mt2_0, mn2_0, mg2_0, mf2_0, md2_0⟩ := row_S (Br.slice Br.int 3 (fun _ => rfl)) (HC.out.at_ 1 rfl)
  refine (markIntSS_ok _ ms2_0 mp2_0  1 _ mq2_0 mt2_0 (by decide) (by rw [mn2_0]; have := hB1.out;  omega)).mono ?_
  rintro e w10 ⟨rfl, hw⟩
  have mT : Pt w10 (ms2_0) (mp2_0) := (mt2_0).wr hw (mt2_0).a
  have mA : apart (mp2_0) := (md2_0 hX0.out)
  have mH := hw.hs mA (mt2_0).a
  replace HC := Aside0.mk (Ch.wr (L1 := [_]) HC.out hw (fun p hp => (mf2_0 p hp).1) (foot_and (foot_pt mT mg2_0 (fun p hp => (mf2_0 p hp).1)) (foot_hs mH (fun p hp => (mf2_0 p hp).1))))
  have hl2 : Aside0 (1 + ((mp2_0).length : Int) ≤ 1000000000) := ⟨by rw [mn2_0]; have := hB1.out; omega⟩
  have Qmq2_0 := Aside0.mk mq2_0
  obtain ⟨km2, hkm⟩ : ∃ km_ : Int, km_ = 1 + ((mp2_0).length : Int) := ⟨_, rfl⟩
  have HK2 := Aside0.mk hkm
  rw [← hkm]
  have hd_km2 : decide (km2 < 0) = false := decide_eq_false (by omega)
  clear hkm hw mT mA mH mq2_0 mt2_0 mn2_0 mg2_0 mf2_0 md2_0
  go_wp2_with fail
  refine (heldIntSS_ok _ ms2_0 mp2_0  1 _ Qmq2_0.out (HC.out.at_ 1 rfl).1 (HC.out.at_ 1 rfl).2 (by decide) (by  exact hl2.out)).mono ?_
  rintro e w11 ⟨rfl, hb⟩
  replace HC := Aside0.mk (HC.out.below hb)
  rw [← HK2.out]
  clear hb
  go_wp2_with fail
  refine (laws_toIntS.calls k _ _ l0 x1 _ (Kd.C_below HR0.out HC.out.b) hc0 E2.out).mono ?_
  rintro e w12 ⟨v34, rfl, ho0, hb⟩
  obtain ⟨A35, c36, rfl⟩ := Kd.R_slice ho0
  obtain ⟨lo37, hi38, HC'⟩ := HC.out.push hb (Q := fun lo hi U => Kd.R (Kd.int .i64) 3 U lo (Bt lo hi) (.slice A35 x1.length c36) x1) (foot_R (in_R ho0))
  replace HC := Aside0.mk HC'
  clear HC' hb ho0
  go_wp2_with fail
  refine (impl_RacksOf.calls k _ _ x1 a1 r8 r9 _ (Kd.R_reads' (HC.out.at_ 0 rfl)).2.2 (Kd.R_reads' (HC.out.at_ 0 rfl)).2.1 E21.out).mono ?_
  rintro e w13 ⟨v39, rfl, ho0, hb⟩
  obtain ⟨A40, c41, rfl⟩ := Kd.S_slice ho0
  obtain ⟨lo42, hi43, HC'⟩ := HC.out.push hb (Q := fun lo hi U => Kd.S (Kd.slice 3 (Kd.int .i64)) 22 U lo (Bt lo hi) (.slice A40 r8.length c41) r8) (foot_S (in_S ho0))
  replace HC := Aside0.mk HC'
  clear HC' hb ho0
  go_wp2_with fail
  refine (laws_eqIntSS.calls k _ _ r8 _ _ r8 true _ (Kd.S_reads' (HC.out.at_ 0 rfl)).2.2 (Kd.S_reads' (HC.out.at_ 0 rfl)).2.1 (Kd.S_reads' (HC.out.at_ 5 rfl)).2.2 (Kd.S_reads' (HC.out.at_ 5 rfl)).2.1 E27.out).mono ?_
  rintro e w14 ⟨rfl, hb⟩
  replace HC := Aside0.mk (HC.out.drawn hb)
  clear hb
  go_wp2_with fail
  refine (heldIntSS_ok _ ms2_0 mp2_0  1 _ Qmq2_0.out (HC.out.at_ 3 rfl).1 (HC.out.at_ 3 rfl).2 (by decide) (by  exact hl2.out)).mono ?_
  rintro e w15 ⟨rfl, hb⟩
  replace HC := Aside0.mk (HC.out.below hb)
  rw [← HK2.out]
  clear hb
  go_wp2
  go_ret
  exact ⟨rfl, HC.out.b⟩
set_option maxHeartbeats 8000000 in
set_option maxRecDepth 100000 in
theorem FnExactRacksOf_len0 (k : Nat) (A0 : Option Addr) (c0 : Nat) (l0 : List Int) (a1 : Int) (w : World) (hr0 : Kd.C (Kd.int .i64) w A0 l0.length l0) (hc0 : l0.length ≤ c0) (hl : (l0.length : Int) > 1048576)  :
    Calls Try.prog 9 #[.slice A0 l0.length c0, .int .i64 a1] w fun e w' => e = .returned (.bool true) ∧ Below w.heap.size w w' := by
  have HR0 := Aside0.mk hr0
  clear hr0
  have HC := Aside0.mk (Ch.start w)
  have hM : decide (1048576 < (l0.length : Int)) = true := decide_eq_true (by omega)
  have hN : decide (1048576 < l0.length) = true := decide_eq_true (by omega)
  clear hl 
  go_enter Try.func9, Try.ntmps9
  go_wp2
  go_ret
  exact ⟨rfl, HC.out.b⟩
def FnExactRacksOf_Pure : Prop := ∀ (l0 : List Int) (a1 : Int), (l0.length ≤ maxLen ∧ l0.length * 8 ≤ 140737488351232 ∧ ∀ x_ ∈ l0, (Lit.int .i64 x_).wf = true) → ((Lit.int .i64 a1).wf = true) → ∃ k : Nat, ((l0.length : Int) > 1048576) ∨ ¬ ((l0.length : Int) > 1048576) ∧ (∃ (x1 : List Int) (r8 : List (List Int)) (r9 : Bool), laws_toIntS.f k l0 = some x1 ∧ spec_RacksOf.f k x1 a1 = some (r8, r9) ∧ impl_RacksOf.f k x1 a1 = some (r8, r9) ∧ laws_eqIntSS.f k r8 r8 = some true ∧ laws_eqIntS.f k x1 x1 = some true ∧ tot (fun _ => 1) x1 ≤ 100000000 ∧ tot (fun y => tot (fun _ => 1) y) r8 ≤ 100000000 ∧ (∀ x ∈ r8, ∀ y ∈ x, True))
theorem FnExactRacksOf_calls (hP : FnExactRacksOf_Pure) (l0 : List Int) (a1 : Int) (A0 : Option Addr) (c0 : Nat) (b0 : l0.length ≤ maxLen ∧ l0.length * 8 ≤ 140737488351232 ∧ ∀ x_ ∈ l0, (Lit.int .i64 x_).wf = true) (b1 : (Lit.int .i64 a1).wf = true) (w : World) (hr0 : Kd.C (Kd.int .i64) w A0 l0.length l0) (hc0 : l0.length ≤ c0) :
    Calls Try.prog 9 #[.slice A0 l0.length c0, .int .i64 a1] w fun e w' => e = .returned (.bool true) ∧ Below w.heap.size w w' := by
  obtain ⟨k, hk⟩ := hP l0 a1 b0 b1
  rcases hk with hl | ⟨hL0, hk⟩
  · exact FnExactRacksOf_len0 k A0 c0 l0 a1 w hr0 hc0 hl 
  obtain ⟨x1, r8, r9, eE2, eE10, eE21, eE27, eE33, hB0_, hB1_, hX0_⟩ := hk
  exact FnExactRacksOf_law k A0 c0 l0 a1 w hr0 hc0    x1 r8 r9 eE2 eE10 eE21 eE27 eE33 hB0_ hB1_ hX0_ hL0
end Go.Proofs.Ytgcliajajcinpaa.Mk
end
section
namespace Go.Proofs.Ytgcliajajcinpaa.Pl
open Go.RowKit Go.Proofs.YtgcliajajcinpaaW.PrintWords Go.Proofs.YtgcliajajcinpaaW.PrintLast Go.Proofs.YtgcliajajcinpaaW.PrintMore
theorem wrap_in {x : Int} (h0 : -9223372036854775808 ≤ x) (h1 : x ≤ 9223372036854775807) : wrap64 x = x := by
  unfold wrap64
  omega
theorem wrap_len {n m : Nat} (h : n < m) (hm : m ≤ 4611686018427387904) : wrap64 ((n : Int) + 1) = ((n + 1 : Nat) : Int) := by
  rw [wrap_in (by omega) (by omega)]
  omega
theorem round {k d : Nat} (h : d < k) : ∃ m, k = m + 1 := ⟨k - 1, by omega⟩
theorem rd_mid (pre : List Int) (h : Int) (t : List Int) : rd (pre ++ h :: t) (pre.length : Int) = h := by
  simp [rd]
theorem rd_at {pre t l : List Int} {h : Int} (e : pre ++ h :: t = l) : rd l (pre.length : Int) = h := by
  rw [← e]; exact rd_mid pre h t
theorem len_mid {α : Type} {pre t : List α} {h : α} {l : List α} (e : pre ++ h :: t = l) : pre.length < l.length := by
  rw [← e]; simp
theorem app_mid {α : Type} {pre t : List α} {h : α} {l : List α} (e : pre ++ h :: t = l) : (pre ++ [h]) ++ t = l := by
  rw [← e]; simp
theorem len_one {α : Type} (pre : List α) (h : α) : (pre ++ [h]).length = pre.length + 1 := by simp
end Go.Proofs.Ytgcliajajcinpaa.Pl
end
section
namespace Go.Proofs.Ytgcliajajcinpaa.EvN
def Cm {α : Type} (f : Nat → Option α) (v : α) : Prop := ∃ K, ∀ k, K ≤ k → f k = some v
theorem cm_now {α : Type} {f : Nat → Option α} {v : α} (h : ∀ k, f k = some v) : Cm f v := ⟨0, fun k _ => h k⟩
theorem cm_step {α : Type} {f g : Nat → Option α} {v : α} (h : ∀ k, f (k + 1) = g k) (hg : Cm g v) : Cm f v := by
  obtain ⟨K, hK⟩ := hg
  refine ⟨K + 1, fun k hk => ?_⟩
  obtain ⟨m, rfl⟩ : ∃ m, k = m + 1 := ⟨k - 1, by omega⟩
  rw [h, hK m (by omega)]
theorem cm_same {α : Type} {f g : Nat → Option α} {v : α} (h : ∀ k, f k = g k) (hg : Cm g v) : Cm f v := by
  obtain ⟨K, hK⟩ := hg
  exact ⟨K, fun k hk => by rw [h, hK k hk]⟩
theorem cm_bind {α β : Type} {a : Nat → Option α} {t : α} {g : Nat → α → Option β} {v : β} (ha : Cm a t) (hg : Cm (fun k => g k t) v) : Cm (fun k => (a k).bind (g k)) v := by
  obtain ⟨K, hK⟩ := ha
  obtain ⟨M, hM⟩ := hg
  exact ⟨K + M, fun k hk => by simp only [hK k (by omega)]; exact hM k (by omega)⟩
theorem cm_yes {α : Type} {c : Prop} [Decidable c] {x y : Nat → Option α} {v : α} (h : c) (h2 : Cm x v) : Cm (fun k => if c then x k else y k) v :=
  cm_same (fun _ => if_pos h) h2
theorem cm_no {α : Type} {c : Prop} [Decidable c] {x y : Nat → Option α} {v : α} (h : ¬ c) (h2 : Cm y v) : Cm (fun k => if c then x k else y k) v :=
  cm_same (fun _ => if_neg h) h2
end Go.Proofs.Ytgcliajajcinpaa.EvN
end
section
namespace Go.Proofs.Ytgcliajajcinpaa.Lp
open Go.RowKit Go.Proofs.YtgcliajajcinpaaW.PrintWords
open Go.Proofs.Ytgcliajajcinpaa.Pl Go.Proofs.Ytgcliajajcinpaa.EvN
def okFrom {α : Type} (p : List α → α → Bool) : List α → List α → Bool
  | _, [] => true
  | pre, h :: t => p pre h && okFrom p (pre ++ [h]) t
theorem all_cm {α ρ : Type} {L : Nat → Int → Option ρ} (xs : List α) (p : List α → α → Bool) {fin no : ρ}
    (hstep : ∀ pre h t, pre ++ h :: t = xs → pre.length < xs.length → p pre h = true → ∀ v, Cm (fun k => L k ((pre.length + 1 : Nat) : Int)) v → Cm (fun k => L k (pre.length : Int)) v)
    (hno : ∀ pre h t, pre ++ h :: t = xs → pre.length < xs.length → p pre h = false → Cm (fun k => L k (pre.length : Int)) no)
    (hend : okFrom p [] xs = true → Cm (fun k => L k (xs.length : Int)) fin) : Cm (fun k => L k 0) (if okFrom p [] xs = true then fin else no) := by
  have key : ∀ (rest pre : List α), pre ++ rest = xs → (okFrom p pre rest = okFrom p [] xs) → Cm (fun k => L k (pre.length : Int)) (if okFrom p pre rest = true then fin else no) := by
    intro rest
    induction rest with
    | nil =>
      intro pre e h
      rw [List.append_nil] at e
      subst e
      simp only [okFrom, if_true] at h ⊢
      exact hend h.symm
    | cons x t ih =>
      intro pre e h
      by_cases c : p pre x = true
      · have h2 : okFrom p pre (x :: t) = okFrom p (pre ++ [x]) t := by simp only [okFrom, c, Bool.true_and]
        rw [h2] at h ⊢
        have h3 := ih (pre ++ [x]) (app_mid e) h
        rw [len_one] at h3
        exact hstep pre x t e (len_mid e) c _ h3
      · have c2 : p pre x = false := by simpa using c
        have h2 : okFrom p pre (x :: t) = false := by simp only [okFrom, c2, Bool.false_and]
        rw [h2]
        simpa using hno pre x t e (len_mid e) c2
  exact key xs [] rfl rfl
theorem okFrom_all {α : Type} (p : α → Bool) : ∀ (rest pre : List α), okFrom (fun _ h => p h) pre rest = rest.all p
  | [], _ => rfl
  | x :: t, pre => by simp only [okFrom, List.all_cons, okFrom_all p t]
theorem every_cm {α ρ : Type} {L : Nat → Int → Option ρ} (xs : List α) (p : α → Bool) {fin no : ρ}
    (hstep : ∀ pre h t, pre ++ h :: t = xs → pre.length < xs.length → p h = true → ∀ v, Cm (fun k => L k ((pre.length + 1 : Nat) : Int)) v → Cm (fun k => L k (pre.length : Int)) v)
    (hno : ∀ pre h t, pre ++ h :: t = xs → pre.length < xs.length → p h = false → Cm (fun k => L k (pre.length : Int)) no)
    (hend : xs.all p = true → Cm (fun k => L k (xs.length : Int)) fin) : Cm (fun k => L k 0) (if xs.all p = true then fin else no) := by
  have := all_cm (L := L) xs (fun _ h => p h) hstep hno (by rw [okFrom_all]; exact hend)
  rw [okFrom_all] at this
  exact this
def foundAt {α ρ : Type} (p : α → Bool) (found : Nat → α → ρ) (none_ : ρ) : Nat → List α → ρ
  | _, [] => none_
  | i, h :: t => if p h = true then found i h else foundAt p found none_ (i + 1) t
theorem find_cm {α ρ : Type} {L : Nat → Int → Option ρ} (xs : List α) (p : α → Bool) (found : Nat → α → ρ) {none_ : ρ}
    (hstep : ∀ pre h t, pre ++ h :: t = xs → pre.length < xs.length → p h = false → ∀ v, Cm (fun k => L k ((pre.length + 1 : Nat) : Int)) v → Cm (fun k => L k (pre.length : Int)) v)
    (hyes : ∀ pre h t, pre ++ h :: t = xs → pre.length < xs.length → p h = true → Cm (fun k => L k (pre.length : Int)) (found pre.length h))
    (hend : Cm (fun k => L k (xs.length : Int)) none_) : Cm (fun k => L k 0) (foundAt p found none_ 0 xs) := by
  have key : ∀ (rest pre : List α), pre ++ rest = xs → Cm (fun k => L k (pre.length : Int)) (foundAt p found none_ pre.length rest) := by
    intro rest
    induction rest with
    | nil =>
      intro pre e
      rw [List.append_nil] at e
      subst e
      exact hend
    | cons x t ih =>
      intro pre e
      unfold foundAt
      by_cases c : p x = true
      · rw [if_pos c]
        exact hyes pre x t e (len_mid e) c
      · rw [if_neg c]
        have h3 := ih (pre ++ [x]) (app_mid e)
        rw [len_one] at h3
        exact hstep pre x t e (len_mid e) (by simpa using c) _ h3
  exact key xs [] rfl
theorem found_any {α : Type} (p : α → Bool) : ∀ (l : List α) (i : Nat), decide (foundAt p (fun i _ => (i : Int)) (-1) i l ≥ 0) = l.any p
  | [], _ => by simp [foundAt]
  | h :: t, i => by
    unfold foundAt
    by_cases c : p h = true
    · rw [if_pos c]; simp [c]
    · rw [if_neg c, found_any p t (i + 1)]; simp [c]
theorem not_any {α : Type} (p q : α → Bool) (l : List α) (h : ∀ x ∈ l, p x = !q x) : (!l.any p) = l.all q := by
  induction l with
  | nil => rfl
  | cons x t ih => rw [List.any_cons, List.all_cons, h x (by simp), ← ih (fun y hy => h y (by simp [hy]))]; cases q x <;> simp
theorem same_cm {α ρ : Type} {L : Nat → Int → Option ρ} (xs : List α) {fin : ρ}
    (hstep : ∀ pre h t, pre ++ h :: t = xs → pre.length < xs.length → ∀ v, Cm (fun k => L k ((pre.length + 1 : Nat) : Int)) v → Cm (fun k => L k (pre.length : Int)) v)
    (hend : Cm (fun k => L k (xs.length : Int)) fin) : Cm (fun k => L k 0) fin := by
  have := every_cm (L := L) xs (fun _ => true) (fin := fin) (no := fin) (fun pre h t e hl _ => hstep pre h t e hl) (fun _ _ _ _ _ hp => by cases hp) (fun _ => hend)
  have h : (xs.all fun _ => true) = true := by simp
  rw [if_pos h] at this
  exact this
theorem map_cm {α β : Type} {L : Nat → Int → List β → Option (List β)} (xs : List α) (c : α → β) (z : β)
    (hstep : ∀ pre h t acc, pre ++ h :: t = xs → pre.length < xs.length → acc.length = xs.length → ∀ u, Cm (fun k => L k ((pre.length + 1 : Nat) : Int) (acc.set pre.length (c h))) u → Cm (fun k => L k (pre.length : Int) acc) u)
    (hend : ∀ acc, acc.length = xs.length → Cm (fun k => L k (xs.length : Int) acc) acc) : Cm (fun k => L k 0 (List.replicate xs.length z)) (xs.map c) := by
  have key : ∀ (rest pre : List α) (tl : List β), pre ++ rest = xs → tl.length = rest.length → Cm (fun k => L k (pre.length : Int) (pre.map c ++ tl)) (xs.map c) := by
    intro rest
    induction rest with
    | nil =>
      intro pre tl e ht
      have ht2 : tl = [] := List.length_eq_zero_iff.1 ht
      rw [List.append_nil] at e
      subst ht2 e
      rw [List.append_nil]
      exact hend _ (by simp)
    | cons h t ih =>
      intro pre tl e ht
      match tl, ht with
      | y :: tl, ht =>
        refine hstep pre h t _ e (len_mid e) (by rw [← e]; simp at ht ⊢; omega) _ ?_
        have e2 : (pre.map c ++ y :: tl).set pre.length (c h) = (pre ++ [h]).map c ++ tl := by
          have : pre.length = (pre.map c).length := by simp
          rw [this]
          simp
        rw [e2]
        have := ih (pre ++ [h]) tl (app_mid e) (by simpa using ht)
        rw [len_one] at this
        exact this
  have := key xs [] (List.replicate xs.length z) rfl (by simp)
  simpa using this
theorem cm_if {α : Type} {c : Prop} [Decidable c] {x y : Nat → Option α} {v : α} (h : c → Cm x v) (h2 : ¬ c → Cm y v) : Cm (fun k => if c then x k else y k) v := by
  by_cases hc : c
  · exact cm_yes hc (h hc)
  · exact cm_no hc (h2 hc)
theorem getD_at {α : Type} {pre t l : List α} {h : α} (e : pre ++ h :: t = l) (d : α) : l.getD ((pre.length : Int)).toNat d = h := by
  rw [← e]; simp
theorem cm_val {α : Type} {f : Nat → Option α} {u v : α} (h : Cm f u) (e : u = v) : Cm f v := e ▸ h
end Go.Proofs.Ytgcliajajcinpaa.Lp
end
section
namespace Go.Proofs.Ytgcliajajcinpaa.Hs
open Go.RowKit Go.Proofs.Ytgcliajajcinpaa.P Go.Proofs.YtgcliajajcinpaaW.PrintWords Go.Proofs.YtgcliajajcinpaaW.PrintLast Go.Proofs.YtgcliajajcinpaaW.PrintMore
open Go.Proofs.Ytgcliajajcinpaa.Pl Go.Proofs.Ytgcliajajcinpaa.EvN Go.Proofs.Ytgcliajajcinpaa.Lp
set_option linter.unusedSimpArgs false
set_option linter.unusedVariables false
theorem toIntS_f (l : List Int) (h : l.length * 8 ≤ 140737488351232) : Cm (fun k => laws_toIntS.f k l) l := by
  unfold laws_toIntS.f
  refine cm_yes (by omega) (cm_yes (by omega) ?_)
  have := map_cm (L := fun k i s => laws_toIntS.l0 k l s i) l (fun x => x) 0 ?_ ?_
  · simpa using this
  · intro pre x t acc e hlt ha u hu
    refine cm_step (fun k => by rw [laws_toIntS.l0]) ?_
    simp only [rd_at e, wrap_len hlt (show l.length ≤ 4611686018427387904 by omega), Int.toNat_natCast]
    repeat (first | assumption | exact cm_now (fun _ => rfl) | refine cm_yes (by first | omega | assumption | (simp; done) | (simp; omega)) ?_ | refine cm_no (by first | omega | assumption | (simp; done) | (simp; omega)) ?_)
  · intro acc ha
    refine cm_step (fun k => by rw [laws_toIntS.l0]) ?_
    repeat (first | assumption | exact cm_now (fun _ => rfl) | refine cm_yes (by first | omega | assumption | (simp; done) | (simp; omega)) ?_ | refine cm_no (by first | omega | assumption | (simp; done) | (simp; omega)) ?_)
theorem eqIntS_same (l : List Int) (h : l.length ≤ 4611686018427387904) : Cm (fun k => laws_eqIntS.f k l l) true := by
  unfold laws_eqIntS.f
  refine cm_yes rfl ?_
  refine same_cm (L := fun k i => laws_eqIntS.l0 k l l i) l ?_ ?_
  · intro pre x t e hlt v hv
    refine cm_step (fun k => by rw [laws_eqIntS.l0]) ?_
    simp only [rd_at e, wrap_len hlt h]
    repeat (first | assumption | exact cm_now (fun _ => rfl) | refine cm_yes (by first | omega | assumption | (simp; done) | (simp; omega) | exact rfl) ?_ | refine cm_no (by first | omega | assumption | (simp; done) | (simp; omega) | exact rfl) ?_)
  · refine cm_step (fun k => by rw [laws_eqIntS.l0]) ?_
    repeat (first | assumption | exact cm_now (fun _ => rfl) | refine cm_yes (by first | omega | assumption | (simp; done) | (simp; omega)) ?_ | refine cm_no (by first | omega | assumption | (simp; done) | (simp; omega)) ?_)
end Go.Proofs.Ytgcliajajcinpaa.Hs
end
section
namespace Go.Proofs.Ytgcliajajcinpaa.Hs
open Go.RowKit Go.Proofs.Ytgcliajajcinpaa.P Go.Proofs.YtgcliajajcinpaaW.PrintWords Go.Proofs.YtgcliajajcinpaaW.PrintLast Go.Proofs.YtgcliajajcinpaaW.PrintMore
open Go.Proofs.Ytgcliajajcinpaa.Pl Go.Proofs.Ytgcliajajcinpaa.EvN Go.Proofs.Ytgcliajajcinpaa.Lp
set_option linter.unusedSimpArgs false
set_option linter.unusedVariables false
theorem rdL_at {pre t l : List (List Int)} {h : List Int} (e : pre ++ h :: t = l) : rd_L1 l (pre.length : Int) = h := getD_at e _
theorem eqIntSS_same (l : List (List Int)) (h : l.length ≤ 4611686018427387904) (hs : ∀ x ∈ l, x.length ≤ 4611686018427387904) : Cm (fun k => laws_eqIntSS.f k l l) true := by
  unfold laws_eqIntSS.f
  refine cm_yes rfl ?_
  refine same_cm (L := fun k i => laws_eqIntSS.l0 k l l i) l ?_ ?_
  · intro pre x t e hlt v hv
    have hx := hs x (by rw [← e]; simp)
    refine cm_step (fun k => by rw [laws_eqIntSS.l0]) ?_
    simp only [rdL_at e, wrap_len hlt h]
    repeat (first | assumption | exact cm_now (fun _ => rfl) | refine cm_bind (eqIntS_same _ hx) ?_ | refine cm_yes (by first | omega | assumption | (simp; done) | (simp; omega) | exact rfl) ?_ | refine cm_no (by first | omega | assumption | (simp; done) | (simp; omega) | exact rfl) ?_)
  · refine cm_step (fun k => by rw [laws_eqIntSS.l0]) ?_
    repeat (first | assumption | exact cm_now (fun _ => rfl) | refine cm_yes (by first | omega | assumption | (simp; done) | (simp; omega)) ?_ | refine cm_no (by first | omega | assumption | (simp; done) | (simp; omega)) ?_)
end Go.Proofs.Ytgcliajajcinpaa.Hs
end
section
namespace Go.Proofs.Ytgcliajajcinpaa.Sz
open Go.RowKit Go.Proofs.Ytgcliajajcinpaa.P Go.Proofs.YtgcliajajcinpaaW.PrintWords Go.Proofs.YtgcliajajcinpaaW.PrintLast Go.Proofs.YtgcliajajcinpaaW.PrintMore
open Go.Proofs.Ytgcliajajcinpaa.Pl Go.Proofs.Ytgcliajajcinpaa.EvN Go.Proofs.Ytgcliajajcinpaa.Lp Go.Proofs.Ytgcliajajcinpaa.Hs
set_option linter.unusedVariables false
set_option linter.unusedSimpArgs false
theorem tot_le {α : Type} (c : α → Nat) (m : Nat) : ∀ (l : List α), (∀ x ∈ l, c x ≤ m) → Mk.tot c l ≤ m * l.length
  | [], _ => Nat.zero_le _
  | x :: l, h => by
    have := tot_le c m l (fun y hy => h y (List.mem_cons_of_mem _ hy))
    have := h x List.mem_cons_self
    unfold Mk.tot at *
    simp only [List.map_cons, List.sum_cons, List.length_cons, Nat.mul_succ]
    omega
end Go.Proofs.Ytgcliajajcinpaa.Sz
end
section
namespace Go.Proofs.Ytgcliajajcinpaa.Sets
open Go.RowKit Go.Proofs.YtgcliajajcinpaaW.PrintWords Go.Proofs.YtgcliajajcinpaaW.PrintLast Go.Proofs.YtgcliajajcinpaaW.PrintMore
open Go.Proofs.Ytgcliajajcinpaa.Pl Go.Proofs.Ytgcliajajcinpaa.EvN Go.Proofs.Ytgcliajajcinpaa.Lp
set_option linter.unusedSimpArgs false
set_option linter.unusedVariables false
end Go.Proofs.Ytgcliajajcinpaa.Sets
end
section
namespace Go.Proofs.Ytgcliajajcinpaa.Mem
open Go.RowKit Go.Proofs.Ytgcliajajcinpaa.P Go.Proofs.YtgcliajajcinpaaW.PrintWords Go.Proofs.YtgcliajajcinpaaW.PrintLast Go.Proofs.YtgcliajajcinpaaW.PrintMore
open Go.Proofs.Ytgcliajajcinpaa.Pl Go.Proofs.Ytgcliajajcinpaa.EvN Go.Proofs.Ytgcliajajcinpaa.Lp Go.Proofs.Ytgcliajajcinpaa.Sets
set_option linter.unusedSimpArgs false
set_option linter.unusedVariables false
theorem in_f (a b c : Int) : impl_in.f a b c = some (decide (b ≤ a ∧ a ≤ c)) := by
  unfold impl_in.f
  by_cases h : a ≥ b
  · rw [if_pos h]; congr 1; rw [decide_eq_decide]; omega
  · rw [if_neg h]; congr 1; symm; rw [decide_eq_false_iff_not]; omega
theorem l1In_f (a b c : Int) : spec_l1In.f a b c = some (decide (b ≤ a ∧ a ≤ c)) := by
  unfold spec_l1In.f
  by_cases h : a ≥ b
  · rw [if_pos h]; congr 1; rw [decide_eq_decide]; omega
  · rw [if_neg h]; congr 1; symm; rw [decide_eq_false_iff_not]; omega
end Go.Proofs.Ytgcliajajcinpaa.Mem
end
section
namespace Go.Proofs.Ytgcliajajcinpaa.Mem
open Go.RowKit Go.Proofs.Ytgcliajajcinpaa.P Go.Proofs.YtgcliajajcinpaaW.PrintWords Go.Proofs.YtgcliajajcinpaaW.PrintLast Go.Proofs.YtgcliajajcinpaaW.PrintMore
open Go.Proofs.Ytgcliajajcinpaa.Pl Go.Proofs.Ytgcliajajcinpaa.EvN Go.Proofs.Ytgcliajajcinpaa.Lp Go.Proofs.Ytgcliajajcinpaa.Sets
set_option linter.unusedSimpArgs false
set_option linter.unusedVariables false
theorem has_f (l : List Int) (n : Int) (hl : l.length ≤ 4611686018427387904) : Cm (fun k => spec_l1Has.f k l n) (decide (n ∈ l)) := by
  unfold spec_l1Has.f
  have := every_cm (L := fun k i => spec_l1Has.l0 k n l (l.length : Int) i) l (fun x => decide (x ≠ n)) (fin := false) (no := true) ?_ ?_ ?_
  · refine cm_val this ?_
    by_cases c : n ∈ l
    · simp [c]
    · simp [c]
      intro x hx e
      subst e
      exact c hx
  · intro pre h t e hlt hp v hv
    simp only [decide_eq_true_eq] at hp
    refine cm_step (fun k => by rw [spec_l1Has.l0]) ?_
    simp only [rd_at e, wrap_len hlt hl]
    repeat (first | assumption | exact cm_now (fun _ => rfl) | refine cm_yes (by first | omega | assumption | (simp; done) | (simp; omega)) ?_ | refine cm_no (by first | omega | assumption | (simp; done) | (simp; omega)) ?_)
  · intro pre h t e hlt hp
    simp only [decide_eq_false_iff_not, ne_eq, Decidable.not_not] at hp
    refine cm_step (fun k => by rw [spec_l1Has.l0]) ?_
    simp only [rd_at e, wrap_len hlt hl]
    repeat (first | assumption | exact cm_now (fun _ => rfl) | refine cm_yes (by first | omega | assumption | (simp; done) | (simp; omega)) ?_ | refine cm_no (by first | omega | assumption | (simp; done) | (simp; omega)) ?_)
  · intro _
    refine cm_step (fun k => by rw [spec_l1Has.l0]) ?_
    repeat (first | assumption | exact cm_now (fun _ => rfl) | refine cm_yes (by first | omega | assumption | (simp; done) | (simp; omega)) ?_ | refine cm_no (by first | omega | assumption | (simp; done) | (simp; omega)) ?_)
theorem contains_f (l : List Int) (n : Int) (hl : l.length ≤ 4611686018427387904) : Cm (fun k => slices_Contains_int_int.f k l n) (decide (n ∈ l)) := by
  unfold slices_Contains_int_int.f slices_Index_int_int.f
  refine cm_bind (t := foundAt (fun x => decide (n = x)) (fun i _ => (i : Int)) (-1) 0 l) ?_ (cm_now fun _ => ?_)
  · refine find_cm (L := fun k i => slices_Index_int_int.l0 k l n (l.length : Int) i) l (fun x => decide (n = x)) (fun i _ => (i : Int)) (none_ := (-1 : Int)) ?_ ?_ ?_
    · intro pre h t e hlt hp v hv
      simp only [decide_eq_false_iff_not] at hp
      refine cm_step (fun k => by rw [slices_Index_int_int.l0]) ?_
      simp only [rd_at e, wrap_len hlt hl]
      repeat (first | assumption | exact cm_now (fun _ => rfl) | refine cm_yes (by first | omega | assumption | (simp; done) | (simp; omega)) ?_ | refine cm_no (by first | omega | assumption | (simp; done) | (simp; omega)) ?_)
    · intro pre h t e hlt hp
      simp only [decide_eq_true_eq] at hp
      refine cm_step (fun k => by rw [slices_Index_int_int.l0]) ?_
      simp only [rd_at e, wrap_len hlt hl]
      repeat (first | assumption | exact cm_now (fun _ => rfl) | refine cm_yes (by first | omega | assumption | (simp; done) | (simp; omega)) ?_ | refine cm_no (by first | omega | assumption | (simp; done) | (simp; omega)) ?_)
    · refine cm_step (fun k => by rw [slices_Index_int_int.l0]) ?_
      repeat (first | assumption | exact cm_now (fun _ => rfl) | refine cm_yes (by first | omega | assumption | (simp; done) | (simp; omega)) ?_ | refine cm_no (by first | omega | assumption | (simp; done) | (simp; omega)) ?_)
  · rw [found_any]
    congr 1
    rw [Bool.eq_iff_iff]
    simp
end Go.Proofs.Ytgcliajajcinpaa.Mem
end
section
namespace Go.Proofs.Ytgcliajajcinpaa.Put
open Go.RowKit Go.Proofs.Ytgcliajajcinpaa.P Go.Proofs.YtgcliajajcinpaaW.PrintWords Go.Proofs.YtgcliajajcinpaaW.PrintLast Go.Proofs.YtgcliajajcinpaaW.PrintMore
open Go.Proofs.Ytgcliajajcinpaa.Pl Go.Proofs.Ytgcliajajcinpaa.EvN Go.Proofs.Ytgcliajajcinpaa.Lp
set_option linter.unusedSimpArgs false
set_option linter.unusedVariables false
end Go.Proofs.Ytgcliajajcinpaa.Put
end
section
namespace Go.Proofs.Ytgcliajajcinpaa.Rack
open Go.RowKit Go.Proofs.Ytgcliajajcinpaa.P Go.Proofs.YtgcliajajcinpaaW.PrintWords Go.Proofs.YtgcliajajcinpaaW.PrintLast Go.Proofs.YtgcliajajcinpaaW.PrintMore
open Go.Proofs.Ytgcliajajcinpaa.Pl Go.Proofs.Ytgcliajajcinpaa.EvN Go.Proofs.Ytgcliajajcinpaa.Lp Go.Proofs.Ytgcliajajcinpaa.Sets Go.Proofs.Ytgcliajajcinpaa.Mem Go.Proofs.Ytgcliajajcinpaa.Put
set_option linter.unusedSimpArgs false
set_option linter.unusedVariables false
def racks (l : List Int) : Bool := l.all (fun r => decide (0 ≤ r ∧ r ≤ 3)) && decide (1 ≤ l.length ∧ l.length ≤ 6)
theorem racks_iff {l : List Int} : racks l = true ↔ (∀ r ∈ l, 0 ≤ r ∧ r ≤ 3) ∧ (1 ≤ l.length ∧ l.length ≤ 6) := by
  simp [racks]
theorem l13Racks_f (l : List Int) (hl : l.length ≤ 4611686018427387904) : Cm (fun k => spec_l13Racks.f k l) (racks l) := by
  unfold spec_l13Racks.f
  have := every_cm (L := fun k i => spec_l13Racks.l0 k l l (l.length : Int) i) l (fun r => decide (0 ≤ r ∧ r ≤ 3)) (fin := decide (1 ≤ l.length ∧ l.length ≤ 6)) (no := false) ?_ ?_ ?_
  · refine cm_val this ?_
    unfold racks
    cases l.all fun r => decide (0 ≤ r ∧ r ≤ 3) <;> simp
  · intro pre h t e hlt hp v hv
    refine cm_step (fun k => by rw [spec_l13Racks.l0]) ?_
    simp only [rd_at e, wrap_len hlt hl, l1In_f]
    exact cm_yes (by omega) (cm_yes (by omega) (cm_yes (by omega) (cm_bind (cm_now fun _ => rfl) (cm_yes hp hv))))
  · intro pre h t e hlt hp
    refine cm_step (fun k => by rw [spec_l13Racks.l0]) ?_
    simp only [rd_at e, wrap_len hlt hl, l1In_f]
    exact cm_yes (by omega) (cm_yes (by omega) (cm_yes (by omega) (cm_bind (cm_now fun _ => rfl) (cm_no (by simpa using hp) (cm_now fun _ => rfl)))))
  · intro _
    refine cm_step (fun k => by rw [spec_l13Racks.l0]) ?_
    simp only [l1In_f]
    refine cm_no (by omega) (cm_bind (cm_now fun _ => rfl) (cm_now fun _ => ?_))
    congr 1
    rw [decide_eq_decide]
    omega
theorem anyR_index (l : List Int) (hl : l.length ≤ 4611686018427387904) (p : Int → Bool) (hc : ∀ h ∈ l, Cm (fun k => impl_areRacks_1.f h) (p h)) :
    Cm (fun k => slices_IndexFunc_int_int_of_impl_areRacks_1.f k l) (foundAt p (fun i _ => (i : Int)) (-1) 0 l) := by
  unfold slices_IndexFunc_int_int_of_impl_areRacks_1.f
  refine find_cm (L := fun k i => slices_IndexFunc_int_int_of_impl_areRacks_1.l0 k l (l.length : Int) i) l p (fun i _ => (i : Int)) (none_ := (-1 : Int)) ?_ ?_ ?_
  · intro pre h t e hlt hp v hv
    refine cm_step (fun k => by rw [slices_IndexFunc_int_int_of_impl_areRacks_1.l0]) ?_
    simp only [rd_at e, wrap_len hlt hl]
    refine cm_yes (by omega) (cm_yes (by omega) (cm_yes (by omega) (cm_bind (hc h (by rw [← e]; simp)) ?_)))
    exact cm_no (by simpa using hp) hv
  · intro pre h t e hlt hp
    refine cm_step (fun k => by rw [slices_IndexFunc_int_int_of_impl_areRacks_1.l0]) ?_
    simp only [rd_at e, wrap_len hlt hl]
    refine cm_yes (by omega) (cm_yes (by omega) (cm_yes (by omega) (cm_bind (hc h (by rw [← e]; simp)) ?_)))
    exact cm_yes hp (cm_now fun _ => rfl)
  · refine cm_step (fun k => by rw [slices_IndexFunc_int_int_of_impl_areRacks_1.l0]) ?_
    exact cm_no (by omega) (cm_now fun _ => rfl)
theorem anyR (l : List Int) (hl : l.length ≤ 4611686018427387904) (p : Int → Bool) (hc : ∀ h ∈ l, Cm (fun k => impl_areRacks_1.f h) (p h)) : Cm (fun k => slices_ContainsFunc_int_int_of_impl_areRacks_1.f k l) (l.any p) := by
  unfold slices_ContainsFunc_int_int_of_impl_areRacks_1.f
  refine cm_bind (anyR_index l hl p hc) (cm_now fun _ => ?_)
  rw [found_any]
theorem areRacks_f (l : List Int) (hl : l.length ≤ 4611686018427387904) : Cm (fun k => impl_areRacks.f k l) (racks l) := by
  unfold impl_areRacks.f
  simp only [in_f]
  refine cm_bind (cm_now fun _ => rfl) ?_
  by_cases c : 1 ≤ l.length ∧ l.length ≤ 6
  · refine cm_yes (by simp; omega) (cm_bind (anyR l hl (fun r => !decide (0 ≤ r ∧ r ≤ 3)) (fun r _ => cm_now fun _ => ?_)) (cm_now fun _ => ?_))
    · unfold impl_areRacks_1.f
      rw [in_f]
      rfl
    · rw [not_any _ (fun r => decide (0 ≤ r ∧ r ≤ 3)) l (fun _ _ => rfl)]
      simp [racks, c]
  · refine cm_no (by simp; omega) (cm_now fun _ => ?_)
    simp [racks, c]
theorem rd_in {l : List Int} {i : Int} (h : i < (l.length : Int)) (h0 : 0 ≤ i) : rd l i ∈ l := by
  unfold rd
  have h2 : i.toNat < l.length := by omega
  rw [List.getD_eq_getElem?_getD, List.getElem?_eq_getElem h2]
  exact List.getElem_mem h2
end Go.Proofs.Ytgcliajajcinpaa.Rack
end
section
namespace Go.Proofs.Ytgcliajajcinpaa.Pick
open Go.RowKit Go.Proofs.YtgcliajajcinpaaW.PrintWords
open Go.Proofs.Ytgcliajajcinpaa.Pl Go.Proofs.Ytgcliajajcinpaa.EvN Go.Proofs.Ytgcliajajcinpaa.Lp
set_option linter.unusedVariables false
set_option linter.unusedSimpArgs false
theorem iter_cm {σ ρ : Type} {L : Nat → Int → σ → Option ρ} (n : Nat) (st : Nat → σ) {v : ρ} (hs : ∀ i, i < n → ∀ u, Cm (fun k => L k ((i + 1 : Nat) : Int) (st (i + 1))) u → Cm (fun k => L k (i : Int) (st i)) u)
    (he : Cm (fun k => L k (n : Int) (st n)) v) : Cm (fun k => L k 0 (st 0)) v := by
  have key : ∀ (d i : Nat), i + d = n → Cm (fun k => L k (i : Int) (st i)) v := by
    intro d
    induction d with
    | zero => intro i e; rw [Nat.add_zero] at e; subst e; exact he
    | succ d ih => intro i e; exact hs i (by omega) v (ih (i + 1) (by omega))
  exact key n 0 (by omega)
theorem wrap_n {i n : Nat} (h : i < n) (hn : n ≤ 4611686018427387904) : wrap64 ((i : Int) + 1) = ((i + 1 : Nat) : Int) := by
  rw [show ((i + 1 : Nat) : Int) = (i : Int) + 1 by omega]
  exact wrap_in (by omega) (by omega)
end Go.Proofs.Ytgcliajajcinpaa.Pick
end
section
namespace Go.Proofs.Ytgcliajajcinpaa.Racks
open Go.RowKit Go.Proofs.Ytgcliajajcinpaa.P Go.Proofs.YtgcliajajcinpaaW.PrintWords Go.Proofs.YtgcliajajcinpaaW.PrintLast Go.Proofs.YtgcliajajcinpaaW.PrintMore
open Go.Proofs.Ytgcliajajcinpaa.Pl Go.Proofs.Ytgcliajajcinpaa.EvN Go.Proofs.Ytgcliajajcinpaa.Lp Go.Proofs.Ytgcliajajcinpaa.Sets Go.Proofs.Ytgcliajajcinpaa.Mem Go.Proofs.Ytgcliajajcinpaa.Pick Go.Proofs.Ytgcliajajcinpaa.Rack
set_option linter.unusedSimpArgs false
set_option linter.unusedVariables false
theorem of_k {α : Type} {F : Nat → Option α} (hm : ∀ k, LeO (F k) (F (k + 1))) {n : Nat} {v : α} (h : F n = some v) : Cm F v := by
  refine ⟨n, fun k hk => ?_⟩
  obtain ⟨d, rfl⟩ := Nat.le.dest hk
  induction d with
  | zero => exact h
  | succ d ih => exact hm (n + d) v (ih (by omega))
def scan (p : Nat → Bool) (v : Nat → Int) : Nat → Nat → Int
  | 0, _ => -1
  | d + 1, j => if p j then v j else scan p v d (j + 1)
theorem scan_succ (p : Nat → Bool) (v : Nat → Int) (d j : Nat) : scan p v (d + 1) j = if p j = true then v j else scan p v d (j + 1) := rfl
theorem scan_yes {p : Nat → Bool} {v : Nat → Int} : ∀ (d j : Nat), (∃ i, j ≤ i ∧ i < j + d ∧ p i = true) → ∃ i, j ≤ i ∧ i < j + d ∧ p i = true ∧ scan p v d j = v i
  | 0, j, ⟨i, h1, h2, _⟩ => absurd h2 (by omega)
  | d + 1, j, ⟨i, h1, h2, h3⟩ => by
    unfold scan
    by_cases c : p j = true
    · exact ⟨j, Nat.le_refl _, by omega, c, by rw [if_pos c]⟩
    · have hij : i ≠ j := fun e => c (e ▸ h3)
      obtain ⟨m, a, b, e, f⟩ := scan_yes d (j + 1) ⟨i, by omega, by omega, h3⟩
      exact ⟨m, by omega, by omega, e, by rw [if_neg c]; exact f⟩
theorem scan_no {p : Nat → Bool} {v : Nat → Int} : ∀ (d j : Nat), (∀ i, j ≤ i → i < j + d → p i = false) → scan p v d j = -1
  | 0, j, _ => rfl
  | d + 1, j, h => by
    unfold scan
    rw [if_neg (by simp [h j (Nat.le_refl _) (by omega)])]
    exact scan_no d (j + 1) (fun i h1 h2 => h i (by omega) (by omega))
theorem scan_cases (p : Nat → Bool) (v : Nat → Int) (d j : Nat) : (∃ i, j ≤ i ∧ i < j + d ∧ p i = true ∧ scan p v d j = v i) ∨ ((∀ i, j ≤ i → i < j + d → p i = false) ∧ scan p v d j = -1) := by
  by_cases h : ∃ i, j ≤ i ∧ i < j + d ∧ p i = true
  · exact .inl (scan_yes d j h)
  · have h2 : ∀ i, j ≤ i → i < j + d → p i = false := fun i h1 h2 => by
      cases c : p i with
      | false => rfl
      | true => exact absurd ⟨i, h1, h2, c⟩ h
    exact .inr ⟨h2, scan_no d j h2⟩
theorem scan_congr {p q : Nat → Bool} (v : Nat → Int) (h : ∀ i, p i = q i) (d j : Nat) : scan p v d j = scan q v d j := by
  rw [show p = q from funext h]
theorem down_cm {ρ : Type} {L : Nat → Int → Int → Option ρ} (p : Nat → Bool) (v : Nat → Int) (n : Nat) (hn : 1 ≤ n) {u : ρ}
    (step : ∀ j : Nat, 1 ≤ j → j < n → ∀ s u, Cm (fun k => L k (if p j = true then v j else s) ((j : Int) - 1)) u → Cm (fun k => L k s (j : Int)) u)
    (he : Cm (fun k => L k (scan p v (n - 1) 1) 0) u) : Cm (fun k => L k (-1) ((n : Int) - 1)) u := by
  have key : ∀ j : Nat, j + 1 ≤ n → Cm (fun k => L k (scan p v (n - 1 - j) (j + 1)) (j : Int)) u := by
    intro j
    induction j with
    | zero => intro _; exact he
    | succ j ih =>
      intro h
      refine step (j + 1) (by omega) (by omega) _ _ ?_
      have := ih (by omega)
      rw [show n - 1 - j = (n - 1 - (j + 1)) + 1 by omega] at this
      rw [scan_succ] at this
      rw [show (((j + 1 : Nat) : Int)) - 1 = (j : Int) by omega]
      exact this
  have := key (n - 1) (by omega)
  rw [Nat.sub_self] at this
  rw [show ((n : Int) - 1) = ((n - 1 : Nat) : Int) by omega]
  exact this
theorem up_cm {ρ : Type} {L : Nat → Int → Int → Option ρ} (p : Nat → Bool) (v : Nat → Int) (hv : ∀ j, 0 ≤ v j) (n : Nat) (hn : 1 ≤ n) {u : ρ}
    (step : ∀ j : Nat, 1 ≤ j → j < n → ∀ u, Cm (fun k => L k (if p j = true then v j else -1) ((j + 1 : Nat) : Int)) u → Cm (fun k => L k (-1) (j : Int)) u)
    (he : ∀ j : Nat, 1 ≤ j → j ≤ n → (scan p v (n - 1) 1 < 0 → j = n) → Cm (fun k => L k (scan p v (n - 1) 1) (j : Int)) u) : Cm (fun k => L k (-1) 1) u := by
  have key : ∀ (d j : Nat), 1 ≤ j → j + d = n → scan p v d j = scan p v (n - 1) 1 → Cm (fun k => L k (-1) (j : Int)) u := by
    intro d
    induction d with
    | zero =>
      intro j h1 h2 e
      have := he j h1 (by omega) (fun _ => by omega)
      rw [← e] at this
      exact this
    | succ d ih =>
      intro j h1 h2 e
      refine step j h1 (by omega) u ?_
      rw [scan_succ] at e
      by_cases c : p j = true
      · rw [if_pos c] at e ⊢
        have := he (j + 1) (by omega) (by omega) (fun h => by have := hv j; omega)
        rw [← e] at this
        exact this
      · rw [if_neg c] at e ⊢
        exact ih (j + 1) (by omega) (by omega) e
  exact key (n - 1) 1 (Nat.le_refl _) (by omega) rfl
def at_ (n h k : Nat) : Int := (((h + k) % n : Nat) : Int)
theorem at_in (n h k : Nat) (hn : 1 ≤ n) : 0 ≤ at_ n h k ∧ at_ n h k < (n : Int) := by
  have := Nat.mod_lt (h + k) (show n > 0 by omega)
  unfold at_
  omega
theorem at_f (n h k : Nat) (hh : h < 100) (hk : k < 100) : Int.tmod (wrap64 ((h : Int) + (k : Int))) (n : Int) = at_ n h k := by
  rw [wrap_in (by omega) (by omega), show ((h : Int) + (k : Int)) = ((h + k : Nat) : Int) by omega]
  rfl
def has (R l : List Int) (r : Int) : Bool := l.any (fun z => decide (rd R z = r))
def fr (R l : List Int) (n h k : Nat) : Bool := !has R l (rd R (at_ n h k))
def out (l : List Int) (n h k : Nat) : Bool := !decide (at_ n h k ∈ l)
def nx (R l : List Int) (n h : Nat) : Int := if scan (fr R l n h) (at_ n h) (n - 1) 1 < 0 then scan (out l n h) (at_ n h) (n - 1) 1 else scan (fr R l n h) (at_ n h) (n - 1) 1
theorem has_congr {R l m : List Int} (h : ∀ z, z ∈ l ↔ z ∈ m) (r : Int) : has R l r = has R m r := by
  have : has R l r = true ↔ has R m r = true := by
    simp only [has, List.any_eq_true, h]
  cases a : has R l r <;> cases b : has R m r <;> simp_all
theorem nx_congr {R l m : List Int} (h : ∀ z, z ∈ l ↔ z ∈ m) (n i : Nat) : nx R l n i = nx R m n i := by
  unfold nx
  rw [scan_congr (at_ n i) (p := fr R l n i) (q := fr R m n i) (fun k => by unfold fr; rw [has_congr h]), scan_congr (at_ n i) (p := out l n i) (q := out m n i) (fun k => by unfold out; simp only [h])]
theorem fr_out {R l : List Int} {n h k : Nat} (hf : fr R l n h k = true) : at_ n h k ∉ l := by
  intro hm
  simp only [fr, has, Bool.not_eq_true', List.any_eq_false, decide_eq_true_eq] at hf
  exact hf _ hm rfl
theorem nx_in {R l : List Int} {n h : Nat} (hn : 1 ≤ n) (hx : ∃ k, 1 ≤ k ∧ k < n ∧ at_ n h k ∉ l) : 0 ≤ nx R l n h ∧ nx R l n h < (n : Int) ∧ nx R l n h ∉ l := by
  unfold nx
  rcases scan_cases (fr R l n h) (at_ n h) (n - 1) 1 with ⟨i, h1, h2, h3, h4⟩ | ⟨_, h4⟩
  · have := at_in n h i hn
    rw [h4, if_neg (by omega)]
    exact ⟨this.1, this.2, fr_out h3⟩
  · rw [h4, if_pos (by omega)]
    obtain ⟨k, a, b, c⟩ := hx
    obtain ⟨i, h1, h2, h3, h5⟩ := scan_yes (p := out l n h) (v := at_ n h) (n - 1) 1 ⟨k, a, by omega, by simpa [out] using c⟩
    have := at_in n h i hn
    rw [h5]
    exact ⟨this.1, this.2, by simpa [out] using h3⟩
def ins (x : Int) : List Int → List Int
  | [] => [x]
  | y :: t => if x < y then x :: y :: t else y :: ins x t
theorem ins_mem (x z : Int) : ∀ l, z ∈ ins x l ↔ z = x ∨ z ∈ l
  | [] => by simp [ins]
  | y :: t => by
    unfold ins
    by_cases c : x < y
    · rw [if_pos c]; simp
    · rw [if_neg c]
      simp only [List.mem_cons, ins_mem x z t]
      constructor
      · rintro (h | h | h) <;> simp [h]
      · rintro (h | h | h) <;> simp [h]
theorem ins_len (x : Int) : ∀ l, (ins x l).length = l.length + 1
  | [] => rfl
  | y :: t => by
    unfold ins
    by_cases c : x < y
    · rw [if_pos c]; rfl
    · rw [if_neg c, List.length_cons, ins_len x t]; rfl
set_option maxRecDepth 100000 in
theorem put1_all : ∀ a : Nat, a < 6 → ∀ b : Nat, b < 6 → a ≠ b → spec_l1Put.f 8 [(a : Int)] (b : Int) = some (ins b [(a : Int)]) := by decide +kernel
set_option maxRecDepth 100000 in
theorem put2_all_b : ((List.range 6).all fun a => (List.range 6).all fun b => (List.range 6).all fun c => decide (a = b) || decide (a = c) || decide (b = c) || decide (spec_l1Put.f 8 (ins b [(a : Int)]) (c : Int) = some (ins c (ins b [(a : Int)])))) = true := by decide +kernel
theorem put2_all : ∀ a : Nat, a < 6 → ∀ b : Nat, b < 6 → ∀ c : Nat, c < 6 → (a ≠ b ∧ a ≠ c ∧ b ≠ c) → spec_l1Put.f 8 (ins b [(a : Int)]) (c : Int) = some (ins c (ins b [(a : Int)])) := by
  intro a ha b hb c hc hn
  have h := put2_all_b
  rw [List.all_eq_true] at h
  have h := h a (List.mem_range.2 ha)
  rw [List.all_eq_true] at h
  have h := h b (List.mem_range.2 hb)
  rw [List.all_eq_true] at h
  have h := h c (List.mem_range.2 hc)
  simpa [hn.1, hn.2.1, hn.2.2] using h
set_option maxRecDepth 100000 in
theorem sort1_all : ∀ a : Nat, a < 6 → slices_Sort_int_int.f 20 [(a : Int)] = some [(a : Int)] := by decide +kernel
set_option maxRecDepth 100000 in
theorem sort2_all : ∀ a : Nat, a < 6 → ∀ b : Nat, b < 6 → a ≠ b → slices_Sort_int_int.f 20 [(a : Int), (b : Int)] = some (ins b [(a : Int)]) := by decide +kernel
set_option maxRecDepth 100000 in
theorem sort3_all_b : ((List.range 6).all fun a => (List.range 6).all fun b => (List.range 6).all fun c => decide (a = b) || decide (a = c) || decide (b = c) || decide (slices_Sort_int_int.f 20 [(a : Int), (b : Int), (c : Int)] = some (ins c (ins b [(a : Int)])))) = true := by decide +kernel
theorem sort3_all : ∀ a : Nat, a < 6 → ∀ b : Nat, b < 6 → ∀ c : Nat, c < 6 → (a ≠ b ∧ a ≠ c ∧ b ≠ c) → slices_Sort_int_int.f 20 [(a : Int), (b : Int), (c : Int)] = some (ins c (ins b [(a : Int)])) := by
  intro a ha b hb c hc hn
  have h := sort3_all_b
  rw [List.all_eq_true] at h
  have h := h a (List.mem_range.2 ha)
  rw [List.all_eq_true] at h
  have h := h b (List.mem_range.2 hb)
  rw [List.all_eq_true] at h
  have h := h c (List.mem_range.2 hc)
  simpa [hn.1, hn.2.1, hn.2.2] using h
end Go.Proofs.Ytgcliajajcinpaa.Racks
end
section
namespace Go.Proofs.Ytgcliajajcinpaa.Racks2
open Go.RowKit Go.Proofs.Ytgcliajajcinpaa.P Go.Proofs.YtgcliajajcinpaaW.PrintWords Go.Proofs.YtgcliajajcinpaaW.PrintLast Go.Proofs.YtgcliajajcinpaaW.PrintMore
open Go.Proofs.Ytgcliajajcinpaa.Pl Go.Proofs.Ytgcliajajcinpaa.EvN Go.Proofs.Ytgcliajajcinpaa.Lp Go.Proofs.Ytgcliajajcinpaa.Sets Go.Proofs.Ytgcliajajcinpaa.Mem Go.Proofs.Ytgcliajajcinpaa.Pick Go.Proofs.Ytgcliajajcinpaa.Rack Go.Proofs.Ytgcliajajcinpaa.Racks
set_option linter.unusedSimpArgs false
set_option linter.unusedVariables false
def In (n : Nat) (l : List Int) : Prop := l.length ≤ 6 ∧ ∀ z ∈ l, 0 ≤ z ∧ z < (n : Int)
theorem hasRack_f (R l : List Int) (r : Int) (hl : In R.length l) : Cm (fun k => spec_l13HasRack.f k R l r) (has R l r) := by
  unfold spec_l13HasRack.f
  have h6 := hl.1
  have := every_cm (L := fun k i => spec_l13HasRack.l0 k R r l (l.length : Int) i) l (fun z => !decide (rd R z = r)) (fin := false) (no := true) ?_ ?_ ?_
  · refine cm_val this ?_
    unfold has
    rw [← not_any (fun z => decide (rd R z = r)) (fun z => !decide (rd R z = r)) l (fun _ _ => by simp)]
    cases l.any (fun z => decide (rd R z = r)) <;> simp
  · intro pre z t e hlt hp v hv
    have hz := hl.2 z (by rw [← e]; simp)
    refine cm_step (fun k => by rw [spec_l13HasRack.l0]) ?_
    simp only [rd_at e, wrap_len hlt (show l.length ≤ 4611686018427387904 by omega)]
    exact cm_yes (by omega) (cm_yes (by omega) (cm_yes (by omega) (cm_yes hz.1 (cm_yes hz.2 (cm_no (by simpa using hp) hv)))))
  · intro pre z t e hlt hp
    have hz := hl.2 z (by rw [← e]; simp)
    refine cm_step (fun k => by rw [spec_l13HasRack.l0]) ?_
    simp only [rd_at e, wrap_len hlt (show l.length ≤ 4611686018427387904 by omega)]
    exact cm_yes (by omega) (cm_yes (by omega) (cm_yes (by omega) (cm_yes hz.1 (cm_yes hz.2 (cm_yes (by simpa using hp) (cm_now fun _ => rfl))))))
  · intro _
    refine cm_step (fun k => by rw [spec_l13HasRack.l0]) ?_
    exact cm_no (by omega) (cm_now fun _ => rfl)
theorem fresh_f (R l : List Int) (hl : In R.length l) (hR : R.length ≤ 6) : Cm (fun k => spec_l13Fresh.f k R l) (R.any (fun r => !has R l r)) := by
  unfold spec_l13Fresh.f
  have := every_cm (L := fun k i => spec_l13Fresh.l0 k R l R (R.length : Int) i) R (fun r => has R l r) (fin := false) (no := true) ?_ ?_ ?_
  · refine cm_val this ?_
    rw [← not_any (fun r => !has R l r) (fun r => has R l r) R (fun _ _ => by simp)]
    cases R.any (fun r => !has R l r) <;> simp
  · intro pre z t e hlt hp v hv
    refine cm_step (fun k => by rw [spec_l13Fresh.l0]) ?_
    simp only [rd_at e, wrap_len hlt (show R.length ≤ 4611686018427387904 by omega)]
    exact cm_yes (by omega) (cm_yes (by omega) (cm_yes (by omega) (cm_bind (hasRack_f R l z hl) (cm_yes hp hv))))
  · intro pre z t e hlt hp
    refine cm_step (fun k => by rw [spec_l13Fresh.l0]) ?_
    simp only [rd_at e, wrap_len hlt (show R.length ≤ 4611686018427387904 by omega)]
    exact cm_yes (by omega) (cm_yes (by omega) (cm_yes (by omega) (cm_bind (hasRack_f R l z hl) (cm_no (by simpa using hp) (cm_now fun _ => rfl)))))
  · intro _
    refine cm_step (fun k => by rw [spec_l13Fresh.l0]) ?_
    exact cm_no (by omega) (cm_now fun _ => rfl)
theorem anyK_index (R : List Int) (x : Int) (l : List Int) (hl : l.length ≤ 4611686018427387904) (p : Int → Bool) (hc : ∀ h ∈ l, Cm (fun k => impl_RacksOf_1.f h R x) (p h)) :
    Cm (fun k => slices_IndexFunc_int_int_of_impl_RacksOf_1.f k l R x) (foundAt p (fun i _ => (i : Int)) (-1) 0 l) := by
  unfold slices_IndexFunc_int_int_of_impl_RacksOf_1.f
  refine find_cm (L := fun k i => slices_IndexFunc_int_int_of_impl_RacksOf_1.l0 k l (l.length : Int) i R x) l p (fun i _ => (i : Int)) (none_ := (-1 : Int)) ?_ ?_ ?_
  · intro pre h t e hlt hp v hv
    refine cm_step (fun k => by rw [slices_IndexFunc_int_int_of_impl_RacksOf_1.l0]) ?_
    simp only [rd_at e, wrap_len hlt hl]
    refine cm_yes (by omega) (cm_yes (by omega) (cm_yes (by omega) (cm_bind (hc h (by rw [← e]; simp)) ?_)))
    exact cm_no (by simpa using hp) hv
  · intro pre h t e hlt hp
    refine cm_step (fun k => by rw [slices_IndexFunc_int_int_of_impl_RacksOf_1.l0]) ?_
    simp only [rd_at e, wrap_len hlt hl]
    refine cm_yes (by omega) (cm_yes (by omega) (cm_yes (by omega) (cm_bind (hc h (by rw [← e]; simp)) ?_)))
    exact cm_yes hp (cm_now fun _ => rfl)
  · refine cm_step (fun k => by rw [slices_IndexFunc_int_int_of_impl_RacksOf_1.l0]) ?_
    exact cm_no (by omega) (cm_now fun _ => rfl)
theorem anyK (R : List Int) (x : Int) (l : List Int) (hl : l.length ≤ 4611686018427387904) (p : Int → Bool) (hc : ∀ h ∈ l, Cm (fun k => impl_RacksOf_1.f h R x) (p h)) : Cm (fun k => slices_ContainsFunc_int_int_of_impl_RacksOf_1.f k l R x) (l.any p) := by
  unfold slices_ContainsFunc_int_int_of_impl_RacksOf_1.f
  refine cm_bind (anyK_index R x l hl p hc) (cm_now fun _ => ?_)
  rw [found_any]
theorem any_f (R l : List Int) (x : Int) (hl : In R.length l) (hx : 0 ≤ x ∧ x < (R.length : Int)) : Cm (fun k => slices_ContainsFunc_int_int_of_impl_RacksOf_1.f k l R x) (has R l (rd R x)) := by
  have h6 := hl.1
  refine anyK R x l (by omega) (fun z => decide (rd R z = rd R x)) (fun z hz => ?_)
  have := hl.2 z hz
  unfold impl_RacksOf_1.f
  exact cm_yes this.1 (cm_yes this.2 (cm_yes hx.1 (cm_yes hx.2 (cm_now fun _ => rfl))))
theorem fresh_iff (R l : List Int) {n h : Nat} (hR : R.length = n) (hh : h < n) (hm : (h : Int) ∈ l) :
    R.any (fun r => !has R l r) = decide (¬ scan (fr R l n h) (at_ n h) (n - 1) 1 < 0) := by
  rcases scan_cases (fr R l n h) (at_ n h) (n - 1) 1 with ⟨i, h1, h2, h3, h4⟩ | ⟨h3, h4⟩
  · have ha := at_in n h i (by omega)
    rw [h4, decide_eq_true (by omega : ¬ at_ n h i < 0), List.any_eq_true]
    exact ⟨_, rd_in (by omega) ha.1, h3⟩
  · rw [h4, decide_eq_false (by omega), List.any_eq_false]
    intro r hr
    obtain ⟨i, hi, rfl⟩ := List.getElem_of_mem hr
    by_cases e : i = h
    · subst e
      have : has R l R[i] = true := by
        unfold has
        rw [List.any_eq_true]
        refine ⟨_, hm, ?_⟩
        rw [decide_eq_true_eq]
        show R.getD _ _ = _
        simp [List.getD, hi]
      simp [this]
    · have key : ∃ k, 1 ≤ k ∧ k < n ∧ (h + k) % n = i := by
        by_cases c : h < i
        · exact ⟨i - h, by omega, by omega, by rw [show h + (i - h) = i by omega]; exact Nat.mod_eq_of_lt (by omega)⟩
        · exact ⟨i + n - h, by omega, by omega, by rw [show h + (i + n - h) = i + n by omega, Nat.add_mod_right]; exact Nat.mod_eq_of_lt (by omega)⟩
      obtain ⟨k, a, b, c⟩ := key
      have h5 := h3 k a (by omega)
      have h6 : rd R (at_ n h k) = R[i] := by
        unfold at_
        rw [c]
        show R.getD _ _ = _
        simp [List.getD, hi]
      unfold fr at h5
      rw [h6] at h5
      simpa using h5
theorem spec_round (R : List Int) {n h : Nat} (hR : R.length = n) (hn : n ≤ 6) (hh : h < n) (c : Int) (o : List (List Int)) (l : List Int) (hl : In n l) (hm : (h : Int) ∈ l) (hc : (l.length : Int) < c) (m : List Int) (hput : Cm (fun k => spec_l1Put.f k l (nx R l n h)) m) (u : List (List Int) × Bool)
    (hu : Cm (fun k => spec_RacksOf.l1 k R c (n : Int) o (h : Int) m (n : Int) (h : Int)) u) : Cm (fun k => spec_RacksOf.l1 k R c (n : Int) o (h : Int) l (n : Int) (h : Int)) u := by
  have h6 := hl.1
  have hl2 : In R.length l := by rw [hR]; exact hl
  have hF := fresh_f R l hl2 (by omega)
  rw [fresh_iff R l hR hh hm] at hF
  have hend : ∀ j : Int, Cm (fun k => spec_RacksOf.j5 k R c (n : Int) o (h : Int) l (nx R l n h) j (n : Int) (h : Int) false) u := by
    intro j
    refine cm_step (fun k => by rw [spec_RacksOf.j5]) ?_
    exact cm_no (by simp) (cm_bind hput hu)
  refine cm_step (fun k => by rw [spec_RacksOf.l1]) ?_
  simp only [wrap_in (x := (n : Int) - 1) (by omega) (by omega)]
  refine cm_yes hc ?_
  refine down_cm (L := fun k s j => spec_RacksOf.l2 k R c (n : Int) o (h : Int) l s j (n : Int) (h : Int)) (fr R l n h) (at_ n h) n (by omega) ?_ ?_
  · intro j h1 h2 s u hu
    have ha := at_in n h j (by omega)
    refine cm_step (fun k => by rw [spec_RacksOf.l2]) ?_
    simp only [at_f n h j (by omega) (by omega), wrap_in (x := (j : Int) - 1) (by omega) (by omega)]
    refine cm_yes (by omega) (cm_no (by omega) (cm_yes ha.1 (cm_yes (by omega) (cm_bind (hasRack_f R l _ hl2) ?_))))
    by_cases q : has R l (rd R (at_ n h j)) = true
    · rw [if_neg (by simp [fr, q])] at hu
      exact cm_yes q hu
    · rw [if_pos (by simpa [fr] using q)] at hu
      exact cm_no q hu
  · refine cm_step (fun k => by rw [spec_RacksOf.l2]) ?_
    simp only [wrap_in (x := (n : Int) - 1) (by omega) (by omega)]
    refine cm_no (by omega) ?_
    by_cases q : scan (fr R l n h) (at_ n h) (n - 1) 1 < 0
    · have e1 : scan (fr R l n h) (at_ n h) (n - 1) 1 = -1 := by
        rcases scan_cases (fr R l n h) (at_ n h) (n - 1) 1 with ⟨i, _, _, _, h4⟩ | ⟨_, h4⟩
        · have := at_in n h i (by omega)
          omega
        · exact h4
      have e2 : nx R l n h = scan (out l n h) (at_ n h) (n - 1) 1 := by unfold nx; rw [if_pos q]
      rw [e2] at hend
      rw [decide_eq_false (by omega)] at hF
      rw [e1]
      refine down_cm (L := fun k s j => spec_RacksOf.l3 k R c (n : Int) o (h : Int) l s j (n : Int) (h : Int)) (out l n h) (at_ n h) n (by omega) ?_ ?_
      · intro j h1 h2 s u hu
        refine cm_step (fun k => by rw [spec_RacksOf.l3]) ?_
        refine cm_yes (by omega) (cm_bind hF ?_)
        refine cm_step (fun k => by rw [spec_RacksOf.j5]) ?_
        simp only [at_f n h j (by omega) (by omega), wrap_in (x := (j : Int) - 1) (by omega) (by omega)]
        refine cm_yes rfl (cm_no (by omega) (cm_bind (has_f l _ (by omega)) ?_))
        by_cases w : at_ n h j ∈ l
        · rw [if_neg (by simp [out, w])] at hu
          exact cm_yes (by simpa using w) hu
        · rw [if_pos (by simpa [out] using w)] at hu
          exact cm_no (by simpa using w) hu
      · refine cm_step (fun k => by rw [spec_RacksOf.l3]) ?_
        exact cm_no (by omega) (hend 0)
    · have e2 : nx R l n h = scan (fr R l n h) (at_ n h) (n - 1) 1 := by unfold nx; rw [if_neg q]
      rw [← e2]
      rw [decide_eq_true q] at hF
      refine cm_step (fun k => by rw [spec_RacksOf.l3]) ?_
      exact cm_if (fun _ => cm_bind hF (hend _)) (fun _ => hend _)
theorem impl_round (R : List Int) {n h : Nat} (hR : R.length = n) (hn : n ≤ 6) (hh : h < n) (c : Int) (o : List (List Int)) (l : List Int) (hl : In n l) (hc : (l.length : Int) < c) (u : List (List Int) × Bool)
    (hu : Cm (fun k => impl_RacksOf.l1 k c (n : Int) o (h : Int) (l ++ [nx R l n h]) (n : Int) (h : Int) R) u) : Cm (fun k => impl_RacksOf.l1 k c (n : Int) o (h : Int) l (n : Int) (h : Int) R) u := by
  have h6 := hl.1
  have hl2 : In R.length l := by rw [hR]; exact hl
  have hend : ∀ j : Int, Cm (fun k => impl_RacksOf.j6 k c (n : Int) o (h : Int) l (nx R l n h) j (n : Int) (h : Int) false R) u := by
    intro j
    refine cm_step (fun k => by rw [impl_RacksOf.j6]) ?_
    exact cm_no (by simp) (cm_yes (by omega) hu)
  have hj4 : ∀ (s j : Int), Cm (fun k => impl_RacksOf.l3 k c (n : Int) o (h : Int) l s 1 (n : Int) (h : Int) R) u → Cm (fun k => impl_RacksOf.j4 k c (n : Int) o (h : Int) l s j (n : Int) (h : Int) false R) u := by
    intro s j hs
    refine cm_step (fun k => by rw [impl_RacksOf.j4]) ?_
    exact cm_no (by simp) hs
  refine cm_step (fun k => by rw [impl_RacksOf.l1]) ?_
  refine cm_yes hc ?_
  refine up_cm (L := fun k s j => impl_RacksOf.l2 k c (n : Int) o (h : Int) l s j (n : Int) (h : Int) R) (fr R l n h) (at_ n h) (fun j => (at_in n h j (by omega)).1) n (by omega) ?_ ?_
  · intro j h1 h2 u hu
    have ha := at_in n h j (by omega)
    refine cm_step (fun k => by rw [impl_RacksOf.l2]) ?_
    refine cm_yes (by omega) ?_
    refine cm_step (fun k => by rw [impl_RacksOf.j4]) ?_
    simp only [at_f n h j (by omega) (by omega), wrap_n h2 (show n ≤ 4611686018427387904 by omega)]
    refine cm_yes (by decide) (cm_no (by omega) (cm_bind (any_f R l _ hl2 (by omega)) ?_))
    by_cases q : has R l (rd R (at_ n h j)) = true
    · rw [if_neg (by simp [fr, q])] at hu
      exact cm_yes q hu
    · rw [if_pos (by simpa [fr] using q)] at hu
      exact cm_no q hu
  · intro j h1 h2 hj
    have h3 : Cm (fun k => impl_RacksOf.l3 k c (n : Int) o (h : Int) l (scan (fr R l n h) (at_ n h) (n - 1) 1) 1 (n : Int) (h : Int) R) u := by
      by_cases q : scan (fr R l n h) (at_ n h) (n - 1) 1 < 0
      · have e1 : scan (fr R l n h) (at_ n h) (n - 1) 1 = -1 := by
          rcases scan_cases (fr R l n h) (at_ n h) (n - 1) 1 with ⟨i, _, _, _, h4⟩ | ⟨_, h4⟩
          · have := at_in n h i (by omega)
            omega
          · exact h4
        have e2 : nx R l n h = scan (out l n h) (at_ n h) (n - 1) 1 := by unfold nx; rw [if_pos q]
        rw [e2] at hend
        rw [e1]
        refine up_cm (L := fun k s j => impl_RacksOf.l3 k c (n : Int) o (h : Int) l s j (n : Int) (h : Int) R) (out l n h) (at_ n h) (fun j => (at_in n h j (by omega)).1) n (by omega) ?_ ?_
        · intro j h1 h2 u hu
          refine cm_step (fun k => by rw [impl_RacksOf.l3]) ?_
          refine cm_yes (by omega) ?_
          refine cm_step (fun k => by rw [impl_RacksOf.j6]) ?_
          simp only [at_f n h j (by omega) (by omega), wrap_n h2 (show n ≤ 4611686018427387904 by omega)]
          refine cm_yes (by decide) (cm_no (by omega) (cm_bind (contains_f l _ (by omega)) ?_))
          by_cases w : at_ n h j ∈ l
          · rw [if_neg (by simp [out, w])] at hu
            exact cm_yes (by simpa using w) hu
          · rw [if_pos (by simpa [out] using w)] at hu
            exact cm_no (by simpa using w) hu
        · intro j h1 h2 hj
          refine cm_step (fun k => by rw [impl_RacksOf.l3]) ?_
          refine cm_if (fun a => ?_) (fun _ => hend _)
          rw [decide_eq_false (by omega)]
          exact hend _
      · have e2 : nx R l n h = scan (fr R l n h) (at_ n h) (n - 1) 1 := by unfold nx; rw [if_neg q]
        rw [← e2]
        refine cm_step (fun k => by rw [impl_RacksOf.l3]) ?_
        refine cm_if (fun a => ?_) (fun _ => hend _)
        rw [decide_eq_false (by omega)]
        exact hend _
    refine cm_step (fun k => by rw [impl_RacksOf.l2]) ?_
    refine cm_if (fun a => ?_) (fun _ => hj4 _ _ h3)
    rw [decide_eq_false (by omega)]
    exact hj4 _ _ h3
theorem ex1 {n h : Nat} (hn : 2 ≤ n) (hn6 : n ≤ 6) (hh : h < n) : ∃ k, 1 ≤ k ∧ k < n ∧ at_ n h k ∉ [(h : Int)] := by
  refine ⟨1, by omega, by omega, ?_⟩
  have : n = 2 ∨ n = 3 ∨ n = 4 ∨ n = 5 ∨ n = 6 := by omega
  simp only [List.mem_singleton, at_]
  rcases this with rfl | rfl | rfl | rfl | rfl <;> omega
theorem ex2 {n h : Nat} (hn : 3 ≤ n) (hn6 : n ≤ 6) (hh : h < n) (y : Int) : ∃ k, 1 ≤ k ∧ k < n ∧ at_ n h k ∉ [(h : Int), y] := by
  have h1 : at_ n h 1 ≠ at_ n h 2 ∧ at_ n h 1 ≠ (h : Int) ∧ at_ n h 2 ≠ (h : Int) := by
    have : n = 3 ∨ n = 4 ∨ n = 5 ∨ n = 6 := by omega
    simp only [at_]
    rcases this with rfl | rfl | rfl | rfl <;> omega
  by_cases c : at_ n h 1 = y
  · refine ⟨2, by omega, by omega, ?_⟩
    simp only [List.mem_cons, List.not_mem_nil, or_false, not_or]
    exact ⟨h1.2.2, fun e => h1.1 (c.trans e.symm)⟩
  · refine ⟨1, by omega, by omega, ?_⟩
    simp only [List.mem_cons, List.not_mem_nil, or_false, not_or]
    exact ⟨h1.2.1, c⟩
def row (R : List Int) (n : Nat) (c : Int) (h : Nat) : List Int :=
  if c = 1 then [(h : Int)] else if c = 2 then ins (nx R [(h : Int)] n h) [(h : Int)] else ins (nx R [(h : Int), nx R [(h : Int)] n h] n h) (ins (nx R [(h : Int)] n h) [(h : Int)])
theorem row_len (R : List Int) (n : Nat) (c : Int) (h : Nat) : (row R n c h).length ≤ 3 := by
  unfold row
  split
  · simp
  · split <;> simp [ins_len]
theorem two_rows (R : List Int) {n h : Nat} (hR : R.length = n) (hn : n ≤ 6) (hh : h < n) (c : Int) (h1 : 1 ≤ c) (h3 : c ≤ 3) (hcn : c ≤ (n : Int)) (o : List (List Int)) (ho : o.length ≤ 6) (u : List (List Int) × Bool) :
    (Cm (fun k => spec_RacksOf.l0 k R c (n : Int) (o ++ [row R n c h]) (n : Int) ((h + 1 : Nat) : Int)) u → Cm (fun k => spec_RacksOf.l1 k R c (n : Int) o (h : Int) [(h : Int)] (n : Int) (h : Int)) u)
    ∧ (Cm (fun k => impl_RacksOf.l0 k c (n : Int) (o ++ [row R n c h]) (n : Int) ((h + 1 : Nat) : Int) R) u → Cm (fun k => impl_RacksOf.l1 k c (n : Int) o (h : Int) [(h : Int)] (n : Int) (h : Int) R) u) := by
  have hs : ∀ m : List Int, ¬ (m.length : Int) < c → Cm (fun k => spec_RacksOf.l0 k R c (n : Int) (o ++ [m]) (n : Int) ((h + 1 : Nat) : Int)) u → Cm (fun k => spec_RacksOf.l1 k R c (n : Int) o (h : Int) m (n : Int) (h : Int)) u := by
    intro m hm hu
    refine cm_step (fun k => by rw [spec_RacksOf.l1]) ?_
    simp only [wrap_n hh (show n ≤ 4611686018427387904 by omega)]
    exact cm_no hm (cm_yes (by omega) hu)
  have hi : ∀ m r : List Int, ¬ (m.length : Int) < c → Cm (fun k => slices_Sort_int_int.f k m) r → Cm (fun k => impl_RacksOf.l0 k c (n : Int) (o ++ [r]) (n : Int) ((h + 1 : Nat) : Int) R) u → Cm (fun k => impl_RacksOf.l1 k c (n : Int) o (h : Int) m (n : Int) (h : Int) R) u := by
    intro m r hm hr hu
    refine cm_step (fun k => by rw [impl_RacksOf.l1]) ?_
    simp only [wrap_n hh (show n ≤ 4611686018427387904 by omega)]
    exact cm_no hm (cm_bind hr (cm_yes (by omega) hu))
  have in1 : In n [(h : Int)] := ⟨by simp, by simp; omega⟩
  by_cases c1 : c = 1
  · subst c1
    have er : row R n 1 h = [(h : Int)] := by unfold row; rw [if_pos rfl]
    rw [er]
    exact ⟨hs _ (by simp), hi _ _ (by simp) (of_k (slices_Sort_int_int.mono _) (sort1_all h (by omega)))⟩
  obtain ⟨y0, y1, y2⟩ := nx_in (R := R) (l := [(h : Int)]) (n := n) (h := h) (by omega) (ex1 (by omega) hn hh)
  obtain ⟨y, hy⟩ := Int.eq_ofNat_of_zero_le y0
  rw [hy] at y1 y2
  have yne : h ≠ y := fun e => y2 (by simp [e])
  have p1 := of_k (spec_l1Put.mono _ _) (put1_all h (by omega) y (by omega) yne)
  by_cases c2 : c = 2
  · subst c2
    have er : row R n 2 h = ins y [(h : Int)] := by unfold row; rw [if_neg (by omega), if_pos rfl, hy]
    rw [er]
    refine ⟨fun hu => ?_, fun hu => ?_⟩
    · refine spec_round R hR hn hh 2 o _ in1 (by simp) (by simp) (ins y [(h : Int)]) (by rw [hy]; exact p1) u (hs _ (by simp [ins_len]) hu)
    · refine impl_round R hR hn hh 2 o _ in1 (by simp) u ?_
      rw [hy]
      exact hi _ _ (by simp) (of_k (slices_Sort_int_int.mono _) (sort2_all h (by omega) y (by omega) yne)) hu
  have e3 : c = 3 := by omega
  subst e3
  obtain ⟨z0, z1, z2⟩ := nx_in (R := R) (l := [(h : Int), (y : Int)]) (n := n) (h := h) (by omega) (ex2 (by omega) hn hh y)
  obtain ⟨z, hz⟩ := Int.eq_ofNat_of_zero_le z0
  rw [hz] at z1 z2
  have zne : h ≠ z := fun e => z2 (by simp [e])
  have zne2 : y ≠ z := fun e => z2 (by simp [e])
  have hz2 : nx R (ins y [(h : Int)]) n h = (z : Int) := by
    rw [← hz]
    refine nx_congr (fun w => ?_) n h
    rw [ins_mem]
    simp only [List.mem_cons, List.not_mem_nil, or_false]
    exact or_comm
  have er : row R n 3 h = ins z (ins y [(h : Int)]) := by unfold row; rw [if_neg (by omega), if_neg (by omega), hy, hz]
  have in2 : In n (ins y [(h : Int)]) := ⟨by simp [ins_len], fun w hw => by
    rw [ins_mem] at hw
    rcases hw with rfl | hw
    · omega
    · simp at hw
      omega⟩
  have in3 : In n [(h : Int), (y : Int)] := ⟨by simp, by simp; omega⟩
  rw [er]
  refine ⟨fun hu => ?_, fun hu => ?_⟩
  · refine spec_round R hR hn hh 3 o _ in1 (by simp) (by simp) (ins y [(h : Int)]) (by rw [hy]; exact p1) u ?_
    refine spec_round R hR hn hh 3 o _ in2 (by rw [ins_mem]; simp) (by simp [ins_len]) (ins z (ins y [(h : Int)])) ?_ u (hs _ (by simp [ins_len]) hu)
    rw [hz2]
    exact of_k (spec_l1Put.mono _ _) (put2_all h (by omega) y (by omega) z (by omega) ⟨yne, zne, zne2⟩)
  · refine impl_round R hR hn hh 3 o _ in1 (by simp) u ?_
    rw [hy]
    refine impl_round R hR hn hh 3 o _ in3 (by simp) u ?_
    show Cm (fun k => impl_RacksOf.l1 k 3 (n : Int) o (h : Int) ([(h : Int), (y : Int)] ++ [nx R [(h : Int), (y : Int)] n h]) (n : Int) (h : Int) R) u
    rw [hz]
    exact hi _ _ (by simp) (of_k (slices_Sort_int_int.mono _) (sort3_all h (by omega) y (by omega) z (by omega) ⟨yne, zne, zne2⟩)) hu
theorem racks_both (R : List Int) (c : Int) (hR : R.length ≤ 1048576) :
    ∃ r1 r2, Cm (fun k => spec_RacksOf.f k R c) (r1, r2) ∧ Cm (fun k => impl_RacksOf.f k R c) (r1, r2) ∧ (r1.length ≤ 6 ∧ ∀ y ∈ r1, y.length ≤ 3) := by
  unfold spec_RacksOf.f impl_RacksOf.f
  have hb1 : ∀ x, Cm (fun k => spec_RacksOf.j0 k R c x true) (([] : List (List Int)), false) := by
    intro x
    refine cm_step (fun k => by rw [spec_RacksOf.j0]) ?_
    exact cm_yes rfl (cm_now fun _ => rfl)
  have hb2 : ∀ x, Cm (fun k => impl_RacksOf.j0 k c x true R) (([] : List (List Int)), false) := by
    intro x
    refine cm_step (fun k => by rw [impl_RacksOf.j0]) ?_
    exact cm_yes rfl (cm_now fun _ => rfl)
  have s1 := l13Racks_f R (by omega)
  have s2 := areRacks_f R (by omega)
  simp only [l1In_f, in_f]
  by_cases g : racks R = true
  · have g2 := (racks_iff.1 g).2
    by_cases a : 1 ≤ c ∧ c ≤ 3
    · by_cases b : c ≤ (R.length : Int)
      · refine ⟨(List.range R.length).map (row R R.length c), true, cm_bind s1 (cm_yes g (cm_bind (cm_now fun _ => rfl) (cm_yes (by simpa using a) ?_))), cm_bind s2 (cm_yes g (cm_bind (cm_now fun _ => rfl) (cm_yes (by simpa using a) ?_))), by simpa using g2.2, ?_⟩
        · rw [decide_eq_false (by omega)]
          refine cm_step (fun k => by rw [spec_RacksOf.j0]) ?_
          refine cm_no (by simp) ?_
          refine iter_cm (L := fun k i s => spec_RacksOf.l0 k R c (R.length : Int) s (R.length : Int) i) R.length (fun i => (List.range i).map (row R R.length c)) ?_ ?_
          · intro i hi u hu
            refine cm_step (fun k => by rw [spec_RacksOf.l0]) ?_
            refine cm_yes (by omega) ((two_rows R rfl g2.2 hi c a.1 a.2 b _ (by simp; omega) u).1 ?_)
            rw [List.range_succ, List.map_append] at hu
            exact hu
          · refine cm_step (fun k => by rw [spec_RacksOf.l0]) ?_
            exact cm_no (by omega) (cm_now fun _ => rfl)
        · rw [decide_eq_false (by omega)]
          refine cm_step (fun k => by rw [impl_RacksOf.j0]) ?_
          refine cm_no (by simp) ?_
          refine iter_cm (L := fun k i s => impl_RacksOf.l0 k c (R.length : Int) s (R.length : Int) i R) R.length (fun i => (List.range i).map (row R R.length c)) ?_ ?_
          · intro i hi u hu
            refine cm_step (fun k => by rw [impl_RacksOf.l0]) ?_
            refine cm_yes (by omega) ((two_rows R rfl g2.2 hi c a.1 a.2 b _ (by simp; omega) u).2 ?_)
            rw [List.range_succ, List.map_append] at hu
            exact hu
          · refine cm_step (fun k => by rw [impl_RacksOf.l0]) ?_
            exact cm_no (by omega) (cm_now fun _ => rfl)
        · intro y hy
          obtain ⟨i, _, rfl⟩ := List.mem_map.1 hy
          exact row_len _ _ _ _
      · refine ⟨[], false, cm_bind s1 (cm_yes g (cm_bind (cm_now fun _ => rfl) (cm_yes (by simpa using a) ?_))), cm_bind s2 (cm_yes g (cm_bind (cm_now fun _ => rfl) (cm_yes (by simpa using a) ?_))), by simp, by simp⟩
        · rw [decide_eq_true (by omega)]; exact hb1 _
        · rw [decide_eq_true (by omega)]; exact hb2 _
    · exact ⟨[], false, cm_bind s1 (cm_yes g (cm_bind (cm_now fun _ => rfl) (cm_no (by simpa using a) (hb1 _)))), cm_bind s2 (cm_yes g (cm_bind (cm_now fun _ => rfl) (cm_no (by simpa using a) (hb2 _)))), by simp, by simp⟩
  · exact ⟨[], false, cm_bind s1 (cm_no g (hb1 _)), cm_bind s2 (cm_no g (hb2 _)), by simp, by simp⟩
end Go.Proofs.Ytgcliajajcinpaa.Racks2
end
section
namespace Go.Proofs.Ytgcliajajcinpaa.Pure
open Go.RowKit Go.Proofs.Ytgcliajajcinpaa.P Go.Proofs.YtgcliajajcinpaaW.PrintWords Go.Proofs.YtgcliajajcinpaaW.PrintLast Go.Proofs.YtgcliajajcinpaaW.PrintMore
open Go.Proofs.Ytgcliajajcinpaa.Pl Go.Proofs.Ytgcliajajcinpaa.EvN Go.Proofs.Ytgcliajajcinpaa.Lp Go.Proofs.Ytgcliajajcinpaa.Hs Go.Proofs.Ytgcliajajcinpaa.Sz Go.Proofs.Ytgcliajajcinpaa.Racks2
set_option linter.unusedVariables false
theorem FnExactRacksOf : Mk.FnExactRacksOf_Pure := by
  intro l0 a1 b0 b1
  by_cases hL0 : (l0.length : Int) > 1048576
  · exact ⟨0, .inl hL0⟩
  obtain ⟨r8, r9, hspec, himpl, n1, n2⟩ := racks_both l0 a1 (by omega)
  obtain ⟨K0, j0⟩ := toIntS_f l0 (by have := b0.2.1; omega)
  obtain ⟨K1, j1⟩ := hspec
  obtain ⟨K2, j2⟩ := himpl
  obtain ⟨K3, j3⟩ := eqIntSS_same r8 (by omega) (fun y hy => by have := n2 y hy; omega)
  obtain ⟨K4, j4⟩ := eqIntS_same l0 (by have := b0.2.1; omega)
  exact ⟨K0 + K1 + K2 + K3 + K4, .inr ⟨hL0, l0, r8, r9, j0 (K0 + K1 + K2 + K3 + K4) (by omega), j1 (K0 + K1 + K2 + K3 + K4) (by omega), j2 (K0 + K1 + K2 + K3 + K4) (by omega), j3 (K0 + K1 + K2 + K3 + K4) (by omega), j4 (K0 + K1 + K2 + K3 + K4) (by omega), (by rw [Mk.tot_one]; omega), (by have := tot_le (fun y => Mk.tot (fun _ => 1) y) 3 r8 (fun y hy => by show Mk.tot _ y ≤ 3; rw [Mk.tot_one]; exact n2 y hy); omega), (fun _ _ _ _ => trivial)⟩⟩
end Go.Proofs.Ytgcliajajcinpaa.Pure
end
