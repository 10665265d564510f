-- Written by programs of this session (wip/prune.py, wip/xp.py), out of the translation and the printed words; what the law does not reach is left out. Not trusted: Lean checks it.
import Derived.Laws.World
import Derived.Test.YtinbfclfglogmaaZXVectorClocksPx0
import Derived.Test.YtinbfclfglogmaaZXVectorClocksW0
import Derived.Test.YtinbfclfglogmaaZXVectorClocksPx21
import Derived.Test.YtinbfclfglogmaaZXVectorClocksPx31
import Derived.Test.YtinbfclfglogmaaZXVectorClocksPx5
import Derived.Test.YtinbfclfglogmaaZXVectorClocksPxok
import Derived.Test.YtinbfclfglogmaaZXVectorClocksPx6
import Derived.Laws.BitsAllLaws
import Derived.Test.YtinbfclfglogmaaZXVectorClocksPx1
import Derived.Test.YtinbfclfglogmaaZXVectorClocksPx2
import Derived.Test.YtinbfclfglogmaaZXVectorClocksPx3
import Derived.Test.YtinbfclfglogmaaZXVectorClocksPx4
import Derived.Test.YtinbfclfglogmaaZXVectorClocksPx15
section
namespace Go.Proofs.Ytinbfclfglogmaa.Mk
open Go.RowKit Go.Proofs.YtinbfclfglogmaaW.PrintWords Go.Proofs.YtinbfclfglogmaaW.PrintLast
set_option linter.unusedVariables false
set_option linter.unusedSimpArgs false
abbrev Pl := Nat × Nat × Bool
def adr (p : Pl) : Addr := ⟨p.1, p.2.1, none⟩
def three (k : Int) : Bool := k % 3 == 0
def mkv (t : Bool) (k : Int) : Value := if t = true then .bool (three k) else .int .i64 k
def plain : Bool → Value → Prop
  | true, u => ∃ z, u = .bool z
  | false, u => ∃ z : Int, u = .int .i64 z
theorem plain_mkv (t : Bool) (k : Int) : plain t (mkv t k) := by cases t <;> exact ⟨_, rfl⟩
theorem plain_one {s t : Bool} {u : Value} (h : plain s u) (h2 : plain t u) : s = t := by
  cases s <;> cases t <;> obtain ⟨a, rfl⟩ := h <;> obtain ⟨b, hb⟩ := h2 <;> first | rfl | cases hb
def puts : World → List Pl → Int → World
  | w, [], _ => w
  | w, p :: l, k => puts (w.setCell (adr p) (mkv p.2.2 k)) l (k + 1)
theorem set_size (w : World) (a : Addr) (u : Value) : (w.setCell a u).heap.size = w.heap.size := by simp [World.setCell]
theorem puts_size : ∀ (l : List Pl) (w : World) (k : Int), (puts w l k).heap.size = w.heap.size
  | [], _, _ => rfl
  | p :: l, w, k => by rw [puts, puts_size l, set_size]
theorem set_cong {w1 w2 : World} {i : Nat} (h : w1.heap[i]? = w2.heap[i]?) (a : Addr) (u : Value) : (w1.setCell a u).heap[i]? = (w2.setCell a u).heap[i]? := by
  simp only [World.setCell, Array.getElem?_modify, h]
theorem puts_cong {i : Nat} : ∀ (l : List Pl) {w1 w2 : World} (k : Int), w1.heap[i]? = w2.heap[i]? → (puts w1 l k).heap[i]? = (puts w2 l k).heap[i]?
  | [], _, _, _, h => h
  | p :: l, _, _, k, h => puts_cong l (k + 1) (set_cong h _ _)
theorem puts_app : ∀ (l m : List Pl) (w : World) (k : Int), puts w (l ++ m) k = puts (puts w l k) m (k + (l.length : Int))
  | [], m, w, k => by simp [puts]
  | p :: l, m, w, k => by
    rw [List.cons_append, puts, puts_app l m, puts]
    congr 1
    simp only [List.length_cons]
    omega
theorem puts_far {i : Nat} : ∀ (l : List Pl) (w : World) (k : Int), (∀ p ∈ l, p.1 ≠ i) → (puts w l k).heap[i]? = w.heap[i]?
  | [], _, _, _ => rfl
  | p :: l, w, k, h => by
    rw [puts, puts_far l _ _ (fun q hq => h q (List.mem_cons_of_mem _ hq))]
    exact Below.heap_setCell w _ _ _ (fun e => h p List.mem_cons_self e.symm)
structure Wr (w w' : World) (ps : List Pl) (k : Int) : Prop where
  os : w'.os = w.os
  tape : w'.tape = w.tape
  output : w'.output = w.output
  size : w.heap.size ≤ w'.heap.size
  block : ∀ i, i < w.heap.size → w'.heap[i]? = (puts w ps k).heap[i]?
theorem Wr.refl (w : World) (k : Int) : Wr w w [] k := ⟨rfl, rfl, rfl, Nat.le_refl _, fun _ _ => rfl⟩
theorem Wr.below {w w1 w2 : World} {ps : List Pl} {k : Int} (h : Wr w w1 ps k) (hb : Below w1.heap.size w1 w2) : Wr w w2 ps k :=
  ⟨hb.os.trans h.os, hb.tape.trans h.tape, hb.output.trans h.output, Nat.le_trans h.size hb.size, fun i hi => (hb.block i (Nat.lt_of_lt_of_le hi h.size)).trans (h.block i hi)⟩
theorem Wr.trans {w w1 w2 : World} {ps bs : List Pl} {k j : Int} (h : Wr w w1 ps k) (g : Wr w1 w2 bs j) (hj : j = k + (ps.length : Int)) : Wr w w2 (ps ++ bs) k := by
  subst hj
  refine ⟨g.os.trans h.os, g.tape.trans h.tape, g.output.trans h.output, Nat.le_trans h.size g.size, fun i hi => ?_⟩
  rw [g.block i (Nat.lt_of_lt_of_le hi h.size), puts_app]
  exact puts_cong bs _ (h.block i hi)
theorem Wr.one (w : World) (p : Pl) (k : Int) : Wr w (w.setCell (adr p) (mkv p.2.2 k)) [p] k :=
  ⟨rfl, rfl, rfl, Nat.le_of_eq (set_size w _ _).symm, fun _ _ => rfl⟩
theorem Wr.put {w w1 : World} {ps : List Pl} {k j : Int} (h : Wr w w1 ps k) (p : Pl) (hj : j = k + (ps.length : Int)) : Wr w (w1.setCell (adr p) (mkv p.2.2 j)) (ps ++ [p]) k :=
  h.trans (Wr.one w1 p j) hj
theorem Wr.kept {w w' : World} {ps : List Pl} {k : Int} {S : Nat → Prop} (h : Wr w w' ps k) (hS : ∀ p ∈ ps, S p.1) : Kept w w' S :=
  ⟨h.size, fun i hi hn => (h.block i hi).trans (puts_far ps w k (fun p hp e => hn (e ▸ hS p hp)))⟩
theorem Wr.under {w0 w w' : World} {ps : List Pl} {k : Int} (h : Wr w w' ps k) (hb : Below w0.heap.size w0 w) (ha : ∀ p ∈ ps, w0.heap.size ≤ p.1) : Below w0.heap.size w0 w' :=
  ⟨h.os.trans hb.os, h.tape.trans hb.tape, h.output.trans hb.output, Nat.le_trans hb.size h.size, fun i hi =>
    ((h.block i (Nat.lt_of_lt_of_le hi hb.size)).trans (puts_far ps w k (fun p hp e => by have := ha p hp; omega))).trans (hb.block i hi)⟩
def okc (w : World) (p : Pl) : Prop := (∃ u, w.cell? (adr p) = some u ∧ plain p.2.2 u) ∧ w.frozen? (adr p) = false
def okh (w : World) (q : (Nat × Nat) × Value) : Prop := w.cell? ⟨q.1.1, q.1.2, none⟩ = some q.2 ∧ ∃ A n c, q.2 = .slice A n c
theorem adr_ne {p q : Pl} (h : ¬ (p.1 = q.1 ∧ p.2.1 = q.2.1)) : adr p ≠ adr q := by
  intro e
  injection e with e1 e2
  exact h ⟨e1, e2⟩
theorem okc_set {w : World} {p q : Pl} (hp : okc w p) (hq : okc w q) (k : Int) : okc (w.setCell (adr p) (mkv p.2.2 k)) q := by
  refine ⟨?_, by rw [World.frozen?_setCell]; exact hq.2⟩
  obtain ⟨⟨u, hu, hpu⟩, _⟩ := hp
  obtain ⟨⟨v, hv, hpv⟩, _⟩ := hq
  by_cases c : p.1 = q.1 ∧ p.2.1 = q.2.1
  · have e : adr p = adr q := by unfold adr; rw [c.1, c.2]
    rw [e] at hu ⊢
    rw [hu] at hv
    cases hv
    exact ⟨_, World.cell?_setCell_same _ _ _ hu, by rw [plain_one hpv hpu]; exact plain_mkv _ _⟩
  · exact ⟨v, by rw [World.cell?_setCell_other (h := adr_ne c)]; exact hv, hpv⟩
theorem okh_set {w : World} {p : Pl} {q : (Nat × Nat) × Value} (hp : okc w p) (hq : okh w q) (k : Int) : okh (w.setCell (adr p) (mkv p.2.2 k)) q := by
  obtain ⟨⟨u, hu, hpu⟩, _⟩ := hp
  obtain ⟨hv, A, n, c, he⟩ := hq
  refine ⟨?_, A, n, c, he⟩
  rw [World.cell?_setCell_other]
  · exact hv
  · intro e
    rw [e, hv, he] at hu
    cases hu
    cases hb : p.2.2 <;> rw [hb] at hpu <;> obtain ⟨z, hz⟩ := hpu <;> cases hz
structure Pt (w : World) (hs : List ((Nat × Nat) × Value)) (ps : List Pl) : Prop where
  h : ∀ q ∈ hs, okh w q
  a : ∀ p ∈ ps, okc w p
theorem Pt.nil (w : World) : Pt w [] [] := ⟨fun _ h => by simp at h, fun _ h => by simp at h⟩
theorem Pt.app {w : World} {h1 h2 : List ((Nat × Nat) × Value)} {a1 a2 : List Pl} (x : Pt w h1 a1) (y : Pt w h2 a2) : Pt w (h1 ++ h2) (a1 ++ a2) :=
  ⟨fun q hq => (List.mem_append.1 hq).elim (x.h q) (y.h q), fun p hp => (List.mem_append.1 hp).elim (x.a p) (y.a p)⟩
theorem Pt.left {w : World} {h1 h2 : List ((Nat × Nat) × Value)} {a1 a2 : List Pl} (x : Pt w (h1 ++ h2) (a1 ++ a2)) : Pt w h1 a1 :=
  ⟨fun q hq => x.h q (List.mem_append_left _ hq), fun p hp => x.a p (List.mem_append_left _ hp)⟩
theorem Pt.right {w : World} {h1 h2 : List ((Nat × Nat) × Value)} {a1 a2 : List Pl} (x : Pt w (h1 ++ h2) (a1 ++ a2)) : Pt w h2 a2 :=
  ⟨fun q hq => x.h q (List.mem_append_right _ hq), fun p hp => x.a p (List.mem_append_right _ hp)⟩
theorem Pt.puts {hs : List ((Nat × Nat) × Value)} {ps : List Pl} : ∀ (bs : List Pl) {w : World} (k : Int), Pt w hs ps → (∀ p ∈ bs, okc w p) → Pt (puts w bs k) hs ps
  | [], _, _, h, _ => h
  | p :: bs, w, k, h, hb => by
    have hp := hb p List.mem_cons_self
    exact Pt.puts bs (k + 1) ⟨fun q hq => okh_set hp (h.h q hq) k, fun q hq => okc_set hp (h.a q hq) k⟩ (fun q hq => okc_set hp (hb q (List.mem_cons_of_mem _ hq)) k)
theorem okc_block {w w' : World} {p : Pl} (h : okc w p) (hb : ∀ i, i < w.heap.size → w'.heap[i]? = w.heap[i]?) : okc w' p := by
  obtain ⟨⟨u, hu, hp⟩, hf⟩ := h
  have := hb _ (World.block_lt_of_cell? _ _ hu)
  exact ⟨⟨u, by rw [World.cell?_of_block this]; exact hu, hp⟩, by rw [World.frozen?_of_block this]; exact hf⟩
theorem okh_block {w w' : World} {q : (Nat × Nat) × Value} (h : okh w q) (hb : ∀ i, i < w.heap.size → w'.heap[i]? = w.heap[i]?) : okh w' q :=
  ⟨by rw [World.cell?_of_block (hb _ (World.block_lt_of_cell? _ _ h.1))]; exact h.1, h.2⟩
theorem Pt.block {w w' : World} {hs : List ((Nat × Nat) × Value)} {ps : List Pl} (h : Pt w hs ps) (hb : ∀ i, i < w.heap.size → w'.heap[i]? = w.heap[i]?) : Pt w' hs ps :=
  ⟨fun q hq => okh_block (h.h q hq) hb, fun p hp => okc_block (h.a p hp) hb⟩
theorem Pt.below {w w' : World} {hs : List ((Nat × Nat) × Value)} {ps : List Pl} (h : Pt w hs ps) (hb : Below w.heap.size w w') : Pt w' hs ps := h.block hb.block
theorem Pt.wr {w w' : World} {hs : List ((Nat × Nat) × Value)} {ps bs : List Pl} {k : Int} (h : Pt w hs ps) (hw : Wr w w' bs k) (hb : ∀ p ∈ bs, okc w p) : Pt w' hs ps :=
  (h.puts bs k hb).block (fun i hi => hw.block i (by rwa [puts_size] at hi))
theorem Pt.set {w : World} {hs : List ((Nat × Nat) × Value)} {ps : List Pl} (h : Pt w hs ps) {p : Pl} (hp : okc w p) (k : Int) : Pt (w.setCell (adr p) (mkv p.2.2 k)) hs ps :=
  ⟨fun q hq => okh_set hp (h.h q hq) k, fun q hq => okc_set hp (h.a q hq) k⟩
def Hs (w : World) (ps : List Pl) (k : Int) : Prop := ∀ (i : Nat) (p : Pl), ps[i]? = some p → w.cell? (adr p) = some (mkv p.2.2 (k + (i : Int)))
theorem Hs.block {w w' : World} {ps : List Pl} {k : Int} (h : Hs w ps k) (hb : ∀ i, i < w.heap.size → w'.heap[i]? = w.heap[i]?) : Hs w' ps k :=
  fun i p hp => by rw [World.cell?_of_block (hb _ (World.block_lt_of_cell? _ _ (h i p hp)))]; exact h i p hp
theorem Hs.below {w w' : World} {ps : List Pl} {k : Int} (h : Hs w ps k) (hb : Below w.heap.size w w') : Hs w' ps k := h.block hb.block
theorem Hs.head {w : World} {p : Pl} {ps : List Pl} {k : Int} (h : Hs w (p :: ps) k) : w.cell? (adr p) = some (mkv p.2.2 k) := by
  have := h 0 p rfl
  simpa using this
theorem Hs.left {w : World} {ps bs : List Pl} {k : Int} (h : Hs w (ps ++ bs) k) : Hs w ps k := fun i p hp => h i p (by
  rw [List.getElem?_append_left (List.getElem?_eq_some_iff.1 hp).1]; exact hp)
theorem Hs.right {w : World} {ps bs : List Pl} {k : Int} (h : Hs w (ps ++ bs) k) : Hs w bs (k + (ps.length : Int)) := fun i p hp => by
  have := h (ps.length + i) p (by rw [List.getElem?_append_right (by omega), Nat.add_sub_cancel_left]; exact hp)
  rw [this]
  congr 2
  omega
def apart (ps : List Pl) : Prop := (ps.map fun p => (p.1, p.2.1)).Nodup
theorem puts_cell : ∀ (l : List Pl) (w : World) (k : Int) (q : Pl), (∀ p ∈ l, ¬ (p.1 = q.1 ∧ p.2.1 = q.2.1)) → (puts w l k).cell? (adr q) = w.cell? (adr q)
  | [], _, _, _, _ => rfl
  | p :: l, w, k, q, h => by
    rw [puts, puts_cell l _ _ q (fun r hr => h r (List.mem_cons_of_mem _ hr)), World.cell?_setCell_other (h := adr_ne (h p List.mem_cons_self))]
theorem hs_puts : ∀ (ps : List Pl) {w : World} (k : Int), apart ps → (∀ p ∈ ps, okc w p) → Hs (puts w ps k) ps k
  | [], _, _, _, _ => fun i p h => by simp at h
  | q :: ps, w, k, hn, ho => by
    have hq := ho q List.mem_cons_self
    unfold apart at hn
    rw [List.map_cons, List.nodup_cons] at hn
    have ih := hs_puts ps (w := w.setCell (adr q) (mkv q.2.2 k)) (k + 1) hn.2 (fun p hp => okc_set hq (ho p (List.mem_cons_of_mem _ hp)) k)
    intro i p hp
    cases i with
    | zero =>
      simp only [List.getElem?_cons_zero, Option.some.injEq] at hp
      subst hp
      rw [puts, puts_cell ps _ _ q (fun r hr e => hn.1 (List.mem_map.2 ⟨r, hr, by rw [e.1, e.2]⟩))]
      obtain ⟨⟨u, hu, _⟩, _⟩ := hq
      rw [World.cell?_setCell_same _ _ _ hu]
      congr 2
      omega
    | succ i =>
      simp only [List.getElem?_cons_succ] at hp
      rw [puts, ih i p hp]
      congr 2
      omega
theorem Wr.hs {w w' : World} {ps : List Pl} {k : Int} (h : Wr w w' ps k) (hn : apart ps) (ho : ∀ p ∈ ps, okc w p) : Hs w' ps k :=
  (hs_puts ps k hn ho).block (fun i hi => h.block i (by rwa [puts_size] at hi))
structure Md where
  sz : Nat
  Sh : Nat → Nat → List ((Nat × Nat) × Value) → List Pl → Prop
namespace Md
def int : Md := ⟨1, fun g o hs ps => hs = [] ∧ ps = [(g, o, false)]⟩
def bool : Md := ⟨1, fun g o hs ps => hs = [] ∧ ps = [(g, o, true)]⟩
def pair (a b : Md) : Md := ⟨a.sz + b.sz, fun g o hs ps => ∃ h1 a1 h2 a2, a.Sh g o h1 a1 ∧ b.Sh g (o + a.sz) h2 a2 ∧ hs = h1 ++ h2 ∧ ps = a1 ++ a2⟩
def N (d : Md) (g : Nat) : Nat → Nat → List ((Nat × Nat) × Value) → List Pl → Prop
  | _, 0, hs, ps => hs = [] ∧ ps = []
  | j, n + 1, hs, ps => ∃ h1 a1 h2 a2, d.Sh g (j * d.sz) h1 a1 ∧ N d g (j + 1) n h2 a2 ∧ hs = h1 ++ h2 ∧ ps = a1 ++ a2
def Row (d : Md) (v : Value) (hs : List ((Nat × Nat) × Value)) (ps : List Pl) : Prop :=
  ∃ A n c, v = .slice A n c ∧ n ≤ c ∧ n ≤ 9223372036854775807 ∧ ((n = 0 ∧ hs = [] ∧ ps = []) ∨ ∃ g, A = some ⟨g, 0, none⟩ ∧ d.N g 0 n hs ps)
def Nr (d : Md) (A : Option Addr) (j n : Nat) (hs : List ((Nat × Nat) × Value)) (ps : List Pl) : Prop := (n = 0 ∧ hs = [] ∧ ps = []) ∨ ∃ g, A = some ⟨g, 0, none⟩ ∧ d.N g j n hs ps
theorem Nr_nil {d : Md} {A : Option Addr} {j : Nat} {hs : List ((Nat × Nat) × Value)} {ps : List Pl} (h : d.Nr A j 0 hs ps) : ps = [] := by
  rcases h with ⟨_, _, h⟩ | ⟨g, _, h⟩
  · exact h
  · exact h.2
theorem Nr_cons {d : Md} {A : Option Addr} {j n : Nat} {hs : List ((Nat × Nat) × Value)} {ps : List Pl} (h : d.Nr A j (n + 1) hs ps) :
    ∃ g, A = some ⟨g, 0, none⟩ ∧ ∃ h1 a1 h2 a2, d.Sh g (j * d.sz) h1 a1 ∧ d.Nr A (j + 1) n h2 a2 ∧ hs = h1 ++ h2 ∧ ps = a1 ++ a2 := by
  rcases h with ⟨h, _⟩ | ⟨g, hA, h1, a1, h2, a2, x, y, z⟩
  · cases h
  · exact ⟨g, hA, h1, a1, h2, a2, x, .inr ⟨g, hA, y⟩, z⟩
def slice (d : Md) : Md := ⟨1, fun g o hs ps => ∃ v h1, d.Row v h1 ps ∧ hs = ((g, o), v) :: h1⟩
end Md
end Go.Proofs.Ytinbfclfglogmaa.Mk
end
section
namespace Go.Proofs.Ytinbfclfglogmaa.Mk
open Go.RowKit Go.Proofs.YtinbfclfglogmaaW.PrintWords Go.Proofs.YtinbfclfglogmaaW.PrintLast
set_option linter.unusedVariables false
set_option linter.unusedSimpArgs false
theorem apart_nil : apart [] := List.nodup_nil
theorem apart_app {a b : List Pl} (ha : apart a) (hb : apart b) (h : ∀ p ∈ a, ∀ q ∈ b, ¬ (p.1 = q.1 ∧ p.2.1 = q.2.1)) : apart (a ++ b) := by
  unfold apart at *
  rw [List.map_append, List.nodup_append]
  refine ⟨ha, hb, fun x hx y hy e => ?_⟩
  obtain ⟨p, hp, rfl⟩ := List.mem_map.1 hx
  obtain ⟨q, hq, rfl⟩ := List.mem_map.1 hy
  injection e with e1 e2
  exact h p hp q hq ⟨e1, e2⟩
structure Br {α : Type} (d : Kd α) (m : Md) (c inn : α → Nat) (ex : α → Prop) : Prop where
  sz : m.sz = d.sz
  el : ∀ {w : World} {base : Nat} {ok : Nat → Prop} {x : α} {cs : List Value} {g o : Nat}, d.M w base ok x cs → (∀ k, ok k → k ≠ g) → (∀ j u, cs[j]? = some u → w.cell? ⟨g, o + j, none⟩ = some u) → (∀ j, w.frozen? ⟨g, o + j, none⟩ = false) →
    ∃ hs ps, m.Sh g o hs ps ∧ Pt w hs ps ∧ ps.length = c x ∧ (ex x → apart ps) ∧ (∀ p ∈ ps, (p.1 = g ∧ o ≤ p.2.1 ∧ p.2.1 < o + m.sz) ∨ (ok p.1 ∧ inn x ≠ 0)) ∧ ∀ q ∈ hs, q.1.1 = g ∨ ok q.1.1
namespace Br
variable {α β : Type}
theorem int : Br (Kd.int .i64) Md.int (fun _ => 1) (fun _ => 0) (fun _ => True) where
  sz := rfl
  el := by
    intro w base ok x cs g o h _ hc hf
    obtain rfl : cs = [.int .i64 x] := h
    refine ⟨[], [(g, o, false)], ⟨rfl, rfl⟩, ⟨fun _ h => by simp at h, fun p hp => ?_⟩, rfl, fun _ => by simp [apart], fun p hp => ?_, fun _ h => by simp at h⟩
    · obtain rfl := List.mem_singleton.1 hp
      exact ⟨⟨_, hc 0 _ rfl, x, rfl⟩, hf 0⟩
    · obtain rfl := List.mem_singleton.1 hp
      exact .inl ⟨rfl, Nat.le_refl _, Nat.lt_succ_self _⟩
theorem bool : Br Kd.bool Md.bool (fun _ => 1) (fun _ => 0) (fun _ => True) where
  sz := rfl
  el := by
    intro w base ok x cs g o h _ hc hf
    obtain rfl : cs = [.bool x] := h
    refine ⟨[], [(g, o, true)], ⟨rfl, rfl⟩, ⟨fun _ h => by simp at h, fun p hp => ?_⟩, rfl, fun _ => by simp [apart], fun p hp => ?_, fun _ h => by simp at h⟩
    · obtain rfl := List.mem_singleton.1 hp
      exact ⟨⟨_, hc 0 _ rfl, x, rfl⟩, hf 0⟩
    · obtain rfl := List.mem_singleton.1 hp
      exact .inl ⟨rfl, Nat.le_refl _, Nat.lt_succ_self _⟩
theorem pair {d1 : Kd α} {d2 : Kd β} {m1 m2 : Md} {c1 i1 : α → Nat} {c2 i2 : β → Nat} {e1 : α → Prop} {e2 : β → Prop} (h1 : Br d1 m1 c1 i1 e1) (h2 : Br d2 m2 c2 i2 e2) :
    Br (Kd.pair d1 d2) (Md.pair m1 m2) (fun x => c1 x.1 + c2 x.2) (fun x => i1 x.1 + i2 x.2) (fun x => e1 x.1 ∧ e2 x.2 ∧ (i1 x.1 = 0 ∨ i2 x.2 = 0)) where
  sz := by show m1.sz + m2.sz = d1.sz + d2.sz; rw [h1.sz, h2.sz]
  el := by
    rintro w base ok x cs g o ⟨u0, u1, rfl, hM1, hM2⟩ hg hc hf
    have hl := d1.K_len (d1.K_of_M hM1)
    obtain ⟨s1, a1, sh1, p1, l1, x1, b1, q1⟩ := h1.el (g := g) (o := o) hM1 hg (fun j u hu => hc j u (by rw [List.getElem?_append_left (List.getElem?_eq_some_iff.1 hu).1]; exact hu)) hf
    obtain ⟨s2, a2, sh2, p2, l2, x2, b2, q2⟩ := h2.el (g := g) (o := o + m1.sz) hM2 hg (fun j u hu => by
      have := hc (m1.sz + j) u (by rw [List.getElem?_append_right (by rw [hl, h1.sz]; omega), hl, h1.sz, Nat.add_sub_cancel_left]; exact hu)
      rw [← Nat.add_assoc] at this
      exact this) (fun j => by have := hf (m1.sz + j); rw [← Nat.add_assoc] at this; exact this)
    refine ⟨s1 ++ s2, a1 ++ a2, ⟨s1, a1, s2, a2, sh1, sh2, rfl, rfl⟩, p1.app p2, by rw [List.length_append, l1, l2], ?_, ?_, fun q hq => (List.mem_append.1 hq).elim (q1 q) (q2 q)⟩
    · rintro ⟨y1, y2, y3⟩
      refine apart_app (x1 y1) (x2 y2) (fun p hp q hq e => ?_)
      rcases b1 p hp with hp' | ⟨hp', hp2⟩
      · rcases b2 q hq with hq' | ⟨hq', _⟩
        · omega
        · exact hg _ hq' (by rw [← e.1]; exact hp'.1)
      · rcases b2 q hq with hq' | ⟨_, hq2⟩
        · exact hg _ hp' (by rw [e.1]; exact hq'.1)
        · exact y3.elim hp2 hq2
    · intro p hp
      show (p.1 = g ∧ o ≤ p.2.1 ∧ p.2.1 < o + (m1.sz + m2.sz)) ∨ _
      rcases List.mem_append.1 hp with hp | hp
      · rcases b1 p hp with hp' | hp'
        · exact .inl ⟨hp'.1, by omega, by omega⟩
        · exact .inr ⟨hp'.1, by have := hp'.2; omega⟩
      · rcases b2 p hp with hp' | hp'
        · exact .inl ⟨hp'.1, by omega, by omega⟩
        · exact .inr ⟨hp'.1, by have := hp'.2; omega⟩
theorem iso {d : Kd α} {m : Md} {c i : α → Nat} {e : α → Prop} (h : Br d m c i e) (f : β → α) : Br (Kd.iso d f) m (fun x => c (f x)) (fun x => i (f x)) (fun x => e (f x)) where
  sz := h.sz
  el := fun hM => h.el hM
end Br
section
variable {α : Type} {d : Kd α} {m : Md} {c inn : α → Nat} {ex : α → Prop}
def tot (c : α → Nat) (xs : List α) : Nat := (xs.map c).sum
theorem tot_one (xs : List α) : tot (fun _ => 1) xs = xs.length := by
  induction xs with
  | nil => rfl
  | cons x xs ih =>
    unfold tot at *
    rw [List.map_cons, List.sum_cons, ih, List.length_cons, Nat.add_comm]
theorem tot_drop (c : α → Nat) (xs : List α) (j : Nat) (h : j < xs.length) : tot c (xs.drop j) = c xs[j] + tot c (xs.drop (j + 1)) := by
  unfold tot
  rw [List.drop_eq_getElem_cons h, List.map_cons, List.sum_cons]
theorem row_n (hb : Br d m c inn ex) {w : World} {base g : Nat} {ok : Nat → Prop} {Q : Nat → Nat → Prop} (xs : List α)
    (E : ∀ i (h : i < xs.length), ∃ cs, d.M w base (fun k => ok k ∧ k ≠ g ∧ Q i k) xs[i] cs ∧ (∀ j u, cs[j]? = some u → w.cell? ⟨g, i * m.sz + j, none⟩ = some u) ∧ ∀ j, w.frozen? ⟨g, i * m.sz + j, none⟩ = false) :
    ∀ n j, j + n = xs.length → ∃ hs ps, m.N g j n hs ps ∧ Pt w hs ps ∧ ps.length = tot c (xs.drop j) ∧ (∀ q ∈ hs, q.1.1 = g ∨ ok q.1.1) ∧
      (∀ p ∈ ps, (p.1 = g ∧ j * m.sz ≤ p.2.1) ∨ (ok p.1 ∧ p.1 ≠ g ∧ ∃ i, j ≤ i ∧ Q i p.1 ∧ ∃ h : i < xs.length, inn xs[i] ≠ 0)) ∧
      ((∀ x ∈ xs, ex x) → ((∀ i i' k, Q i k → Q i' k → i = i') ∨ ∀ x ∈ xs, inn x = 0) → apart ps)
  | 0, j, e => ⟨[], [], ⟨rfl, rfl⟩, Pt.nil w, by
      rw [List.drop_eq_nil_of_le (by omega)]
      rfl, fun q hq => by simp at hq, fun p hp => by simp at hp, fun _ _ => apart_nil⟩
  | n + 1, j, e => by
    have hj : j < xs.length := by omega
    obtain ⟨cs, hM, hc, hf⟩ := E j hj
    obtain ⟨s1, a1, sh1, p1, l1, x1, b1, q1⟩ := hb.el (g := g) (o := j * m.sz) hM (fun k hk => hk.2.1) hc hf
    obtain ⟨s2, a2, sh2, p2, l2, q2, b2, x2⟩ := row_n hb xs E n (j + 1) (by omega)
    have hmul : (j + 1) * m.sz = j * m.sz + m.sz := Nat.succ_mul _ _
    refine ⟨s1 ++ s2, a1 ++ a2, ⟨s1, a1, s2, a2, sh1, sh2, rfl, rfl⟩, p1.app p2, by rw [List.length_append, l1, l2, tot_drop c xs j hj], fun q hq => (List.mem_append.1 hq).elim (fun h => (q1 q h).imp_right (·.1)) (q2 q), ?_, ?_⟩
    · intro p hp
      rcases List.mem_append.1 hp with hp | hp
      · rcases b1 p hp with hp' | hp'
        · exact .inl ⟨hp'.1, hp'.2.1⟩
        · exact .inr ⟨hp'.1.1, hp'.1.2.1, j, Nat.le_refl _, hp'.1.2.2, hj, hp'.2⟩
      · rcases b2 p hp with hp' | ⟨h1, h2, i, hi, hq, hl, hn⟩
        · exact .inl ⟨hp'.1, by omega⟩
        · exact .inr ⟨h1, h2, i, by omega, hq, hl, hn⟩
    · intro y1 y2
      refine apart_app (x1 (y1 _ (List.getElem_mem hj))) (x2 y1 y2) (fun p hp q hq e => ?_)
      rcases b1 p hp with hp' | hp'
      · rcases b2 q hq with hq' | hq'
        · omega
        · exact hq'.2.1 (by rw [← e.1]; exact hp'.1)
      · rcases b2 q hq with hq' | ⟨_, _, i, hi, hqi, hl, hn⟩
        · exact hp'.1.2.1 (by rw [e.1]; exact hq'.1)
        · rcases y2 with y2 | y2
          · have := y2 j i p.1 hp'.1.2.2 (by rw [e.1]; exact hqi)
            omega
          · exact hn (y2 _ (List.getElem_mem hl))
theorem row_R (hb : Br d m c inn ex) {e base : Nat} {w : World} {ok : Nat → Prop} {v : Value} {xs : List α} (h : d.R e w base ok v xs) :
    ∃ hs ps, m.Row v hs ps ∧ Pt w hs ps ∧ ps.length = tot c xs ∧ (∀ q ∈ hs, ok q.1.1) ∧ (∀ p ∈ ps, ok p.1 ∧ (some p.1 = v.ownBlock ∨ ∃ x ∈ xs, inn x ≠ 0)) ∧ ((∀ x ∈ xs, ex x) → (∀ x ∈ xs, inn x = 0) → apart ps) := by
  obtain ⟨A, cp, rfl, hle, hC⟩ := Kd.R_reads h
  have hmax : xs.length ≤ 9223372036854775807 := hC.2.1
  by_cases hp : 0 < xs.length
  · obtain ⟨g, cap, he, _, _, _⟩ := Kd.R_form h hp
    injection he with h1 h2 h3
    subst h1
    obtain ⟨z⟩ : Nonempty α := ⟨xs[0]⟩
    obtain ⟨hs, ps, hN, hPt, hl, hq0, hbk, hx⟩ := row_n hb (g := g) (ok := ok) (Q := fun _ _ => True) (base := base) (w := w) xs (fun i hi => by
      obtain ⟨cs, _, hM, hc, hf⟩ := Kd.R_elem h z (i : Int) (by omega) (by omega)
      rw [Int.toNat_natCast] at hM hc hf
      rw [List.getD_eq_getElem?_getD, List.getElem?_eq_getElem hi, Option.getD_some] at hM
      rw [← hb.sz] at hc hf
      exact ⟨cs, d.M_mono (fun k hk => ⟨hk.1, hk.2, trivial⟩) hM, hc, hf⟩) xs.length 0 (by omega)
    refine ⟨hs, ps, ⟨_, _, _, rfl, hle, hmax, .inr ⟨g, rfl, hN⟩⟩, hPt, by rw [hl, List.drop_zero], fun q hq => (hq0 q hq).elim (fun e => by rw [e]; exact h.1 g rfl) id, fun p hp => ?_, fun y1 y2 => hx y1 (.inr y2)⟩
    rcases hbk p hp with hp' | ⟨hp', _, i, _, _, hl, hn⟩
    · exact ⟨by rw [hp'.1]; exact h.1 g rfl, .inl (by rw [hp'.1]; rfl)⟩
    · exact ⟨hp', .inr ⟨_, List.getElem_mem hl, hn⟩⟩
  · have h0 : xs = [] := List.eq_nil_of_length_eq_zero (by omega)
    subst h0
    exact ⟨[], [], ⟨_, _, _, rfl, hle, hmax, .inl ⟨rfl, rfl, rfl⟩⟩, Pt.nil w, rfl, fun q hq => by simp at hq, fun p hp => by simp at hp, fun _ _ => apart_nil⟩
theorem row_S (hb : Br d m c inn ex) {e base : Nat} {w : World} {ok : Nat → Prop} {v : Value} {xs : List α} (h : Kd.S d e w base ok v xs) :
    ∃ hs ps, m.Row v hs ps ∧ Pt w hs ps ∧ ps.length = tot c xs ∧ (∀ q ∈ hs, ok q.1.1) ∧ (∀ p ∈ ps, ok p.1 ∧ (some p.1 = v.ownBlock ∨ ∃ x ∈ xs, inn x ≠ 0)) ∧ ((∀ x ∈ xs, ex x) → apart ps) := by
  have hR := Kd.S_R h
  obtain ⟨A, cp, rfl, hle, hC⟩ := Kd.R_reads hR
  have hmax : xs.length ≤ 9223372036854775807 := hC.2.1
  obtain ⟨f, hf_⟩ := h
  by_cases hp : 0 < xs.length
  · obtain ⟨g, cap, he, _, _, _⟩ := Kd.R_form hR hp
    injection he with h1 h2 h3
    subst h1
    obtain ⟨z⟩ : Nonempty α := ⟨xs[0]⟩
    obtain ⟨hs, ps, hN, hPt, hl, hq0, hbk, hx⟩ := row_n hb (g := g) (ok := ok) (Q := fun i k => f k = i) (base := base) (w := w) xs (fun i hi => by
      obtain ⟨cs, _, hM, hc, hf⟩ := Kd.R_elem hf_ (z, 0) (i : Int) (by omega) (by omega)
      rw [Int.toNat_natCast] at hM hc hf
      rw [List.getD_eq_getElem?_getD, Kd.zip_at (List.getElem?_eq_getElem hi), Option.getD_some] at hM
      rw [show (Kd.tag f d).sz = m.sz from hb.sz.symm] at hc hf
      exact ⟨cs, d.M_mono (fun k hk => ⟨hk.1.1, hk.1.2, hk.2⟩) hM, hc, hf⟩) xs.length 0 (by omega)
    refine ⟨hs, ps, ⟨_, _, _, rfl, hle, hmax, .inr ⟨g, rfl, hN⟩⟩, hPt, by rw [hl, List.drop_zero], fun q hq => (hq0 q hq).elim (fun e => by rw [e]; exact hR.1 g rfl) id, fun p hp => ?_, fun y1 => hx y1 (.inl fun i i' k h1 h2 => h1.symm.trans h2)⟩
    rcases hbk p hp with hp' | ⟨hp', _, i, _, _, hl, hn⟩
    · exact ⟨by rw [hp'.1]; exact hR.1 g rfl, .inl (by rw [hp'.1]; rfl)⟩
    · exact ⟨hp', .inr ⟨_, List.getElem_mem hl, hn⟩⟩
  · have h0 : xs = [] := List.eq_nil_of_length_eq_zero (by omega)
    subst h0
    exact ⟨[], [], ⟨_, _, _, rfl, hle, hmax, .inl ⟨rfl, rfl, rfl⟩⟩, Pt.nil w, rfl, fun q hq => by simp at hq, fun p hp => by simp at hp, fun _ => apart_nil⟩
theorem Br.slice (hb : Br d m c inn ex) (e : Nat) (h0 : ∀ x, inn x = 0) : Br (Kd.slice e d) (Md.slice m) (fun xs => tot c xs) (fun xs => tot c xs) (fun xs => ∀ x ∈ xs, ex x) where
  sz := rfl
  el := by
    rintro w base ok x cs g o ⟨v, rfl, hR⟩ hg hc hf
    obtain ⟨hs, ps, hr, hPt, hl, hq0, hbk, hx⟩ := row_R hb hR
    obtain ⟨A, n, cp, hv, _⟩ := hr
    refine ⟨((g, o), v) :: hs, ps, ⟨v, hs, ⟨A, n, cp, hv, by assumption⟩, rfl⟩, ⟨fun q hq => ?_, hPt.a⟩, hl, fun y => hx y (fun x _ => h0 x), fun p hp => .inr ⟨(hbk p hp).1, ?_⟩, fun q hq => ?_⟩
    · rcases List.mem_cons.1 hq with rfl | hq
      · exact ⟨hc 0 _ rfl, A, n, cp, hv⟩
      · exact hPt.h q hq
    · show tot c x ≠ 0
      have := List.length_pos_of_mem hp
      omega
    · rcases List.mem_cons.1 hq with rfl | hq
      · exact .inl rfl
      · exact .inr (hq0 q hq)
end
structure Sg (w : World) (k : Int) (wr : World) (pre : List Pl) (hs : List ((Nat × Nat) × Value)) (ps : List Pl) (kk : Int) : Prop where
  ek : kk = k + (pre.length : Int)
  pt : Pt wr hs ps
  wr : Wr w wr pre k
theorem Pt.sub {w : World} {hs h1 : List ((Nat × Nat) × Value)} {ps a1 : List Pl} (h : Pt w hs ps) (x : ∀ q ∈ h1, q ∈ hs) (y : ∀ q ∈ a1, q ∈ ps) : Pt w h1 a1 := ⟨fun q hq => h.h q (x q hq), fun q hq => h.a q (y q hq)⟩
namespace Sg
variable {w wr w2 : World} {k kk : Int} {pre ps qs a1 a2 : List Pl} {hs h1 h2 : List ((Nat × Nat) × Value)}
theorem start (h : Pt w hs ps) (k : Int) : Sg w k w [] hs ps k := ⟨by simp, h, Wr.refl w k⟩
theorem put (h : Sg w k wr pre hs ps kk) {b o : Nat} {t : Bool} (hm : (b, o, t) ∈ ps) {v : Value} (hv : v = mkv t kk) : Sg w k (wr.setCell ⟨b, o, none⟩ v) (pre ++ [(b, o, t)]) hs ps (kk + 1) := by
  subst hv
  refine ⟨by rw [h.ek, List.length_append, List.length_singleton]; omega, h.pt.set (p := (b, o, t)) (h.pt.a _ hm) kk, h.wr.put (b, o, t) h.ek⟩
theorem call (h : Sg w k wr pre hs ps kk) (hw : Wr wr w2 qs kk) (hq : ∀ q ∈ qs, q ∈ ps) : Sg w k w2 (pre ++ qs) hs ps (kk + (qs.length : Int)) :=
  ⟨by rw [h.ek, List.length_append]; omega, h.pt.wr hw (fun p hp => h.pt.a p (hq p hp)), h.wr.trans hw h.ek⟩
theorem below (h : Sg w k wr pre hs ps kk) (hb : Below wr.heap.size wr w2) : Sg w k w2 pre hs ps kk := ⟨h.ek, h.pt.below hb, h.wr.below hb⟩
theorem rest (h : Sg w k wr pre (h1 ++ h2) (a1 ++ a2) kk) : Sg w k wr pre h2 a2 kk := ⟨h.ek, h.pt.right, h.wr⟩
theorem cell (h : Sg w k wr pre hs ps kk) {b o : Nat} {t : Bool} (hm : (b, o, t) ∈ ps) : ∃ u, wr.cell? ⟨b, o, none⟩ = some u ∧ wr.frozen? ⟨b, o, none⟩ = false := by
  obtain ⟨⟨u, hu, _⟩, hf⟩ := h.pt.a _ hm
  exact ⟨u, hu, hf⟩
theorem head (h : Sg w k wr pre hs ps kk) {b o : Nat} {v : Value} (hm : ((b, o), v) ∈ hs) : wr.cell? ⟨b, o, none⟩ = some v := (h.pt.h _ hm).1
theorem sub (h : Sg w k wr pre hs ps kk) (x : ∀ q ∈ h1, q ∈ hs) (y : ∀ q ∈ a1, q ∈ ps) : Pt wr h1 a1 := h.pt.sub x y
theorem narrow (h : Sg w k wr pre hs ps kk) (x : ∀ q ∈ h1, q ∈ hs) (y : ∀ q ∈ a1, q ∈ ps) : Sg w k wr pre h1 a1 kk := ⟨h.ek, h.pt.sub x y, h.wr⟩
end Sg
theorem Wr.after {w wb w2 : World} {ps : List Pl} {k : Int} (hb : Below w.heap.size w wb) (h : Wr wb w2 ps k) : Wr w w2 ps k :=
  ⟨h.os.trans hb.os, h.tape.trans hb.tape, h.output.trans hb.output, Nat.le_trans hb.size h.size, fun i hi =>
    (h.block i (Nat.lt_of_lt_of_le hi hb.size)).trans (puts_cong ps k (hb.block i hi))⟩
theorem Md.Row_slice {d : Md} {v : Value} {hs : List ((Nat × Nat) × Value)} {ps : List Pl} (h : d.Row v hs ps) : ∃ A n c, v = .slice A n c := by
  obtain ⟨A, n, c, e, _⟩ := h
  exact ⟨A, n, c, e⟩
structure Sq (w : World) (k : Int) (wr : World) (pre : List Pl) (hs : List ((Nat × Nat) × Value)) (ps : List Pl) (kk : Int) : Prop where
  ek : kk = k + (pre.length : Int)
  pt : Pt wr hs ps
  hd : Hs wr ps kk
  bl : Below w.heap.size w wr
theorem Hs.tail {w : World} {p : Pl} {ps : List Pl} {k : Int} (h : Hs w (p :: ps) k) : Hs w ps (k + 1) := by
  have := Hs.right (ps := [p]) (bs := ps) h
  simpa using this
namespace Sq
variable {w wr w2 : World} {k kk : Int} {pre ps qs a1 a2 : List Pl} {hs h1 h2 : List ((Nat × Nat) × Value)} {p : Pl}
theorem start (h : Pt w hs ps) (g : Hs w ps k) : Sq w k w [] hs ps k := ⟨by simp, h, g, Below.refl _ _⟩
theorem cell {b o : Nat} {t : Bool} (h : Sq w k wr pre hs ((b, o, t) :: ps) kk) : wr.cell? ⟨b, o, none⟩ = some (mkv t kk) := h.hd.head (p := (b, o, t))
theorem tail (h : Sq w k wr pre hs (p :: ps) kk) : Sq w k wr (pre ++ [p]) hs ps (kk + 1) :=
  ⟨by rw [h.ek, List.length_append, List.length_singleton]; omega, ⟨h.pt.h, fun q hq => h.pt.a q (List.mem_cons_of_mem _ hq)⟩, h.hd.tail, h.bl⟩
theorem call (h : Sq w k wr pre hs (a1 ++ a2) kk) (hb : Below wr.heap.size wr w2) : Sq w k w2 (pre ++ a1) hs a2 (kk + (a1.length : Int)) :=
  ⟨by rw [h.ek, List.length_append]; omega, ⟨(h.pt.below hb).h, fun q hq => (h.pt.below hb).a q (List.mem_append_right _ hq)⟩, h.hd.right.below hb, h.bl.trans (hb.mono h.bl.size)⟩
theorem head (h : Sq w k wr pre hs ps kk) {b o : Nat} {v : Value} (hm : ((b, o), v) ∈ hs) : wr.cell? ⟨b, o, none⟩ = some v := (h.pt.h _ hm).1
theorem narrow (h : Sq w k wr pre hs ps kk) (x : ∀ q ∈ h1, q ∈ hs) : Sq w k wr pre h1 ps kk := ⟨h.ek, h.pt.sub x (fun _ hq => hq), h.hd, h.bl⟩
end Sq
end Go.Proofs.Ytinbfclfglogmaa.Mk
end
section
namespace Go.Proofs.Ytinbfclfglogmaa.Mk
open Go.RowKit Go.Proofs.YtinbfclfglogmaaW.PrintWords Go.Proofs.YtinbfclfglogmaaW.PrintLast
set_option linter.unusedVariables false
set_option linter.unusedSimpArgs false
def Bt (lo hi : Nat) (q : Nat) : Prop := lo ≤ q ∧ q < hi
abbrev Item := Nat × Nat × (World → Prop)
def Chn (n0 : Nat) (W : World) : List Item → Prop
  | [] => True
  | (lo, hi, P) :: L => n0 ≤ lo ∧ lo ≤ hi ∧ hi ≤ W.heap.size ∧ Foot P W (Bt lo hi) ∧ (∀ y ∈ L, y.2.1 ≤ lo) ∧ Chn n0 W L
theorem Chn.step {n0 : Nat} {W W' : World} {S : Nat → Prop} (hk : Kept W W' S) : ∀ {L : List Item}, (∀ y ∈ L, ∀ q, Bt y.1 y.2.1 q → ¬ S q) → Chn n0 W L → Chn n0 W' L
  | [], _, _ => trivial
  | (lo, hi, P) :: L, hd, ⟨h1, h2, h3, h4, h5, h6⟩ =>
    ⟨h1, h2, Nat.le_trans h3 hk.1, h4.step (fun k hk' hlt => hk.2 k hlt (hd _ List.mem_cons_self k hk')), h5, Chn.step hk (fun y hy => hd y (List.mem_cons_of_mem _ hy)) h6⟩
theorem Chn.lt {n0 : Nat} {W : World} : ∀ {L : List Item}, Chn n0 W L → ∀ y ∈ L, n0 ≤ y.1 ∧ y.1 ≤ y.2.1 ∧ y.2.1 ≤ W.heap.size
  | [], _, y, hy => by simp at hy
  | (lo, hi, P) :: L, ⟨h1, h2, h3, _, _, h6⟩, y, hy => by
    rcases List.mem_cons.1 hy with rfl | hy
    · exact ⟨h1, h2, h3⟩
    · exact Chn.lt h6 y hy
structure Ch (w W : World) (L : List Item) : Prop where
  b : Below w.heap.size w W
  c : Chn w.heap.size W L
namespace Ch
variable {w W W' : World} {L L1 L2 : List Item} {lo hi : Nat} {P P' : World → Prop}
theorem start (w : World) : Ch w w [] := ⟨Below.refl _ _, trivial⟩
theorem below (h : Ch w W L) (hb : Below W.heap.size W W') : Ch w W' L := ⟨below_step h.b hb, Chn.step (Kept.of_below hb (fun _ => False)) (fun _ _ _ _ h => h) h.c⟩
theorem drawn (h : Ch w W L) (hd : Drawn0 W W') : Ch w W' L := by
  obtain ⟨n, rfl⟩ := hd.out
  exact h.below (pw_below_drewN (Below.refl _ _) n)
theorem push (h : Ch w W L) (hb : Below W.heap.size W W') {Q : Nat → Nat → World → Prop} (hQ : Foot (Q W.heap.size W'.heap.size) W' (Bt W.heap.size W'.heap.size)) : ∃ lo hi, Ch w W' ((lo, hi, Q lo hi) :: L) :=
  ⟨W.heap.size, W'.heap.size, (h.below hb).b, h.b.size, hb.size, Nat.le_refl _, hQ, fun y hy => (h.c.lt y hy).2.2, (h.below hb).c⟩
theorem get (h : Ch w W L) : ∀ (i : Nat), L[i]? = some (lo, hi, P) → P W ∧ Foot P W (Bt lo hi) := by
  have key : ∀ {L : List Item}, Chn w.heap.size W L → ∀ (i : Nat), L[i]? = some (lo, hi, P) → P W ∧ Foot P W (Bt lo hi) := by
    intro L
    induction L with
    | nil => intro _ i e; simp at e
    | cons y L ih =>
      intro hc i e
      obtain ⟨a, b, Q⟩ := y
      cases i with
      | zero =>
        simp only [List.getElem?_cons_zero, Option.some.injEq, Prod.mk.injEq] at e
        obtain ⟨rfl, rfl, rfl⟩ := e
        exact ⟨hc.2.2.2.1.now, hc.2.2.2.1⟩
      | succ i => exact ih hc.2.2.2.2.2 i (by simpa using e)
  exact key h.c
theorem at_ (h : Ch w W L) (i : Nat) (e : L[i]? = some (lo, hi, P)) : P W := (h.get i e).1
theorem mark (h : Ch w W (L1 ++ (lo, hi, P) :: L2)) (hk : Kept W W' (Bt lo hi)) (hb : Below w.heap.size w W') (hP : Foot P' W' (Bt lo hi)) : Ch w W' (L1 ++ (lo, hi, P') :: L2) := by
  refine ⟨hb, ?_⟩
  have key : ∀ {L1 : List Item}, Chn w.heap.size W (L1 ++ (lo, hi, P) :: L2) → Chn w.heap.size W' (L1 ++ (lo, hi, P') :: L2) := by
    intro L1
    induction L1 with
    | nil =>
      rintro ⟨h1, h2, h3, h4, h5, h6⟩
      exact ⟨h1, h2, Nat.le_trans h3 hk.1, hP, h5, Chn.step hk (fun y hy q hq hq2 => by have := h5 y hy; have := hq.2; have := hq2.1; omega) h6⟩
    | cons y L1 ih =>
      obtain ⟨a, b, Q⟩ := y
      rintro ⟨h1, h2, h3, h4, h5, h6⟩
      refine ⟨h1, h2, Nat.le_trans h3 hk.1, h4.step (fun k hk' hlt => hk.2 k hlt (fun hq => ?_)), ?_, ih h6⟩
      · have := h5 (lo, hi, P) (List.mem_append_right _ List.mem_cons_self)
        have := hk'.1
        have := hq.2
        simp only at *
        omega
      · intro y hy
        rcases List.mem_append.1 hy with hy | hy
        · exact h5 y (List.mem_append_left _ hy)
        · rcases List.mem_cons.1 hy with rfl | hy
          · exact h5 (lo, hi, P) (List.mem_append_right _ List.mem_cons_self)
          · exact h5 y (List.mem_append_right _ (List.mem_cons_of_mem _ hy))
  exact key h.c
theorem lt_ (h : Ch w W (L1 ++ (lo, hi, P) :: L2)) : w.heap.size ≤ lo := (h.c.lt (lo, hi, P) (List.mem_append_right _ List.mem_cons_self)).1
theorem wr {ps : List Pl} {k : Int} (h : Ch w W (L1 ++ (lo, hi, P) :: L2)) (hw : Wr W W' ps k) (hp : ∀ p ∈ ps, Bt lo hi p.1) (hP : Foot P' W' (Bt lo hi)) : Ch w W' (L1 ++ (lo, hi, P') :: L2) :=
  h.mark (hw.kept hp) (hw.under h.b (fun p hq => Nat.le_trans h.lt_ (hp p hq).1)) hP
theorem wr0 {ps : List Pl} {k : Int} (h : Ch w W (L1 ++ (lo, hi, P) :: L2)) (hw : Wr W W' ps k) (hp : ∀ p ∈ ps, Bt lo hi p.1) : Ch w W' (L1 ++ (lo, hi, fun _ => True) :: L2) :=
  h.wr hw hp (fun _ _ => trivial)
end Ch
section
variable {α : Type} {d : Kd α} {e : Nat} {W W' : World} {lo hi : Nat} {v : Value} {xs : List α}
theorem foot_R (h : d.R e W lo (Bt lo hi) v xs) : Foot (fun U => d.R e U lo (Bt lo hi) v xs) W (Bt lo hi) := fun _ hW => Kd.R_step h hW
theorem foot_S (h : Kd.S d e W lo (Bt lo hi) v xs) : Foot (fun U => Kd.S d e U lo (Bt lo hi) v xs) W (Bt lo hi) := fun _ hW => Kd.S_step h hW
theorem in_R {ok : Nat → Prop} (h : d.R e W' W.heap.size ok v xs) : d.R e W' W.heap.size (Bt W.heap.size W'.heap.size) v xs := Kd.R_mono (Kd.R_bound h) (fun _ hk => ⟨hk.2.1, hk.2.2.1⟩)
theorem in_S {ok : Nat → Prop} (h : Kd.S d e W' W.heap.size ok v xs) : Kd.S d e W' W.heap.size (Bt W.heap.size W'.heap.size) v xs := Kd.S_mono (Kd.S_bound h) (fun _ hk => ⟨hk.2.1, hk.2.2.1⟩)
theorem foot_and {P Q : World → Prop} {ok : Nat → Prop} (h : Foot P W ok) (g : Foot Q W ok) : Foot (fun U => P U ∧ Q U) W ok := fun U hU => ⟨h U hU, g U hU⟩
end
theorem foot_pt {W : World} {hs : List ((Nat × Nat) × Value)} {ps : List Pl} {ok : Nat → Prop} (h : Pt W hs ps) (h1 : ∀ q ∈ hs, ok q.1.1) (h2 : ∀ p ∈ ps, ok p.1) : Foot (fun U => Pt U hs ps) W ok := fun U hU => by
  refine ⟨fun q hq => ?_, fun p hp => ?_⟩
  · have a := h.h q hq
    exact ⟨by rw [World.cell?_of_block (hU _ (h1 q hq) (World.block_lt_of_cell? _ _ a.1))]; exact a.1, a.2⟩
  · obtain ⟨⟨u, hu, hpu⟩, hf⟩ := h.a p hp
    have e := hU _ (h2 p hp) (World.block_lt_of_cell? _ _ hu)
    exact ⟨⟨u, by rw [World.cell?_of_block e]; exact hu, hpu⟩, by rw [World.frozen?_of_block e]; exact hf⟩
theorem foot_hs {W : World} {ps : List Pl} {k : Int} {ok : Nat → Prop} (h : Hs W ps k) (h2 : ∀ p ∈ ps, ok p.1) : Foot (fun U => Hs U ps k) W ok := fun U hU i p hp => by
  rw [World.cell?_of_block (hU _ (h2 p (List.mem_of_getElem? hp)) (World.block_lt_of_cell? _ _ (h i p hp)))]
  exact h i p hp
end Go.Proofs.Ytinbfclfglogmaa.Mk
end
section
namespace Go.Proofs.Ytinbfclfglogmaa.Mk
open Go.RowKit Go.Proofs.Ytinbfclfglogmaa.P Go.Proofs.YtinbfclfglogmaaW.PrintWords Go.Proofs.YtinbfclfglogmaaW.PrintLast Go.Proofs.YtinbfclfglogmaaW.PrintMore
set_option linter.unusedVariables false
set_option linter.unusedSimpArgs false
def mdEvent : Md := Md.pair Md.int (Md.pair Md.int (Md.int))
def pcEvent (x : S65) : Nat := 1 + (1 + (1))
def piEvent (x : S65) : Nat := 0 + (0 + (0))
def peEvent (x : S65) : Prop := True ∧ (True ∧ (True) ∧ (0 = 0 ∨ 0 = 0)) ∧ (0 = 0 ∨ 0 + (0) = 0)
theorem brEvent : Br k65 mdEvent pcEvent piEvent peEvent := (Br.pair Br.int (Br.pair Br.int (Br.int))).iso (fun x : S65 => (x.f0, x.f1, x.f2))
theorem mdEvent_open {g o : Nat} {hs : List ((Nat × Nat) × Value)} {ps : List Pl} (h : mdEvent.Sh g o hs ps) : hs = [] ∧ ps = [(g, o, false)] ++ [(g, o + 1, false)] ++ [(g, o + 2, false)] := by
  obtain ⟨_, _, _, _, ⟨rfl, rfl⟩, ⟨_, _, _, _, ⟨rfl, rfl⟩, ⟨rfl, rfl⟩, rfl, rfl⟩, rfl, rfl⟩ := h
  exact ⟨by simp [mdEvent, Md.pair, Md.int, Md.bool, Md.slice, Nat.add_assoc], by simp [mdEvent, Md.pair, Md.int, Md.bool, Md.slice, Nat.add_assoc]⟩
set_option maxHeartbeats 4000000 in
set_option maxRecDepth 100000 in
theorem markEventS_ok (v : Value) (hs : List ((Nat × Nat) × Value)) (ps : List Pl) (k : Int) (w : World) (hr : Md.Row (mdEvent) v hs ps) (hp : Pt w hs ps) (h0 : 0 ≤ k) (h1 : k + (ps.length : Int) ≤ 1000000000) :
    Calls Try.prog 28 #[v, .int .i64 k] w fun e w' => e = .returned (.int .i64 (k + (ps.length : Int))) ∧ Wr w w' ps k := by
  obtain ⟨A, n, c, rfl, hnc, hmax, hN0⟩ := hr
  have HN : Aside0 (Md.Nr (mdEvent) A 0 n hs ps) := ⟨hN0⟩
  have HG := Aside0.mk (Sg.start hp k)
  clear hN0 hp hnc
  go_enter Try.func28, Try.ntmps28
  go_wp2
  go_loopg [1, 5] n (fun kq v1 v5 w' => ∃ (j : Nat) (kk : Int) (pre : List Pl) (hs1 : List ((Nat × Nat) × Value)) (ps1 : List Pl), v1 = .int .i64 kk ∧ v5 = .int .i64 (j : Int) ∧ Aside0 (j + kq = n) ∧ Aside0 (ps = pre ++ ps1) ∧ Aside0 (Md.Nr (mdEvent) A j kq hs1 ps1) ∧ Aside0 (Sg w k w' pre hs1 ps1 kk))
  case atStart => exact ⟨0, k, [], hs, ps, rfl, rfl, ⟨by omega⟩, ⟨rfl⟩, HN, HG⟩
  case round =>
    clear HN HG
    obtain ⟨j, kk, pre, hs1, ps1, rfl, rfl, HJ, HS, HN, HG⟩ := hrel
    cases gk with
    | zero =>
      have hd : decide ((j : Int) < (n : Int)) = false := decide_eq_false (by have := HJ.out; omega)
      have hd2 : decide (j < n) = false := decide_eq_false (by have := HJ.out; omega)
      go_wp2
      go_ret
      have e0 := Md.Nr_nil HN.out
      have e1 := HS.out
      subst e0
      rw [List.append_nil] at e1
      subst e1
      exact ⟨by rw [HG.out.ek]; rfl, HG.out.wr⟩
    | succ m =>
      have hd : decide ((j : Int) < (n : Int)) = true := decide_eq_true (by have := HJ.out; omega)
      have hd2 : decide (j < n) = true := decide_eq_true (by have := HJ.out; omega)
      have hlt : j < n := by have := HJ.out; omega
      have hlt2 : (j : Int) < (n : Int) := by omega
      obtain ⟨g, rfl, s1, a1, s2, a2, hsh, hn2, rfl, rfl⟩ := Md.Nr_cons HN.out
      clear HN
      have HN2 := Aside0.mk hn2
      clear hn2
      obtain ⟨rfl, rfl⟩ := mdEvent_open (show mdEvent.Sh g (j * 3) s1 a1 from hsh)
      have hk0 : 0 ≤ kk := by have := HG.out.ek; omega
      have hk1 : kk ≤ 1000000000 := by have := HG.out.ek; have := HS.out; subst this; simp only [List.length_append] at h1; omega
      obtain ⟨u0_0, x0_0, f0_0⟩ := HG.out.cell (b := g) (o := j * 3) (t := false) (by simp)
      obtain ⟨u0_1, x0_1, f0_1⟩ := HG.out.cell (b := g) (o := j * 3 + 1) (t := false) (by simp)
      obtain ⟨u0_2, x0_2, f0_2⟩ := HG.out.cell (b := g) (o := j * 3 + 2) (t := false) (by simp)
      go_wp2
      go_roundg m
      case measure => omega
      case rel =>
        have HZ := (Sg.put (Sg.put (Sg.put HG.out (b := g) (o := j * 3) (t := false) (by simp) rfl) (b := g) (o := j * 3 + 1) (t := false) (by simp) rfl) (b := g) (o := j * 3 + 2) (t := false) (by simp) rfl).narrow (h1 := s2) (a1 := a2) (by intro q_ hq_; simp [hq_]) (by intro q_ hq_; simp [hq_])
        exact ⟨j + 1, _, _, s2, a2, rfl, by go_num, ⟨by have := HJ.out; omega⟩, ⟨by rw [HS.out]; simp⟩, HN2, ⟨HZ⟩⟩
set_option maxHeartbeats 4000000 in
set_option maxRecDepth 100000 in
theorem markIntS_ok (v : Value) (hs : List ((Nat × Nat) × Value)) (ps : List Pl) (k : Int) (w : World) (hr : Md.Row (Md.int) v hs ps) (hp : Pt w hs ps) (h0 : 0 ≤ k) (h1 : k + (ps.length : Int) ≤ 1000000000) :
    Calls Try.prog 17 #[v, .int .i64 k] w fun e w' => e = .returned (.int .i64 (k + (ps.length : Int))) ∧ Wr w w' ps k := by
  obtain ⟨A, n, c, rfl, hnc, hmax, hN0⟩ := hr
  have HN : Aside0 (Md.Nr (Md.int) A 0 n hs ps) := ⟨hN0⟩
  have HG := Aside0.mk (Sg.start hp k)
  clear hN0 hp hnc
  go_enter Try.func17, Try.ntmps17
  go_wp2
  go_loopg [1, 5] n (fun kq v1 v5 w' => ∃ (j : Nat) (kk : Int) (pre : List Pl) (hs1 : List ((Nat × Nat) × Value)) (ps1 : List Pl), v1 = .int .i64 kk ∧ v5 = .int .i64 (j : Int) ∧ Aside0 (j + kq = n) ∧ Aside0 (ps = pre ++ ps1) ∧ Aside0 (Md.Nr (Md.int) A j kq hs1 ps1) ∧ Aside0 (Sg w k w' pre hs1 ps1 kk))
  case atStart => exact ⟨0, k, [], hs, ps, rfl, rfl, ⟨by omega⟩, ⟨rfl⟩, HN, HG⟩
  case round =>
    clear HN HG
    obtain ⟨j, kk, pre, hs1, ps1, rfl, rfl, HJ, HS, HN, HG⟩ := hrel
    cases gk with
    | zero =>
      have hd : decide ((j : Int) < (n : Int)) = false := decide_eq_false (by have := HJ.out; omega)
      have hd2 : decide (j < n) = false := decide_eq_false (by have := HJ.out; omega)
      go_wp2
      go_ret
      have e0 := Md.Nr_nil HN.out
      have e1 := HS.out
      subst e0
      rw [List.append_nil] at e1
      subst e1
      exact ⟨by rw [HG.out.ek]; rfl, HG.out.wr⟩
    | succ m =>
      have hd : decide ((j : Int) < (n : Int)) = true := decide_eq_true (by have := HJ.out; omega)
      have hd2 : decide (j < n) = true := decide_eq_true (by have := HJ.out; omega)
      have hlt : j < n := by have := HJ.out; omega
      have hlt2 : (j : Int) < (n : Int) := by omega
      obtain ⟨g, rfl, s1, a1, s2, a2, hsh, hn2, rfl, rfl⟩ := Md.Nr_cons HN.out
      clear HN
      have HN2 := Aside0.mk hn2
      clear hn2
      obtain ⟨rfl, rfl⟩ := (show (Md.int).Sh g (j * 1) s1 a1 from hsh)
      simp only [Nat.mul_one] at HG HS
      have hk0 : 0 ≤ kk := by have := HG.out.ek; omega
      have hk1 : kk ≤ 1000000000 := by have := HG.out.ek; have := HS.out; subst this; simp only [List.length_append] at h1; omega
      obtain ⟨u0_0, x0_0, f0_0⟩ := HG.out.cell (b := g) (o := j) (t := false) (by simp)
      go_wp2
      go_roundg m
      case measure => omega
      case rel =>
        have HZ := (Sg.put HG.out (b := g) (o := j) (t := false) (by simp) rfl).narrow (h1 := s2) (a1 := a2) (by intro q_ hq_; simp [hq_]) (by intro q_ hq_; simp [hq_])
        exact ⟨j + 1, _, _, s2, a2, rfl, by go_num, ⟨by have := HJ.out; omega⟩, ⟨by rw [HS.out]; simp⟩, HN2, ⟨HZ⟩⟩
set_option maxHeartbeats 4000000 in
set_option maxRecDepth 100000 in
theorem markIntSS_ok (v : Value) (hs : List ((Nat × Nat) × Value)) (ps : List Pl) (k : Int) (w : World) (hr : Md.Row (Md.slice Md.int) v hs ps) (hp : Pt w hs ps) (h0 : 0 ≤ k) (h1 : k + (ps.length : Int) ≤ 1000000000) :
    Calls Try.prog 38 #[v, .int .i64 k] w fun e w' => e = .returned (.int .i64 (k + (ps.length : Int))) ∧ Wr w w' ps k := by
  obtain ⟨A, n, c, rfl, hnc, hmax, hN0⟩ := hr
  have HN : Aside0 (Md.Nr (Md.slice Md.int) A 0 n hs ps) := ⟨hN0⟩
  have HG := Aside0.mk (Sg.start hp k)
  clear hN0 hp hnc
  go_enter Try.func38, Try.ntmps38
  go_wp2
  go_loopg [1, 5] n (fun kq v1 v5 w' => ∃ (j : Nat) (kk : Int) (pre : List Pl) (hs1 : List ((Nat × Nat) × Value)) (ps1 : List Pl), v1 = .int .i64 kk ∧ v5 = .int .i64 (j : Int) ∧ Aside0 (j + kq = n) ∧ Aside0 (ps = pre ++ ps1) ∧ Aside0 (Md.Nr (Md.slice Md.int) A j kq hs1 ps1) ∧ Aside0 (Sg w k w' pre hs1 ps1 kk))
  case atStart => exact ⟨0, k, [], hs, ps, rfl, rfl, ⟨by omega⟩, ⟨rfl⟩, HN, HG⟩
  case round =>
    clear HN HG
    obtain ⟨j, kk, pre, hs1, ps1, rfl, rfl, HJ, HS, HN, HG⟩ := hrel
    cases gk with
    | zero =>
      have hd : decide ((j : Int) < (n : Int)) = false := decide_eq_false (by have := HJ.out; omega)
      have hd2 : decide (j < n) = false := decide_eq_false (by have := HJ.out; omega)
      go_wp2
      go_ret
      have e0 := Md.Nr_nil HN.out
      have e1 := HS.out
      subst e0
      rw [List.append_nil] at e1
      subst e1
      exact ⟨by rw [HG.out.ek]; rfl, HG.out.wr⟩
    | succ m =>
      have hd : decide ((j : Int) < (n : Int)) = true := decide_eq_true (by have := HJ.out; omega)
      have hd2 : decide (j < n) = true := decide_eq_true (by have := HJ.out; omega)
      have hlt : j < n := by have := HJ.out; omega
      have hlt2 : (j : Int) < (n : Int) := by omega
      obtain ⟨g, rfl, s1, a1, s2, a2, hsh, hn2, rfl, rfl⟩ := Md.Nr_cons HN.out
      clear HN
      have HN2 := Aside0.mk hn2
      clear hn2
      obtain ⟨v0, h0, r0, rfl⟩ := (show (Md.slice (Md.int)).Sh g (j * 1) s1 a1 from hsh)
      obtain ⟨b0, rfl⟩ : ∃ b0, b0 = a1 := ⟨_, rfl⟩
      simp only [Nat.mul_one] at HG HS
      obtain ⟨A0, n0, c0, rfl⟩ := Md.Row_slice r0
      have R0 := Aside0.mk r0
      clear r0
      have hk0 : 0 ≤ kk := by have := HG.out.ek; omega
      have hk1 : kk ≤ 1000000000 := by have := HG.out.ek; have := HS.out; subst this; simp only [List.length_append] at h1; omega
      have x0_0 : wr.cell? ⟨g, j, none⟩ = some (.slice A0 n0 c0) := HG.out.head (by simp)
      go_wp2_with fail
      have HG1 := Aside0.mk HG.out
      refine (markIntS_ok _ h0 b0 _ _ R0.out (HG1.out.sub (by intro q_ hq_; simp [hq_]) (by intro q_ hq_; simp [hq_])) (by omega) (by have := HG1.out.ek; have := HS.out; subst this; simp only [List.length_append, List.length_cons, List.length_nil] at *; omega)).mono ?_
      rintro e w1 ⟨rfl, hw⟩
      have HC1 := Aside0.mk (HG1.out.call hw (by intro q_ hq_; simp [hq_]))
      obtain ⟨kq1, hkq⟩ : ∃ kq_ : Int, kq_ = kk + (b0.length : Int) := ⟨_, rfl⟩
      rw [← hkq] at HC1 ⊢
      have hq0_1 : 0 ≤ kq1 := by omega
      have hq1_1 : kq1 ≤ 1000000000 := by have := HC1.out.ek; have := HS.out; subst this; simp only [List.length_append, List.length_cons, List.length_nil] at *; omega
      clear hkq hw
      clear x0_0
      have x1_0 : w1.cell? ⟨g, j, none⟩ = some (.slice A0 n0 c0) := HC1.out.head (by simp)
      go_wp2
      go_roundg m
      case measure => omega
      case rel =>
        have HZ := HC1.out.narrow (h1 := s2) (a1 := a2) (by intro q_ hq_; simp [hq_]) (by intro q_ hq_; simp [hq_])
        exact ⟨j + 1, _, _, s2, a2, rfl, by go_num, ⟨by have := HJ.out; omega⟩, ⟨by rw [HS.out]; simp⟩, HN2, ⟨HZ⟩⟩
set_option maxHeartbeats 4000000 in
set_option maxRecDepth 100000 in
theorem heldIntS_ok (v : Value) (hs : List ((Nat × Nat) × Value)) (ps : List Pl) (k : Int) (w : World) (hr : Md.Row (Md.int) v hs ps) (hp : Pt w hs ps) (hh : Hs w ps k) (h0 : 0 ≤ k) (h1 : k + (ps.length : Int) ≤ 1000000000) :
    Calls Try.prog 18 #[v, .int .i64 k] w fun e w' => e = .returned (.int .i64 (k + (ps.length : Int))) ∧ Below w.heap.size w w' := by
  obtain ⟨A, n, c, rfl, hnc, hmax, hN0⟩ := hr
  have HN : Aside0 (Md.Nr (Md.int) A 0 n hs ps) := ⟨hN0⟩
  have HG := Aside0.mk (Sq.start hp hh)
  clear hN0 hp hnc hh
  go_enter Try.func18, Try.ntmps18
  go_wp2
  go_loopg [1, 5] n (fun kq v1 v5 w' => ∃ (j : Nat) (kk : Int) (pre : List Pl) (hs1 : List ((Nat × Nat) × Value)) (ps1 : List Pl), v1 = .int .i64 kk ∧ v5 = .int .i64 (j : Int) ∧ Aside0 (j + kq = n) ∧ Aside0 (ps = pre ++ ps1) ∧ Aside0 (Md.Nr (Md.int) A j kq hs1 ps1) ∧ Aside0 (Sq w k w' pre hs1 ps1 kk))
  case atStart => exact ⟨0, k, [], hs, ps, rfl, rfl, ⟨by omega⟩, ⟨rfl⟩, HN, HG⟩
  case round =>
    clear HN HG
    obtain ⟨j, kk, pre, hs1, ps1, rfl, rfl, HJ, HS, HN, HG⟩ := hrel
    cases gk with
    | zero =>
      have hd : decide ((j : Int) < (n : Int)) = false := decide_eq_false (by have := HJ.out; omega)
      have hd2 : decide (j < n) = false := decide_eq_false (by have := HJ.out; omega)
      go_wp2
      go_ret
      have e0 := Md.Nr_nil HN.out
      have e1 := HS.out
      subst e0
      rw [List.append_nil] at e1
      subst e1
      exact ⟨by rw [HG.out.ek]; rfl, HG.out.bl⟩
    | succ m =>
      have hd : decide ((j : Int) < (n : Int)) = true := decide_eq_true (by have := HJ.out; omega)
      have hd2 : decide (j < n) = true := decide_eq_true (by have := HJ.out; omega)
      have hlt : j < n := by have := HJ.out; omega
      have hlt2 : (j : Int) < (n : Int) := by omega
      obtain ⟨g, rfl, s1, a1, s2, a2, hsh, hn2, rfl, rfl⟩ := Md.Nr_cons HN.out
      clear HN
      have HN2 := Aside0.mk hn2
      clear hn2
      obtain ⟨rfl, rfl⟩ := (show (Md.int).Sh g (j * 1) s1 a1 from hsh)
      simp only [Nat.mul_one] at HG HS
      have hk0 : 0 ≤ kk := by have := HG.out.ek; omega
      have hk1 : kk ≤ 1000000000 := by have := HG.out.ek; have := HS.out; subst this; simp only [List.length_append] at h1; omega
      simp only [List.append_assoc, List.singleton_append, List.cons_append, List.nil_append] at HG
      have HG0 := HG
      clear HG
      have x0_0 : wr.cell? ⟨g, j, none⟩ = some (.int .i64 kk) := HG0.out.cell
      have HG1 := Aside0.mk HG0.out.tail
      clear HG0
      go_wp2
      go_roundg m
      case measure => omega
      case rel =>
        have HZ := HG1.out.narrow (h1 := s2) (by intro q_ hq_; simp [hq_])
        exact ⟨j + 1, _, _, s2, a2, rfl, by go_num, ⟨by have := HJ.out; omega⟩, ⟨by rw [HS.out]; simp⟩, HN2, ⟨HZ⟩⟩
set_option maxHeartbeats 4000000 in
set_option maxRecDepth 100000 in
theorem heldIntSS_ok (v : Value) (hs : List ((Nat × Nat) × Value)) (ps : List Pl) (k : Int) (w : World) (hr : Md.Row (Md.slice Md.int) v hs ps) (hp : Pt w hs ps) (hh : Hs w ps k) (h0 : 0 ≤ k) (h1 : k + (ps.length : Int) ≤ 1000000000) :
    Calls Try.prog 39 #[v, .int .i64 k] w fun e w' => e = .returned (.int .i64 (k + (ps.length : Int))) ∧ Below w.heap.size w w' := by
  obtain ⟨A, n, c, rfl, hnc, hmax, hN0⟩ := hr
  have HN : Aside0 (Md.Nr (Md.slice Md.int) A 0 n hs ps) := ⟨hN0⟩
  have HG := Aside0.mk (Sq.start hp hh)
  clear hN0 hp hnc hh
  go_enter Try.func39, Try.ntmps39
  go_wp2
  go_loopg [1, 5] n (fun kq v1 v5 w' => ∃ (j : Nat) (kk : Int) (pre : List Pl) (hs1 : List ((Nat × Nat) × Value)) (ps1 : List Pl), v1 = .int .i64 kk ∧ v5 = .int .i64 (j : Int) ∧ Aside0 (j + kq = n) ∧ Aside0 (ps = pre ++ ps1) ∧ Aside0 (Md.Nr (Md.slice Md.int) A j kq hs1 ps1) ∧ Aside0 (Sq w k w' pre hs1 ps1 kk))
  case atStart => exact ⟨0, k, [], hs, ps, rfl, rfl, ⟨by omega⟩, ⟨rfl⟩, HN, HG⟩
  case round =>
    clear HN HG
    obtain ⟨j, kk, pre, hs1, ps1, rfl, rfl, HJ, HS, HN, HG⟩ := hrel
    cases gk with
    | zero =>
      have hd : decide ((j : Int) < (n : Int)) = false := decide_eq_false (by have := HJ.out; omega)
      have hd2 : decide (j < n) = false := decide_eq_false (by have := HJ.out; omega)
      go_wp2
      go_ret
      have e0 := Md.Nr_nil HN.out
      have e1 := HS.out
      subst e0
      rw [List.append_nil] at e1
      subst e1
      exact ⟨by rw [HG.out.ek]; rfl, HG.out.bl⟩
    | succ m =>
      have hd : decide ((j : Int) < (n : Int)) = true := decide_eq_true (by have := HJ.out; omega)
      have hd2 : decide (j < n) = true := decide_eq_true (by have := HJ.out; omega)
      have hlt : j < n := by have := HJ.out; omega
      have hlt2 : (j : Int) < (n : Int) := by omega
      obtain ⟨g, rfl, s1, a1, s2, a2, hsh, hn2, rfl, rfl⟩ := Md.Nr_cons HN.out
      clear HN
      have HN2 := Aside0.mk hn2
      clear hn2
      obtain ⟨v0, h0, r0, rfl⟩ := (show (Md.slice (Md.int)).Sh g (j * 1) s1 a1 from hsh)
      obtain ⟨b0, rfl⟩ : ∃ b0, b0 = a1 := ⟨_, rfl⟩
      simp only [Nat.mul_one] at HG HS
      obtain ⟨A0, n0, c0, rfl⟩ := Md.Row_slice r0
      have R0 := Aside0.mk r0
      clear r0
      have hk0 : 0 ≤ kk := by have := HG.out.ek; omega
      have hk1 : kk ≤ 1000000000 := by have := HG.out.ek; have := HS.out; subst this; simp only [List.length_append] at h1; omega
      simp only [List.append_assoc, List.singleton_append, List.cons_append, List.nil_append] at HG
      have HG0 := HG
      clear HG
      have x0_0 : wr.cell? ⟨g, j, none⟩ = some (.slice A0 n0 c0) := HG0.out.head (by simp)
      go_wp2_with fail
      have hb_ := HG0.out.bl
      refine (heldIntS_ok _ h0 b0 _ _ R0.out (HG0.out.pt.sub (by intro q_ hq_; simp [hq_]) (by intro q_ hq_; simp [hq_])) HG0.out.hd.left (by omega) (by have := HG0.out.ek; have := HS.out; subst this; simp only [List.length_append, List.length_cons, List.length_nil] at *; omega)).mono ?_
      rintro e w1 ⟨rfl, hw⟩
      have HG1 := Aside0.mk (HG0.out.call hw)
      clear HG0 hb_
      obtain ⟨kq1, hkq⟩ : ∃ kq_ : Int, kq_ = kk + (b0.length : Int) := ⟨_, rfl⟩
      rw [← hkq] at HG1 ⊢
      have hq0_1 : 0 ≤ kq1 := by omega
      have hq1_1 : kq1 ≤ 1000000000 := by have := HG1.out.ek; have := HS.out; subst this; simp only [List.length_append, List.length_cons, List.length_nil] at *; omega
      have hq2_1 : decide (kq1 < 0) = false := decide_eq_false (by omega)
      clear hkq hw
      clear x0_0
      go_wp2
      go_roundg m
      case measure => omega
      case rel =>
        have HZ := HG1.out.narrow (h1 := s2) (by intro q_ hq_; simp [hq_])
        exact ⟨j + 1, _, _, s2, a2, rfl, by go_num, ⟨by have := HJ.out; omega⟩, ⟨by rw [HS.out]; simp⟩, HN2, ⟨HZ⟩⟩
end Go.Proofs.Ytinbfclfglogmaa.Mk
end
section
namespace Go.Proofs.Ytinbfclfglogmaa.Mk
open Go.RowKit Go.Proofs.Ytinbfclfglogmaa.P Go.Proofs.YtinbfclfglogmaaW.PrintWords Go.Proofs.YtinbfclfglogmaaW.PrintLast Go.Proofs.YtinbfclfglogmaaW.PrintMore
set_option linter.unusedVariables false
set_option linter.unusedSimpArgs false
set_option maxHeartbeats 8000000 in
set_option maxRecDepth 100000 in
theorem FnExactVectorClocks_law (k : Nat) (a0 : Int) (A1 : Option Addr) (c1 : Nat) (l1 : List S69) (w : World) (hr1 : Kd.C k69 w A1 l1.length l1) (hc1 : l1.length ≤ c1) (z1 : Int) (eE2 : laws_szEventS.f l1 1048576 = some z1) (hz_z1n : ¬ z1 < 0) (x3 : List (S65)) (r10 : List (List Int)) (r11 : Bool) (eE4 : laws_toEventS.f k l1 = some x3) (eE12 : spec_VectorClocks.f k a0 x3 = some (r10, r11)) (eE23 : impl_VectorClocks.f k a0 x3 = some (r10, r11)) (eE29 : laws_eqIntSS.f k r10 r10 = some true) (eE35 : laws_eqEventS.f k x3 x3 = some true) (hB0_ : tot pcEvent x3 ≤ 100000000) (hB1_ : tot (fun y => tot (fun _ => 1) y) r10 ≤ 100000000) (hX0_ : ∀ x ∈ r10, ∀ y ∈ x, True)  :
    Calls Try.prog 10 #[.int .i64 a0, .slice A1 l1.length c1] w fun e w' => e = .returned (.bool true) ∧ Below w.heap.size w w' := by
  have HR1 := Aside0.mk hr1
  clear hr1
  have HC := Aside0.mk (Ch.start w)
  have E2 := Aside0.mk eE2
  clear eE2
  have E4 := Aside0.mk eE4
  clear eE4
  have E12 := Aside0.mk eE12
  clear eE12
  have E23 := Aside0.mk eE23
  clear eE23
  have E29 := Aside0.mk eE29
  clear eE29
  have E35 := Aside0.mk eE35
  clear eE35
  have hB0 := Aside0.mk hB0_
  clear hB0_
  have hB1 := Aside0.mk hB1_
  clear hB1_
  have hX0 := Aside0.mk hX0_
  clear hX0_
  go_enter Try.func10, Try.ntmps10
  go_wp2_with fail
  refine (laws_szEventS.calls _ _ l1 1048576 z1 _ (Kd.C_below HR1.out HC.out.b) hc1 E2.out).mono ?_
  rintro e w1 ⟨rfl, hb⟩
  replace HC := Aside0.mk (HC.out.drawn hb)
  clear hb
  have hz_z1 : decide (z1 < 0) = false := decide_eq_false (by omega)
  go_wp2_with fail
  refine (laws_toEventS.calls k _ _ l1 x3 _ (Kd.C_below HR1.out HC.out.b) hc1 E4.out).mono ?_
  rintro e w2 ⟨v5, rfl, ho0, hb⟩
  obtain ⟨A6, c7, rfl⟩ := Kd.R_slice ho0
  obtain ⟨lo8, hi9, HC'⟩ := HC.out.push hb (Q := fun lo hi U => Kd.R k65 65 U lo (Bt lo hi) (.slice A6 x3.length c7) x3) (foot_R (in_R ho0))
  replace HC := Aside0.mk HC'
  clear HC' hb ho0
  go_wp2_with fail
  refine (spec_VectorClocks.calls k a0 _ _ x3 r10 r11 _ (Kd.R_reads' (HC.out.at_ 0 rfl)).2.2 (Kd.R_reads' (HC.out.at_ 0 rfl)).2.1 E12.out).mono ?_
  rintro e w3 ⟨v13, rfl, ho0, hb⟩
  obtain ⟨A14, c15, rfl⟩ := Kd.S_slice ho0
  obtain ⟨lo16, hi17, HC'⟩ := HC.out.push hb (Q := fun lo hi U => Kd.S (Kd.slice 3 (Kd.int .i64)) 22 U lo (Bt lo hi) (.slice A14 r10.length c15) r10) (foot_S (in_S ho0))
  replace HC := Aside0.mk HC'
  clear HC' hb ho0
  go_wp2_with fail
  refine (laws_toEventS.calls k _ _ l1 x3 _ (Kd.C_below HR1.out HC.out.b) hc1 E4.out).mono ?_
  rintro e w4 ⟨v18, rfl, ho0, hb⟩
  obtain ⟨A19, c20, rfl⟩ := Kd.R_slice ho0
  obtain ⟨lo21, hi22, HC'⟩ := HC.out.push hb (Q := fun lo hi U => Kd.R k65 65 U lo (Bt lo hi) (.slice A19 x3.length c20) x3) (foot_R (in_R ho0))
  replace HC := Aside0.mk HC'
  clear HC' hb ho0
  go_wp2_with fail
  refine (impl_VectorClocks.calls k a0 _ _ x3 r10 r11 _ (Kd.R_reads' (HC.out.at_ 0 rfl)).2.2 (Kd.R_reads' (HC.out.at_ 0 rfl)).2.1 E23.out).mono ?_
  rintro e w5 ⟨v24, rfl, ho0, hb⟩
  obtain ⟨A25, c26, rfl⟩ := Kd.S_slice ho0
  obtain ⟨lo27, hi28, HC'⟩ := HC.out.push hb (Q := fun lo hi U => Kd.S (Kd.slice 3 (Kd.int .i64)) 22 U lo (Bt lo hi) (.slice A25 r10.length c26) r10) (foot_S (in_S ho0))
  replace HC := Aside0.mk HC'
  clear HC' hb ho0
  go_wp2_with fail
  refine (laws_eqIntSS.calls k _ _ r10 _ _ r10 true _ (Kd.S_reads' (HC.out.at_ 0 rfl)).2.2 (Kd.S_reads' (HC.out.at_ 0 rfl)).2.1 (Kd.S_reads' (HC.out.at_ 2 rfl)).2.2 (Kd.S_reads' (HC.out.at_ 2 rfl)).2.1 E29.out).mono ?_
  rintro e w6 ⟨rfl, hb⟩
  replace HC := Aside0.mk (HC.out.drawn hb)
  clear hb
  go_wp2_with fail
  refine (laws_toEventS.calls k _ _ l1 x3 _ (Kd.C_below HR1.out HC.out.b) hc1 E4.out).mono ?_
  rintro e w7 ⟨v30, rfl, ho0, hb⟩
  obtain ⟨A31, c32, rfl⟩ := Kd.R_slice ho0
  obtain ⟨lo33, hi34, HC'⟩ := HC.out.push hb (Q := fun lo hi U => Kd.R k65 65 U lo (Bt lo hi) (.slice A31 x3.length c32) x3) (foot_R (in_R ho0))
  replace HC := Aside0.mk HC'
  clear HC' hb ho0
  go_wp2_with fail
  refine (laws_eqEventS.calls k _ _ x3 _ _ x3 true _ (Kd.R_reads' (HC.out.at_ 2 rfl)).2.2 (Kd.R_reads' (HC.out.at_ 2 rfl)).2.1 (Kd.R_reads' (HC.out.at_ 0 rfl)).2.2 (Kd.R_reads' (HC.out.at_ 0 rfl)).2.1 E35.out).mono ?_
  rintro e w8 ⟨rfl, hb⟩
  replace HC := Aside0.mk (HC.out.below hb)
  clear hb
  go_wp2_with fail
  obtain ⟨ms1_0, mp1_0, mq1_0, mt1_0, mn1_0, mg1_0, mf1_0, md1_0⟩ := row_R brEvent (HC.out.at_ 2 rfl)
  refine (markEventS_ok _ ms1_0 mp1_0  1 _ mq1_0 mt1_0 (by decide) (by rw [mn1_0]; have := hB0.out;  omega)).mono ?_
  rintro e w9 ⟨rfl, hw⟩
  replace HC := Aside0.mk (Ch.wr0 (L1 := [_, _]) HC.out hw (fun p h => by (try simp only [List.append_assoc] at h); exact (mf1_0 p h).1))
  obtain ⟨km1, hkm⟩ : ∃ km_ : Int, km_ = 1 + ((mp1_0).length : Int) := ⟨_, rfl⟩
  rw [← hkm]
  have km1p : Aside0 (0 ≤ km1) := ⟨by  omega⟩
  have km1b : Aside0 (km1 ≤ 400000001) := ⟨by rw [hkm]; rw [mn1_0]; have := hB0.out;  omega⟩
  have hd_km1 : decide (km1 < 0) = false := decide_eq_false (by have := km1p.out; omega)
  clear hkm hw ms1_0 mq1_0 mt1_0 mn1_0 mg1_0 mf1_0 md1_0 
  go_wp2_with fail
  refine (laws_eqIntSS.calls k _ _ r10 _ _ r10 true _ (Kd.S_reads' (HC.out.at_ 1 rfl)).2.2 (Kd.S_reads' (HC.out.at_ 1 rfl)).2.1 (Kd.S_reads' (HC.out.at_ 3 rfl)).2.2 (Kd.S_reads' (HC.out.at_ 3 rfl)).2.1 E29.out).mono ?_
  rintro e w10 ⟨rfl, hb⟩
  replace HC := Aside0.mk (HC.out.drawn hb)
  clear hb
  go_wp2_with fail
  obtain ⟨ms2_0, mp2_0, mq2_0, mt2_0, mn2_0, mg2_0, mf2_0, md2_0⟩ := row_S (Br.slice Br.int 3 (fun _ => rfl)) (HC.out.at_ 1 rfl)
  refine (markIntSS_ok _ ms2_0 mp2_0  1 _ mq2_0 mt2_0 (by decide) (by rw [mn2_0]; have := hB1.out;  omega)).mono ?_
  rintro e w11 ⟨rfl, hw⟩
  have mT : Pt w11 (ms2_0) (mp2_0) := (mt2_0).wr hw (mt2_0).a
  have mA : apart (mp2_0) := (md2_0 hX0.out)
  have mH := hw.hs mA (mt2_0).a
  replace HC := Aside0.mk (Ch.wr (L1 := [_]) HC.out hw (fun p hp => (mf2_0 p hp).1) (foot_and (foot_pt mT mg2_0 (fun p hp => (mf2_0 p hp).1)) (foot_hs mH (fun p hp => (mf2_0 p hp).1))))
  have hl2 : Aside0 (1 + ((mp2_0).length : Int) ≤ 1000000000) := ⟨by rw [mn2_0]; have := hB1.out; omega⟩
  have Qmq2_0 := Aside0.mk mq2_0
  obtain ⟨km2, hkm⟩ : ∃ km_ : Int, km_ = 1 + ((mp2_0).length : Int) := ⟨_, rfl⟩
  have HK2 := Aside0.mk hkm
  rw [← hkm]
  have hd_km2 : decide (km2 < 0) = false := decide_eq_false (by omega)
  clear hkm hw mT mA mH mq2_0 mt2_0 mn2_0 mg2_0 mf2_0 md2_0
  go_wp2_with fail
  refine (heldIntSS_ok _ ms2_0 mp2_0  1 _ Qmq2_0.out (HC.out.at_ 1 rfl).1 (HC.out.at_ 1 rfl).2 (by decide) (by  exact hl2.out)).mono ?_
  rintro e w12 ⟨rfl, hb⟩
  replace HC := Aside0.mk (HC.out.below hb)
  rw [← HK2.out]
  clear hb
  go_wp2_with fail
  refine (laws_toEventS.calls k _ _ l1 x3 _ (Kd.C_below HR1.out HC.out.b) hc1 E4.out).mono ?_
  rintro e w13 ⟨v36, rfl, ho0, hb⟩
  obtain ⟨A37, c38, rfl⟩ := Kd.R_slice ho0
  obtain ⟨lo39, hi40, HC'⟩ := HC.out.push hb (Q := fun lo hi U => Kd.R k65 65 U lo (Bt lo hi) (.slice A37 x3.length c38) x3) (foot_R (in_R ho0))
  replace HC := Aside0.mk HC'
  clear HC' hb ho0
  go_wp2_with fail
  refine (impl_VectorClocks.calls k a0 _ _ x3 r10 r11 _ (Kd.R_reads' (HC.out.at_ 0 rfl)).2.2 (Kd.R_reads' (HC.out.at_ 0 rfl)).2.1 E23.out).mono ?_
  rintro e w14 ⟨v41, rfl, ho0, hb⟩
  obtain ⟨A42, c43, rfl⟩ := Kd.S_slice ho0
  obtain ⟨lo44, hi45, HC'⟩ := HC.out.push hb (Q := fun lo hi U => Kd.S (Kd.slice 3 (Kd.int .i64)) 22 U lo (Bt lo hi) (.slice A42 r10.length c43) r10) (foot_S (in_S ho0))
  replace HC := Aside0.mk HC'
  clear HC' hb ho0
  go_wp2_with fail
  refine (laws_eqIntSS.calls k _ _ r10 _ _ r10 true _ (Kd.S_reads' (HC.out.at_ 0 rfl)).2.2 (Kd.S_reads' (HC.out.at_ 0 rfl)).2.1 (Kd.S_reads' (HC.out.at_ 5 rfl)).2.2 (Kd.S_reads' (HC.out.at_ 5 rfl)).2.1 E29.out).mono ?_
  rintro e w15 ⟨rfl, hb⟩
  replace HC := Aside0.mk (HC.out.drawn hb)
  clear hb
  go_wp2_with fail
  refine (heldIntSS_ok _ ms2_0 mp2_0  1 _ Qmq2_0.out (HC.out.at_ 3 rfl).1 (HC.out.at_ 3 rfl).2 (by decide) (by  exact hl2.out)).mono ?_
  rintro e w16 ⟨rfl, hb⟩
  replace HC := Aside0.mk (HC.out.below hb)
  rw [← HK2.out]
  clear hb
  go_wp2
  go_ret
  exact ⟨rfl, HC.out.b⟩
set_option maxHeartbeats 8000000 in
set_option maxRecDepth 100000 in
theorem FnExactVectorClocks_out0 (k : Nat) (a0 : Int) (A1 : Option Addr) (c1 : Nat) (l1 : List S69) (w : World) (hr1 : Kd.C k69 w A1 l1.length l1) (hc1 : l1.length ≤ c1) (z1 : Int) (eE2 : laws_szEventS.f l1 1048576 = some z1)  (hz : z1 < 0)  :
    Calls Try.prog 10 #[.int .i64 a0, .slice A1 l1.length c1] w fun e w' => e = .returned (.bool true) ∧ Below w.heap.size w w' := by
  have HR1 := Aside0.mk hr1
  clear hr1
  have HC := Aside0.mk (Ch.start w)
  have E2 := Aside0.mk eE2
  clear eE2
  go_enter Try.func10, Try.ntmps10
  go_wp2_with fail
  refine (laws_szEventS.calls _ _ l1 1048576 z1 _ (Kd.C_below HR1.out HC.out.b) hc1 E2.out).mono ?_
  rintro e w1 ⟨rfl, hb⟩
  replace HC := Aside0.mk (HC.out.drawn hb)
  clear hb
  have hz_ : decide (z1 < 0) = true := decide_eq_true hz
  clear hz
  go_wp2
  go_ret
  exact ⟨rfl, HC.out.b⟩
def FnExactVectorClocks_Pure : Prop := ∀ (a0 : Int) (l1 : List S69), ((Lit.int .i64 a0).wf = true) → (l1.length ≤ maxLen ∧ l1.length * 24 ≤ 140737488351232 ∧ ∀ x_ ∈ l1, ok69 x_) → ∃ k : Nat, ∃ z1 : Int, laws_szEventS.f l1 1048576 = some z1 ∧ (z1 < 0 ∨ ¬ z1 < 0 ∧ (∃ (x3 : List (S65)) (r10 : List (List Int)) (r11 : Bool), laws_toEventS.f k l1 = some x3 ∧ spec_VectorClocks.f k a0 x3 = some (r10, r11) ∧ impl_VectorClocks.f k a0 x3 = some (r10, r11) ∧ laws_eqIntSS.f k r10 r10 = some true ∧ laws_eqEventS.f k x3 x3 = some true ∧ tot pcEvent x3 ≤ 100000000 ∧ tot (fun y => tot (fun _ => 1) y) r10 ≤ 100000000 ∧ (∀ x ∈ r10, ∀ y ∈ x, True)))
theorem FnExactVectorClocks_calls (hP : FnExactVectorClocks_Pure) (a0 : Int) (l1 : List S69) (A1 : Option Addr) (c1 : Nat) (b0 : (Lit.int .i64 a0).wf = true) (b1 : l1.length ≤ maxLen ∧ l1.length * 24 ≤ 140737488351232 ∧ ∀ x_ ∈ l1, ok69 x_) (w : World) (hr1 : Kd.C k69 w A1 l1.length l1) (hc1 : l1.length ≤ c1) :
    Calls Try.prog 10 #[.int .i64 a0, .slice A1 l1.length c1] w fun e w' => e = .returned (.bool true) ∧ Below w.heap.size w w' := by
  obtain ⟨k, hk⟩ := hP a0 l1 b0 b1
  obtain ⟨z1, eE2, hk⟩ := hk
  rcases hk with hz | ⟨hz_z1n, hk⟩
  · exact FnExactVectorClocks_out0 k a0 A1 c1 l1 w hr1 hc1 z1 eE2  hz 
  obtain ⟨x3, r10, r11, eE4, eE12, eE23, eE29, eE35, hB0_, hB1_, hX0_⟩ := hk
  exact FnExactVectorClocks_law k a0 A1 c1 l1 w hr1 hc1 z1 eE2 hz_z1n x3 r10 r11 eE4 eE12 eE23 eE29 eE35 hB0_ hB1_ hX0_ 
end Go.Proofs.Ytinbfclfglogmaa.Mk
end
section
namespace Go.Proofs.Ytinbfclfglogmaa.Pl
open Go.RowKit Go.Proofs.YtinbfclfglogmaaW.PrintWords Go.Proofs.YtinbfclfglogmaaW.PrintLast Go.Proofs.YtinbfclfglogmaaW.PrintMore
theorem wrap_in {x : Int} (h0 : -9223372036854775808 ≤ x) (h1 : x ≤ 9223372036854775807) : wrap64 x = x := by
  unfold wrap64
  omega
theorem wrap_len {n m : Nat} (h : n < m) (hm : m ≤ 4611686018427387904) : wrap64 ((n : Int) + 1) = ((n + 1 : Nat) : Int) := by
  rw [wrap_in (by omega) (by omega)]
  omega
theorem wf_i64 {x : Int} (h : (Lit.int .i64 x).wf = true) : -9223372036854775808 ≤ x ∧ x ≤ 9223372036854775807 := by
  have e0 : IntKind.i64.min = -9223372036854775808 := rfl
  have e1 : IntKind.i64.max = 9223372036854775807 := rfl
  simp [Lit.wf, e0, e1] at h
  omega
theorem round {k d : Nat} (h : d < k) : ∃ m, k = m + 1 := ⟨k - 1, by omega⟩
theorem rd_mid (pre : List Int) (h : Int) (t : List Int) : rd (pre ++ h :: t) (pre.length : Int) = h := by
  simp [rd]
theorem rd_at {pre t l : List Int} {h : Int} (e : pre ++ h :: t = l) : rd l (pre.length : Int) = h := by
  rw [← e]; exact rd_mid pre h t
theorem len_mid {α : Type} {pre t : List α} {h : α} {l : List α} (e : pre ++ h :: t = l) : pre.length < l.length := by
  rw [← e]; simp
theorem app_mid {α : Type} {pre t : List α} {h : α} {l : List α} (e : pre ++ h :: t = l) : (pre ++ [h]) ++ t = l := by
  rw [← e]; simp
theorem len_one {α : Type} (pre : List α) (h : α) : (pre ++ [h]).length = pre.length + 1 := by simp
end Go.Proofs.Ytinbfclfglogmaa.Pl
end
section
namespace Go.Proofs.Ytinbfclfglogmaa.EvN
def Cm {α : Type} (f : Nat → Option α) (v : α) : Prop := ∃ K, ∀ k, K ≤ k → f k = some v
theorem cm_now {α : Type} {f : Nat → Option α} {v : α} (h : ∀ k, f k = some v) : Cm f v := ⟨0, fun k _ => h k⟩
theorem cm_step {α : Type} {f g : Nat → Option α} {v : α} (h : ∀ k, f (k + 1) = g k) (hg : Cm g v) : Cm f v := by
  obtain ⟨K, hK⟩ := hg
  refine ⟨K + 1, fun k hk => ?_⟩
  obtain ⟨m, rfl⟩ : ∃ m, k = m + 1 := ⟨k - 1, by omega⟩
  rw [h, hK m (by omega)]
theorem cm_same {α : Type} {f g : Nat → Option α} {v : α} (h : ∀ k, f k = g k) (hg : Cm g v) : Cm f v := by
  obtain ⟨K, hK⟩ := hg
  exact ⟨K, fun k hk => by rw [h, hK k hk]⟩
theorem cm_bind {α β : Type} {a : Nat → Option α} {t : α} {g : Nat → α → Option β} {v : β} (ha : Cm a t) (hg : Cm (fun k => g k t) v) : Cm (fun k => (a k).bind (g k)) v := by
  obtain ⟨K, hK⟩ := ha
  obtain ⟨M, hM⟩ := hg
  exact ⟨K + M, fun k hk => by simp only [hK k (by omega)]; exact hM k (by omega)⟩
theorem cm_yes {α : Type} {c : Prop} [Decidable c] {x y : Nat → Option α} {v : α} (h : c) (h2 : Cm x v) : Cm (fun k => if c then x k else y k) v :=
  cm_same (fun _ => if_pos h) h2
theorem cm_no {α : Type} {c : Prop} [Decidable c] {x y : Nat → Option α} {v : α} (h : ¬ c) (h2 : Cm y v) : Cm (fun k => if c then x k else y k) v :=
  cm_same (fun _ => if_neg h) h2
end Go.Proofs.Ytinbfclfglogmaa.EvN
end
section
namespace Go.Proofs.Ytinbfclfglogmaa.Lp
open Go.RowKit Go.Proofs.YtinbfclfglogmaaW.PrintWords
open Go.Proofs.Ytinbfclfglogmaa.Pl Go.Proofs.Ytinbfclfglogmaa.EvN
theorem loop_cm {α σ ρ : Type} {L : Nat → Int → σ → Option ρ} (xs : List α) (R : List α → List α → σ → ρ) (I : List α → σ → Prop)
    (hend : ∀ s, I xs s → Cm (fun k => L k (xs.length : Int) s) (R xs [] s))
    (hstep : ∀ pre h t s, pre ++ h :: t = xs → pre.length < xs.length → I pre s → (∀ s', I (pre ++ [h]) s' → Cm (fun k => L k ((pre.length + 1 : Nat) : Int) s') (R (pre ++ [h]) t s')) → Cm (fun k => L k (pre.length : Int) s) (R pre (h :: t) s)) :
    ∀ (rest pre : List α) (s : σ), pre ++ rest = xs → I pre s → Cm (fun k => L k (pre.length : Int) s) (R pre rest s)
  | [], pre, s, e, hi => by
    rw [List.append_nil] at e
    subst e
    exact hend s hi
  | h :: t, pre, s, e, hi => by
    refine hstep pre h t s e (len_mid e) hi (fun s' hi' => ?_)
    have := loop_cm xs R I hend hstep t (pre ++ [h]) s' (app_mid e) hi'
    rw [len_one] at this
    exact this
def okFrom {α : Type} (p : List α → α → Bool) : List α → List α → Bool
  | _, [] => true
  | pre, h :: t => p pre h && okFrom p (pre ++ [h]) t
theorem okFrom_iff {α : Type} (p : List α → α → Bool) : ∀ (rest pre : List α), okFrom p pre rest = true ↔ ∀ a h t, a ++ h :: t = rest → p (pre ++ a) h = true
  | [], pre => by
    simp only [okFrom, true_iff]
    intro a h t e
    simp at e
  | x :: t, pre => by
    simp only [okFrom, Bool.and_eq_true]
    rw [okFrom_iff p t (pre ++ [x])]
    constructor
    · rintro ⟨h1, h2⟩ a h t' e
      cases a with
      | nil =>
        simp only [List.nil_append, List.cons.injEq] at e
        obtain ⟨rfl, rfl⟩ := e
        simpa using h1
      | cons y a =>
        simp only [List.cons_append, List.cons.injEq] at e
        obtain ⟨rfl, e⟩ := e
        have := h2 a h t' e
        simpa using this
    · intro h
      refine ⟨by simpa using h [] x t rfl, fun a h' t' e => ?_⟩
      have := h (x :: a) h' t' (by simp [e])
      simpa using this
theorem all_cm {α ρ : Type} {L : Nat → Int → Option ρ} (xs : List α) (p : List α → α → Bool) {fin no : ρ}
    (hstep : ∀ pre h t, pre ++ h :: t = xs → pre.length < xs.length → p pre h = true → ∀ v, Cm (fun k => L k ((pre.length + 1 : Nat) : Int)) v → Cm (fun k => L k (pre.length : Int)) v)
    (hno : ∀ pre h t, pre ++ h :: t = xs → pre.length < xs.length → p pre h = false → Cm (fun k => L k (pre.length : Int)) no)
    (hend : okFrom p [] xs = true → Cm (fun k => L k (xs.length : Int)) fin) : Cm (fun k => L k 0) (if okFrom p [] xs = true then fin else no) := by
  have key : ∀ (rest pre : List α), pre ++ rest = xs → (okFrom p pre rest = okFrom p [] xs) → Cm (fun k => L k (pre.length : Int)) (if okFrom p pre rest = true then fin else no) := by
    intro rest
    induction rest with
    | nil =>
      intro pre e h
      rw [List.append_nil] at e
      subst e
      simp only [okFrom, if_true] at h ⊢
      exact hend h.symm
    | cons x t ih =>
      intro pre e h
      by_cases c : p pre x = true
      · have h2 : okFrom p pre (x :: t) = okFrom p (pre ++ [x]) t := by simp only [okFrom, c, Bool.true_and]
        rw [h2] at h ⊢
        have h3 := ih (pre ++ [x]) (app_mid e) h
        rw [len_one] at h3
        exact hstep pre x t e (len_mid e) c _ h3
      · have c2 : p pre x = false := by simpa using c
        have h2 : okFrom p pre (x :: t) = false := by simp only [okFrom, c2, Bool.false_and]
        rw [h2]
        simpa using hno pre x t e (len_mid e) c2
  exact key xs [] rfl rfl
theorem okFrom_append {α : Type} (p : List α → α → Bool) : ∀ (b a c : List α), okFrom p a (b ++ c) = (okFrom p a b && okFrom p (a ++ b) c)
  | [], a, c => by simp [okFrom]
  | x :: b, a, c => by simp only [List.cons_append, okFrom, okFrom_append p b (a ++ [x]) c, Bool.and_assoc, List.append_assoc, List.nil_append]
theorem allp_cm {α ρ : Type} {L : Nat → Int → Option ρ} (xs : List α) (p : List α → α → Bool) {fin no : ρ}
    (hstep : ∀ pre h t, pre ++ h :: t = xs → pre.length < xs.length → okFrom p [] pre = true → p pre h = true → ∀ v, Cm (fun k => L k ((pre.length + 1 : Nat) : Int)) v → Cm (fun k => L k (pre.length : Int)) v)
    (hno : ∀ pre h t, pre ++ h :: t = xs → pre.length < xs.length → okFrom p [] pre = true → p pre h = false → Cm (fun k => L k (pre.length : Int)) no)
    (hend : okFrom p [] xs = true → Cm (fun k => L k (xs.length : Int)) fin) : Cm (fun k => L k 0) (if okFrom p [] xs = true then fin else no) := by
  have key : ∀ (rest pre : List α), pre ++ rest = xs → okFrom p [] pre = true → Cm (fun k => L k (pre.length : Int)) (if okFrom p [] xs = true then fin else no) := by
    intro rest
    induction rest with
    | nil =>
      intro pre e h
      rw [List.append_nil] at e
      subst e
      rw [if_pos h]
      exact hend h
    | cons x t ih =>
      intro pre e h
      have h1 := okFrom_append p pre [] [x]
      have h2 := okFrom_append p pre [] (x :: t)
      rw [e] at h2
      simp only [okFrom, h, Bool.true_and, Bool.and_true, List.nil_append] at h1 h2
      by_cases c : p pre x = true
      · have h3 := ih (pre ++ [x]) (app_mid e) (by rw [h1, c])
        rw [len_one] at h3
        exact hstep pre x t e (len_mid e) h c _ h3
      · have c2 : p pre x = false := by simpa using c
        rw [h2, c2, Bool.false_and]
        simpa using hno pre x t e (len_mid e) h c2
  exact key xs [] rfl rfl
theorem okFrom_all {α : Type} (p : α → Bool) : ∀ (rest pre : List α), okFrom (fun _ h => p h) pre rest = rest.all p
  | [], _ => rfl
  | x :: t, pre => by simp only [okFrom, List.all_cons, okFrom_all p t]
theorem every_cm {α ρ : Type} {L : Nat → Int → Option ρ} (xs : List α) (p : α → Bool) {fin no : ρ}
    (hstep : ∀ pre h t, pre ++ h :: t = xs → pre.length < xs.length → p h = true → ∀ v, Cm (fun k => L k ((pre.length + 1 : Nat) : Int)) v → Cm (fun k => L k (pre.length : Int)) v)
    (hno : ∀ pre h t, pre ++ h :: t = xs → pre.length < xs.length → p h = false → Cm (fun k => L k (pre.length : Int)) no)
    (hend : xs.all p = true → Cm (fun k => L k (xs.length : Int)) fin) : Cm (fun k => L k 0) (if xs.all p = true then fin else no) := by
  have := all_cm (L := L) xs (fun _ h => p h) hstep hno (by rw [okFrom_all]; exact hend)
  rw [okFrom_all] at this
  exact this
def foundAt {α ρ : Type} (p : α → Bool) (found : Nat → α → ρ) (none_ : ρ) : Nat → List α → ρ
  | _, [] => none_
  | i, h :: t => if p h = true then found i h else foundAt p found none_ (i + 1) t
theorem find_cm {α ρ : Type} {L : Nat → Int → Option ρ} (xs : List α) (p : α → Bool) (found : Nat → α → ρ) {none_ : ρ}
    (hstep : ∀ pre h t, pre ++ h :: t = xs → pre.length < xs.length → p h = false → ∀ v, Cm (fun k => L k ((pre.length + 1 : Nat) : Int)) v → Cm (fun k => L k (pre.length : Int)) v)
    (hyes : ∀ pre h t, pre ++ h :: t = xs → pre.length < xs.length → p h = true → Cm (fun k => L k (pre.length : Int)) (found pre.length h))
    (hend : Cm (fun k => L k (xs.length : Int)) none_) : Cm (fun k => L k 0) (foundAt p found none_ 0 xs) := by
  have key : ∀ (rest pre : List α), pre ++ rest = xs → Cm (fun k => L k (pre.length : Int)) (foundAt p found none_ pre.length rest) := by
    intro rest
    induction rest with
    | nil =>
      intro pre e
      rw [List.append_nil] at e
      subst e
      exact hend
    | cons x t ih =>
      intro pre e
      unfold foundAt
      by_cases c : p x = true
      · rw [if_pos c]
        exact hyes pre x t e (len_mid e) c
      · rw [if_neg c]
        have h3 := ih (pre ++ [x]) (app_mid e)
        rw [len_one] at h3
        exact hstep pre x t e (len_mid e) (by simpa using c) _ h3
  exact key xs [] rfl
theorem foundAt_split {α : Type} (p : α → Bool) : ∀ (l : List α) (i : Nat), (foundAt p (fun i _ => (i : Int)) (-1) i l = -1 ∧ ∀ x ∈ l, p x = false) ∨ ∃ a x b, l = a ++ x :: b ∧ p x = true ∧ (∀ y ∈ a, p y = false) ∧ foundAt p (fun i _ => (i : Int)) (-1) i l = ((i + a.length : Nat) : Int)
  | [], i => .inl ⟨rfl, by simp⟩
  | h :: t, i => by
    unfold foundAt
    by_cases c : p h = true
    · rw [if_pos c]
      exact .inr ⟨[], h, t, rfl, c, by simp, by simp⟩
    · rw [if_neg c]
      have c2 : p h = false := by simpa using c
      rcases foundAt_split p t (i + 1) with ⟨h1, h2⟩ | ⟨a, x, b, e, h1, h2, h3⟩
      · refine .inl ⟨h1, fun x hx => ?_⟩
        rcases List.mem_cons.1 hx with rfl | hx
        · exact c2
        · exact h2 x hx
      · refine .inr ⟨h :: a, x, b, by rw [e]; rfl, h1, fun y hy => ?_, by rw [h3]; simp only [List.length_cons]; omega⟩
        rcases List.mem_cons.1 hy with rfl | hy
        · exact c2
        · exact h2 y hy
theorem found_any {α : Type} (p : α → Bool) : ∀ (l : List α) (i : Nat), decide (foundAt p (fun i _ => (i : Int)) (-1) i l ≥ 0) = l.any p
  | [], _ => by simp [foundAt]
  | h :: t, i => by
    unfold foundAt
    by_cases c : p h = true
    · rw [if_pos c]; simp [c]
    · rw [if_neg c, found_any p t (i + 1)]; simp [c]
theorem not_any {α : Type} (p q : α → Bool) (l : List α) (h : ∀ x ∈ l, p x = !q x) : (!l.any p) = l.all q := by
  induction l with
  | nil => rfl
  | cons x t ih => rw [List.any_cons, List.all_cons, h x (by simp), ← ih (fun y hy => h y (by simp [hy]))]; cases q x <;> simp
theorem same_cm {α ρ : Type} {L : Nat → Int → Option ρ} (xs : List α) {fin : ρ}
    (hstep : ∀ pre h t, pre ++ h :: t = xs → pre.length < xs.length → ∀ v, Cm (fun k => L k ((pre.length + 1 : Nat) : Int)) v → Cm (fun k => L k (pre.length : Int)) v)
    (hend : Cm (fun k => L k (xs.length : Int)) fin) : Cm (fun k => L k 0) fin := by
  have := every_cm (L := L) xs (fun _ => true) (fin := fin) (no := fin) (fun pre h t e hl _ => hstep pre h t e hl) (fun _ _ _ _ _ hp => by cases hp) (fun _ => hend)
  have h : (xs.all fun _ => true) = true := by simp
  rw [if_pos h] at this
  exact this
theorem map_cm {α β : Type} {L : Nat → Int → List β → Option (List β)} (xs : List α) (c : α → β) (z : β)
    (hstep : ∀ pre h t acc, pre ++ h :: t = xs → pre.length < xs.length → acc.length = xs.length → ∀ u, Cm (fun k => L k ((pre.length + 1 : Nat) : Int) (acc.set pre.length (c h))) u → Cm (fun k => L k (pre.length : Int) acc) u)
    (hend : ∀ acc, acc.length = xs.length → Cm (fun k => L k (xs.length : Int) acc) acc) : Cm (fun k => L k 0 (List.replicate xs.length z)) (xs.map c) := by
  have key : ∀ (rest pre : List α) (tl : List β), pre ++ rest = xs → tl.length = rest.length → Cm (fun k => L k (pre.length : Int) (pre.map c ++ tl)) (xs.map c) := by
    intro rest
    induction rest with
    | nil =>
      intro pre tl e ht
      have ht2 : tl = [] := List.length_eq_zero_iff.1 ht
      rw [List.append_nil] at e
      subst ht2 e
      rw [List.append_nil]
      exact hend _ (by simp)
    | cons h t ih =>
      intro pre tl e ht
      match tl, ht with
      | y :: tl, ht =>
        refine hstep pre h t _ e (len_mid e) (by rw [← e]; simp at ht ⊢; omega) _ ?_
        have e2 : (pre.map c ++ y :: tl).set pre.length (c h) = (pre ++ [h]).map c ++ tl := by
          have : pre.length = (pre.map c).length := by simp
          rw [this]
          simp
        rw [e2]
        have := ih (pre ++ [h]) tl (app_mid e) (by simpa using ht)
        rw [len_one] at this
        exact this
  have := key xs [] (List.replicate xs.length z) rfl (by simp)
  simpa using this
theorem cm_if {α : Type} {c : Prop} [Decidable c] {x y : Nat → Option α} {v : α} (h : c → Cm x v) (h2 : ¬ c → Cm y v) : Cm (fun k => if c then x k else y k) v := by
  by_cases hc : c
  · exact cm_yes hc (h hc)
  · exact cm_no hc (h2 hc)
theorem getD_at {α : Type} {pre t l : List α} {h : α} (e : pre ++ h :: t = l) (d : α) : l.getD ((pre.length : Int)).toNat d = h := by
  rw [← e]; simp
theorem take_len {α : Type} {pre t l : List α} (e : pre ++ t = l) : l.take pre.length = pre := by
  rw [← e]; simp
theorem cm_val {α : Type} {f : Nat → Option α} {u v : α} (h : Cm f u) (e : u = v) : Cm f v := e ▸ h
end Go.Proofs.Ytinbfclfglogmaa.Lp
end
section
namespace Go.Proofs.Ytinbfclfglogmaa.Hs
open Go.RowKit Go.Proofs.Ytinbfclfglogmaa.P Go.Proofs.YtinbfclfglogmaaW.PrintWords Go.Proofs.YtinbfclfglogmaaW.PrintLast Go.Proofs.YtinbfclfglogmaaW.PrintMore
open Go.Proofs.Ytinbfclfglogmaa.Pl Go.Proofs.Ytinbfclfglogmaa.EvN Go.Proofs.Ytinbfclfglogmaa.Lp
set_option linter.unusedSimpArgs false
set_option linter.unusedVariables false
theorem eqIntS_same (l : List Int) (h : l.length ≤ 4611686018427387904) : Cm (fun k => laws_eqIntS.f k l l) true := by
  unfold laws_eqIntS.f
  refine cm_yes rfl ?_
  refine same_cm (L := fun k i => laws_eqIntS.l0 k l l i) l ?_ ?_
  · intro pre x t e hlt v hv
    refine cm_step (fun k => by rw [laws_eqIntS.l0]) ?_
    simp only [rd_at e, wrap_len hlt h]
    repeat (first | assumption | exact cm_now (fun _ => rfl) | refine cm_yes (by first | omega | assumption | (simp; done) | (simp; omega) | exact rfl) ?_ | refine cm_no (by first | omega | assumption | (simp; done) | (simp; omega) | exact rfl) ?_)
  · refine cm_step (fun k => by rw [laws_eqIntS.l0]) ?_
    repeat (first | assumption | exact cm_now (fun _ => rfl) | refine cm_yes (by first | omega | assumption | (simp; done) | (simp; omega)) ?_ | refine cm_no (by first | omega | assumption | (simp; done) | (simp; omega)) ?_)
end Go.Proofs.Ytinbfclfglogmaa.Hs
end
section
namespace Go.Proofs.Ytinbfclfglogmaa.Hg
open Go.RowKit Go.Proofs.Ytinbfclfglogmaa.P Go.Proofs.YtinbfclfglogmaaW.PrintWords Go.Proofs.YtinbfclfglogmaaW.PrintLast Go.Proofs.YtinbfclfglogmaaW.PrintMore
open Go.Proofs.Ytinbfclfglogmaa.Pl Go.Proofs.Ytinbfclfglogmaa.EvN Go.Proofs.Ytinbfclfglogmaa.Lp Go.Proofs.Ytinbfclfglogmaa.Hs
set_option linter.unusedSimpArgs false
set_option linter.unusedVariables false
theorem rdT69_at {pre t l : List S69} {h : S69} (e : pre ++ h :: t = l) : rd_T69 l (pre.length : Int) = h := getD_at e _
theorem rdT65_at {pre t l : List S65} {h : S65} (e : pre ++ h :: t = l) : rd_T65 l (pre.length : Int) = h := getD_at e _
def cEvent (x : S69) : S65 := ⟨x.f0, x.f1, x.f2⟩
def smEvent (x : S65) : Prop := (True) ∧ (True) ∧ (True)
theorem sm_cEvent (x : S69) (h : ok69 x) : smEvent (cEvent x) := by
  obtain ⟨h0, h1, h2⟩ := h
  exact ⟨trivial, trivial, trivial⟩
theorem smS_cEvent (l : List S69) (h : l.length ≤ maxLen ∧ l.length * 24 ≤ 140737488351232 ∧ ∀ x_ ∈ l, ok69 x_) : (l.map cEvent).length ≤ 4611686018427387904 ∧ ∀ y ∈ l.map cEvent, smEvent y :=
  ⟨by have := h.2.1; simp only [List.length_map]; omega, fun y hy => by obtain ⟨z, hz, rfl⟩ := List.mem_map.1 hy; exact sm_cEvent z (h.2.2 z hz)⟩
theorem toEvent_f (x : S69) (h : ok69 x) : Cm (fun k => laws_toEvent.f x.f0 x.f1 x.f2) ((cEvent x).f0, (cEvent x).f1, (cEvent x).f2) := by
  obtain ⟨h0, h1, h2⟩ := h
  unfold laws_toEvent.f
  exact cm_now fun _ => rfl
theorem toEventS_f (l : List S69) (h : l.length ≤ maxLen ∧ l.length * 24 ≤ 140737488351232 ∧ ∀ x_ ∈ l, ok69 x_) : Cm (fun k => laws_toEventS.f k l) (l.map cEvent) := by
  have hl := h.2.1
  unfold laws_toEventS.f
  refine cm_yes (by omega) (cm_yes (by omega) ?_)
  rw [Int.toNat_natCast]
  refine map_cm (L := fun k i s => laws_toEventS.l0 k l s i) l cEvent z65 ?_ ?_
  · intro pre x t acc e hlt ha u hu
    have hx := h.2.2 x (by rw [← e]; simp)
    refine cm_step (fun k => by rw [laws_toEventS.l0]) ?_
    simp only [rdT69_at e, wrap_len hlt (show l.length ≤ 4611686018427387904 by omega), Int.toNat_natCast]
    refine cm_yes (by omega) (cm_yes (by omega) (cm_bind (toEvent_f x hx) (cm_yes (by omega) ?_)))
    exact hu
  · intro acc ha
    refine cm_step (fun k => by rw [laws_toEventS.l0]) ?_
    exact cm_no (by omega) (cm_now fun _ => rfl)
theorem eqEvent_same (x : S65) (h : smEvent x) : Cm (fun k => laws_eqEvent.f x.f0 x.f1 x.f2 x.f0 x.f1 x.f2) true := by
  obtain ⟨h0, h1, h2⟩ := h
  unfold laws_eqEvent.f
  exact cm_yes rfl (cm_yes rfl (cm_yes rfl (cm_now fun _ => rfl)))
theorem eqEventS_same (l : List S65) (h : l.length ≤ 4611686018427387904 ∧ ∀ y ∈ l, smEvent y) : Cm (fun k => laws_eqEventS.f k l l) true := by
  unfold laws_eqEventS.f
  refine cm_yes rfl ?_
  refine same_cm (L := fun k i => laws_eqEventS.l0 k l l i) l ?_ ?_
  · intro pre x t e hlt v hv
    have hx := h.2 x (by rw [← e]; simp)
    refine cm_step (fun k => by rw [laws_eqEventS.l0]) ?_
    simp only [rdT65_at e, wrap_len hlt h.1]
    exact cm_yes (by omega) (cm_yes (by omega) (cm_yes (by omega) (cm_bind (eqEvent_same x hx) (cm_yes rfl hv))))
  · refine cm_step (fun k => by rw [laws_eqEventS.l0]) ?_
    exact cm_no (by omega) (cm_now fun _ => rfl)
end Go.Proofs.Ytinbfclfglogmaa.Hg
end
section
namespace Go.Proofs.Ytinbfclfglogmaa.Hs
open Go.RowKit Go.Proofs.Ytinbfclfglogmaa.P Go.Proofs.YtinbfclfglogmaaW.PrintWords Go.Proofs.YtinbfclfglogmaaW.PrintLast Go.Proofs.YtinbfclfglogmaaW.PrintMore
open Go.Proofs.Ytinbfclfglogmaa.Pl Go.Proofs.Ytinbfclfglogmaa.EvN Go.Proofs.Ytinbfclfglogmaa.Lp
set_option linter.unusedSimpArgs false
set_option linter.unusedVariables false
theorem rdL_at {pre t l : List (List Int)} {h : List Int} (e : pre ++ h :: t = l) : rd_L1 l (pre.length : Int) = h := getD_at e _
theorem eqIntSS_same (l : List (List Int)) (h : l.length ≤ 4611686018427387904) (hs : ∀ x ∈ l, x.length ≤ 4611686018427387904) : Cm (fun k => laws_eqIntSS.f k l l) true := by
  unfold laws_eqIntSS.f
  refine cm_yes rfl ?_
  refine same_cm (L := fun k i => laws_eqIntSS.l0 k l l i) l ?_ ?_
  · intro pre x t e hlt v hv
    have hx := hs x (by rw [← e]; simp)
    refine cm_step (fun k => by rw [laws_eqIntSS.l0]) ?_
    simp only [rdL_at e, wrap_len hlt h]
    repeat (first | assumption | exact cm_now (fun _ => rfl) | refine cm_bind (eqIntS_same _ hx) ?_ | refine cm_yes (by first | omega | assumption | (simp; done) | (simp; omega) | exact rfl) ?_ | refine cm_no (by first | omega | assumption | (simp; done) | (simp; omega) | exact rfl) ?_)
  · refine cm_step (fun k => by rw [laws_eqIntSS.l0]) ?_
    repeat (first | assumption | exact cm_now (fun _ => rfl) | refine cm_yes (by first | omega | assumption | (simp; done) | (simp; omega)) ?_ | refine cm_no (by first | omega | assumption | (simp; done) | (simp; omega)) ?_)
end Go.Proofs.Ytinbfclfglogmaa.Hs
end
section
namespace Go.Proofs.Ytinbfclfglogmaa.Sz
open Go.RowKit Go.Proofs.Ytinbfclfglogmaa.P Go.Proofs.YtinbfclfglogmaaW.PrintWords Go.Proofs.YtinbfclfglogmaaW.PrintLast Go.Proofs.YtinbfclfglogmaaW.PrintMore
open Go.Proofs.Ytinbfclfglogmaa.Pl Go.Proofs.Ytinbfclfglogmaa.EvN Go.Proofs.Ytinbfclfglogmaa.Lp Go.Proofs.Ytinbfclfglogmaa.Hs
set_option linter.unusedVariables false
set_option linter.unusedSimpArgs false
theorem off_wrap {n : Nat} {m : Int} (h0 : 0 ≤ m) (h1 : m ≤ 1099511627776) (h : n ≤ 4611686018427387904) : wrap64 (m - (n : Int)) = m - (n : Int) := wrap_in (by omega) (by omega)
theorem tot_map {α β : Type} (c : β → Nat) (g : α → β) (w : α → Nat) (l : List α) (h : ∀ x ∈ l, c (g x) ≤ 10 * (1 + w x)) : Mk.tot c (l.map g) ≤ 10 * (l.length + (l.map w).sum) := by
  induction l with
  | nil => exact Nat.zero_le _
  | cons x l ih =>
    have := ih (fun y hy => h y (List.mem_cons_of_mem _ hy))
    have := h x List.mem_cons_self
    unfold Mk.tot at *
    simp only [List.map_cons, List.sum_cons, List.length_cons] at *
    omega
theorem tot_le {α : Type} (c : α → Nat) (m : Nat) : ∀ (l : List α), (∀ x ∈ l, c x ≤ m) → Mk.tot c l ≤ m * l.length
  | [], _ => Nat.zero_le _
  | x :: l, h => by
    have := tot_le c m l (fun y hy => h y (List.mem_cons_of_mem _ hy))
    have := h x List.mem_cons_self
    unfold Mk.tot at *
    simp only [List.map_cons, List.sum_cons, List.length_cons, Nat.mul_succ]
    omega
end Go.Proofs.Ytinbfclfglogmaa.Sz
end
section
namespace Go.Proofs.Ytinbfclfglogmaa.Sz
open Go.RowKit Go.Proofs.Ytinbfclfglogmaa.P Go.Proofs.YtinbfclfglogmaaW.PrintWords Go.Proofs.YtinbfclfglogmaaW.PrintLast Go.Proofs.YtinbfclfglogmaaW.PrintMore
open Go.Proofs.Ytinbfclfglogmaa.Pl Go.Proofs.Ytinbfclfglogmaa.EvN Go.Proofs.Ytinbfclfglogmaa.Lp Go.Proofs.Ytinbfclfglogmaa.Hs Go.Proofs.Ytinbfclfglogmaa.Hg
set_option linter.unusedSimpArgs false
set_option linter.unusedVariables false
def wEvent (x : S69) : Nat := 0
def wEventS (l : List S69) : Nat := l.length + (l.map wEvent).sum
theorem szEventS_wt (l : List S69) (h : l.length ≤ maxLen ∧ l.length * 24 ≤ 140737488351232 ∧ ∀ x_ ∈ l, ok69 x_) (m : Int) (hm0 : 0 ≤ m) (hm1 : m ≤ 1099511627776) : ∃ v, Cm (fun k => laws_szEventS.f l m) v ∧ (v < 0 ∨ v + (wEventS l : Int) = m) := by
  have hl := h.2.1
  unfold laws_szEventS.f wEventS
  rw [off_wrap hm0 hm1 (by omega)]
  by_cases c : m - (l.length : Int) < 0
  · exact ⟨_, cm_yes c (cm_now fun _ => rfl), .inl (by omega)⟩
  · refine ⟨_, cm_no c (cm_now fun _ => rfl), .inr ?_⟩
    have e0 : (l.map wEvent).sum = 0 := by
      clear h hl c
      induction l with
      | nil => rfl
      | cons y l ih => rw [List.map_cons, List.sum_cons, ih]; rfl
    rw [e0]
    push_cast
    omega
theorem pcEvent_le (x : S69) : Mk.pcEvent (cEvent x) ≤ 10 * (1 + wEvent x) := by
  simp only [Mk.pcEvent, cEvent, wEvent]
  omega
theorem totEvent_le (l : List S69) : Mk.tot Mk.pcEvent (l.map cEvent) ≤ 10 * wEventS l := tot_map _ _ _ _ (fun y _ => pcEvent_le y)
end Go.Proofs.Ytinbfclfglogmaa.Sz
end
section
namespace Go.Proofs.Ytinbfclfglogmaa.Sets
open Go.RowKit Go.Proofs.YtinbfclfglogmaaW.PrintWords Go.Proofs.YtinbfclfglogmaaW.PrintLast Go.Proofs.YtinbfclfglogmaaW.PrintMore
open Go.Proofs.Ytinbfclfglogmaa.Pl Go.Proofs.Ytinbfclfglogmaa.EvN Go.Proofs.Ytinbfclfglogmaa.Lp
set_option linter.unusedSimpArgs false
set_option linter.unusedVariables false
end Go.Proofs.Ytinbfclfglogmaa.Sets
end
section
namespace Go.Proofs.Ytinbfclfglogmaa.Mem
open Go.RowKit Go.Proofs.Ytinbfclfglogmaa.P Go.Proofs.YtinbfclfglogmaaW.PrintWords Go.Proofs.YtinbfclfglogmaaW.PrintLast Go.Proofs.YtinbfclfglogmaaW.PrintMore
open Go.Proofs.Ytinbfclfglogmaa.Pl Go.Proofs.Ytinbfclfglogmaa.EvN Go.Proofs.Ytinbfclfglogmaa.Lp Go.Proofs.Ytinbfclfglogmaa.Sets
set_option linter.unusedSimpArgs false
set_option linter.unusedVariables false
theorem in_f (a b c : Int) : impl_in.f a b c = some (decide (b ≤ a ∧ a ≤ c)) := by
  unfold impl_in.f
  by_cases h : a ≥ b
  · rw [if_pos h]; congr 1; rw [decide_eq_decide]; omega
  · rw [if_neg h]; congr 1; symm; rw [decide_eq_false_iff_not]; omega
theorem l1In_f (a b c : Int) : spec_l1In.f a b c = some (decide (b ≤ a ∧ a ≤ c)) := by
  unfold spec_l1In.f
  by_cases h : a ≥ b
  · rw [if_pos h]; congr 1; rw [decide_eq_decide]; omega
  · rw [if_neg h]; congr 1; symm; rw [decide_eq_false_iff_not]; omega
end Go.Proofs.Ytinbfclfglogmaa.Mem
end
section
namespace Go.Proofs.Ytinbfclfglogmaa.Events
open Go.RowKit Go.Proofs.Ytinbfclfglogmaa.P Go.Proofs.YtinbfclfglogmaaW.PrintWords Go.Proofs.YtinbfclfglogmaaW.PrintLast Go.Proofs.YtinbfclfglogmaaW.PrintMore
open Go.Proofs.Ytinbfclfglogmaa.Pl Go.Proofs.Ytinbfclfglogmaa.EvN Go.Proofs.Ytinbfclfglogmaa.Lp Go.Proofs.Ytinbfclfglogmaa.Mem Go.Proofs.Ytinbfclfglogmaa.Xm Go.Proofs.Ytinbfclfglogmaa.Hg
set_option linter.unusedSimpArgs false
set_option linter.unusedVariables false
def sends (l : List S65) : List (Int × Int) := (l.filter (fun x => x.f1 == 2)).map (fun x => (x.f2, x.f0))
def takes (l : List S65) : List Int := (l.filter (fun x => x.f1 == 3)).map (fun x => x.f2)
def good1 (procs : Int) (pre : List S65) (h : S65) : Bool :=
  decide (0 ≤ h.f0 ∧ h.f0 ≤ procs - 1) && (if h.f1 = 1 then h.f2 == 0 else if h.f1 = 2 then decide (1 ≤ h.f2 ∧ h.f2 ≤ 24) && !anyS (sends pre) h.f2 else if h.f1 = 3 then anyS (sends pre) h.f2 && (lastS (sends pre) h.f2 != h.f0) && !decide (h.f2 ∈ takes pre) else false)
def good (procs : Int) (l : List S65) : Bool := okFrom (good1 procs) [] l && decide ((1 ≤ procs ∧ procs ≤ 5) ∧ l.length ≤ 24)
theorem good_iff {procs : Int} {l : List S65} : good procs l = true ↔ okFrom (good1 procs) [] l = true ∧ (1 ≤ procs ∧ procs ≤ 5) ∧ l.length ≤ 24 := by
  simp [good]
theorem sends_snoc (l : List S65) (x : S65) : sends (l ++ [x]) = sends l ++ (if x.f1 = 2 then [(x.f2, x.f0)] else []) := by
  unfold sends
  rw [List.filter_append, List.map_append]
  by_cases c : x.f1 = 2 <;> simp [c]
theorem takes_snoc (l : List S65) (x : S65) : takes (l ++ [x]) = takes l ++ (if x.f1 = 3 then [x.f2] else []) := by
  unfold takes
  rw [List.filter_append, List.map_append]
  by_cases c : x.f1 = 3 <;> simp [c]
theorem go_f (procs : Int) (hp : 1 ≤ procs ∧ procs ≤ 5) : ∀ (rest pre : List S65), (∀ x ∈ rest, (Lit.int .i64 x.f0).wf = true ∧ (Lit.int .i64 x.f2).wf = true) →
    impl_areEvents.go procs (sends pre) (takes pre) rest = some (okFrom (good1 procs) pre rest)
  | [], pre, _ => rfl
  | h :: t, pre, hw => by
    have hw0 := hw h (by simp)
    have ih := go_f procs hp t (pre ++ [h]) (fun x hx => hw x (by simp [hx]))
    rw [impl_areEvents.go, if_pos hw0.2, if_pos hw0.1, in_f, wrap_in (by omega) (by omega)]
    simp only [Option.bind_some, okFrom]
    by_cases c1 : h.f1 = 1
    · rw [if_pos c1]
      have e1 : good1 procs pre h = (decide (0 ≤ h.f0 ∧ h.f0 ≤ procs - 1) && h.f2 == 0) := by unfold good1; rw [if_pos c1]
      have e2 : sends (pre ++ [h]) = sends pre := by rw [sends_snoc, if_neg (by omega), List.append_nil]
      have e3 : takes (pre ++ [h]) = takes pre := by rw [takes_snoc, if_neg (by omega), List.append_nil]
      rw [e2, e3] at ih
      rw [e1]
      by_cases c : (decide (0 ≤ h.f0 ∧ h.f0 ≤ procs - 1) && h.f2 == 0) = true
      · rw [if_pos c, ih, c, Bool.true_and]
      · rw [if_neg c]
        have c' : (decide (0 ≤ h.f0 ∧ h.f0 ≤ procs - 1) && h.f2 == 0) = false := by simpa using c
        rw [c', Bool.false_and]
    · rw [if_neg c1]
      by_cases c2 : h.f1 = 2
      · rw [if_pos c2, in_f]
        simp only [Option.bind_some]
        have e1 : good1 procs pre h = (decide (0 ≤ h.f0 ∧ h.f0 ≤ procs - 1) && decide (1 ≤ h.f2 ∧ h.f2 ≤ 24) && !anyS (sends pre) h.f2) := by unfold good1; rw [if_neg c1, if_pos c2, Bool.and_assoc]
        have e2 : sends (pre ++ [h]) = sends pre ++ [(h.f2, h.f0)] := by rw [sends_snoc, if_pos c2]
        have e3 : takes (pre ++ [h]) = takes pre := by rw [takes_snoc, if_neg (by omega), List.append_nil]
        rw [e2, e3] at ih
        rw [e1]
        by_cases c : (decide (0 ≤ h.f0 ∧ h.f0 ≤ procs - 1) && decide (1 ≤ h.f2 ∧ h.f2 ≤ 24) && !anyS (sends pre) h.f2) = true
        · rw [if_pos c, ih, c, Bool.true_and]
        · rw [if_neg c]
          have c' : (decide (0 ≤ h.f0 ∧ h.f0 ≤ procs - 1) && decide (1 ≤ h.f2 ∧ h.f2 ≤ 24) && !anyS (sends pre) h.f2) = false := by simpa using c
          rw [c', Bool.false_and]
      · rw [if_neg c2]
        by_cases c3 : h.f1 = 3
        · rw [if_pos c3]
          have e1 : good1 procs pre h = (decide (0 ≤ h.f0 ∧ h.f0 ≤ procs - 1) && anyS (sends pre) h.f2 && (lastS (sends pre) h.f2 != h.f0) && !decide (h.f2 ∈ takes pre)) := by unfold good1; rw [if_neg c1, if_neg c2, if_pos c3]; simp only [Bool.and_assoc]
          have e2 : sends (pre ++ [h]) = sends pre := by rw [sends_snoc, if_neg (by omega), List.append_nil]
          have e3 : takes (pre ++ [h]) = takes pre ++ [h.f2] := by rw [takes_snoc, if_pos c3]
          rw [e2, e3] at ih
          rw [e1]
          by_cases c : (decide (0 ≤ h.f0 ∧ h.f0 ≤ procs - 1) && anyS (sends pre) h.f2 && (lastS (sends pre) h.f2 != h.f0) && !decide (h.f2 ∈ takes pre)) = true
          · rw [if_pos c, ih, c, Bool.true_and]
          · rw [if_neg c]
            have c' : (decide (0 ≤ h.f0 ∧ h.f0 ≤ procs - 1) && anyS (sends pre) h.f2 && (lastS (sends pre) h.f2 != h.f0) && !decide (h.f2 ∈ takes pre)) = false := by simpa using c
            rw [c', Bool.false_and]
        · rw [if_neg c3]
          have e1 : good1 procs pre h = false := by unfold good1; rw [if_neg c1, if_neg c2, if_neg c3, Bool.and_false]
          rw [e1, Bool.false_and]
def Wf (l : List S65) : Prop := ∀ x ∈ l, (Lit.int .i64 x.f0).wf = true ∧ (Lit.int .i64 x.f2).wf = true
theorem areEvents_f (procs : Int) (l : List S65) (hw : Wf l) : impl_areEvents.f procs l = some (good procs l) := by
  unfold impl_areEvents.f
  rw [in_f]
  simp only [Option.bind_some]
  by_cases hp : 1 ≤ procs ∧ procs ≤ 5
  · rw [if_pos (by simpa using hp)]
    by_cases hl : l.length ≤ 24
    · rw [if_neg (by omega)]
      have := go_f procs hp l [] hw
      simp only [sends, takes, List.filter_nil, List.map_nil] at this
      rw [this]
      simp [good, hp, hl]
    · rw [if_pos (by omega)]
      simp [good, hl]
  · rw [if_neg (by simpa using hp)]
    simp [good, hp]
def isSend (m : Int) (x : S65) : Bool := x.f1 == 2 && x.f2 == m
def sendIdx (l : List S65) (m : Int) : Int := foundAt (isSend m) (fun i _ => (i : Int)) (-1) 0 l
theorem anyS_sends (l : List S65) (m : Int) : anyS (sends l) m = l.any (isSend m) := by
  induction l with
  | nil => rfl
  | cons x t ih =>
    have e : anyS (sends (x :: t)) m = (isSend m x || anyS (sends t) m) := by
      unfold sends isSend anyS
      by_cases c : x.f1 = 2
      · by_cases c2 : x.f2 = m <;> simp [c, c2]
      · simp [c]
    rw [e, ih, List.any_cons]
theorem lastS_none (S : List (Int × Int)) (m : Int) : ∀ a : Int, S.any (fun p => decide (p.1 = m)) = false → S.foldl (fun a p => if p.1 = m then p.2 else a) a = a := by
  induction S with
  | nil => intro a _; rfl
  | cons p S ih =>
    intro a h
    simp only [List.any_cons, Bool.or_eq_false_iff, decide_eq_false_iff_not] at h
    rw [List.foldl_cons, if_neg h.1]
    exact ih a h.2
theorem lastS_sends (a : List S65) (x : S65) (b : List S65) (m : Int) (hx : isSend m x = true) (hb : ∀ y ∈ b, isSend m y = false) : lastS (sends (a ++ x :: b)) m = x.f0 := by
  have e : sends (a ++ x :: b) = sends a ++ (x.f2, x.f0) :: sends b := by
    unfold sends
    simp only [isSend, Bool.and_eq_true, beq_iff_eq] at hx
    rw [List.filter_append, List.map_append, List.filter_cons, if_pos (by simp [hx.1])]
    rfl
  simp only [isSend, Bool.and_eq_true, beq_iff_eq] at hx
  unfold lastS
  rw [e, List.foldl_append, List.foldl_cons, if_pos hx.2]
  refine lastS_none (sends b) m _ ?_
  have := anyS_sends b m
  unfold anyS at this
  rw [this]
  simpa using hb
theorem send_once {procs : Int} {l : List S65} (hg : okFrom (good1 procs) [] l = true) {a b : List S65} {x y : S65} {m : Int} (e : a ++ x :: b = l) (hx : isSend m x = true) (hy : y ∈ b) : isSend m y = false := by
  obtain ⟨b1, b2, rfl⟩ := List.append_of_mem hy
  have h1 := (okFrom_iff (good1 procs) l []).1 hg (a ++ x :: b1) y b2 (by rw [← e]; simp)
  rw [List.nil_append] at h1
  by_cases c : isSend m y = true
  · exfalso
    have cy := c
    simp only [isSend, Bool.and_eq_true, beq_iff_eq] at cy
    unfold good1 at h1
    rw [if_neg (by omega), if_pos cy.1, anyS_sends, cy.2] at h1
    have h2 : (a ++ x :: b1).any (isSend m) = true := by simp [hx]
    rw [h2] at h1
    simp at h1
  · simpa using c
theorem send_f (l : List S65) (m : Int) (i : Nat) (hi : i ≤ l.length) (hl : l.length ≤ 4611686018427387904) : Cm (fun k => spec_l7Send.f k l m (i : Int)) (sendIdx (l.take i) m) := by
  unfold spec_l7Send.f sendIdx
  have hl2 : (l.take i).length ≤ 4611686018427387904 := by rw [List.length_take]; omega
  refine cm_yes (by omega) (cm_yes (by omega) (cm_bind (t := l.take i) (cm_now fun _ => by simp) ?_))
  refine find_cm (L := fun k j => spec_l7Send.l0 k m (l.take i) ((l.take i).length : Int) j) (l.take i) (isSend m) (fun i _ => (i : Int)) (none_ := (-1 : Int)) ?_ ?_ ?_
  · intro pre h t e hlt hp v hv
    simp only [isSend, Bool.and_eq_false_iff, beq_eq_false_iff_ne, ne_eq] at hp
    refine cm_step (fun k => by rw [spec_l7Send.l0]) ?_
    simp only [rdT65_at e, wrap_len hlt hl2]
    refine cm_yes (by omega) (cm_yes (by omega) (cm_yes (by omega) (cm_if (fun c => cm_no ?_ hv) (fun _ => hv))))
    intro c2
    rcases hp with hp | hp
    · exact hp c
    · exact hp c2
  · intro pre h t e hlt hp
    simp only [isSend, Bool.and_eq_true, beq_iff_eq] at hp
    refine cm_step (fun k => by rw [spec_l7Send.l0]) ?_
    simp only [rdT65_at e, wrap_len hlt hl2]
    exact cm_yes (by omega) (cm_yes (by omega) (cm_yes (by omega) (cm_yes hp.1 (cm_yes hp.2 (cm_now fun _ => rfl)))))
  · refine cm_step (fun k => by rw [spec_l7Send.l0]) ?_
    repeat (first | assumption | exact cm_now (fun _ => rfl) | refine cm_yes (by first | omega | assumption | (simp; done) | (simp; omega)) ?_ | refine cm_no (by first | omega | assumption | (simp; done) | (simp; omega)) ?_)
theorem takes_any (l : List S65) (m : Int) : decide (m ∈ takes l) = l.any (fun x => x.f1 == 3 && x.f2 == m) := by
  unfold takes
  rw [Bool.eq_iff_iff]
  simp only [decide_eq_true_eq, List.mem_map, List.mem_filter, List.any_eq_true, Bool.and_eq_true, beq_iff_eq]
  constructor
  · rintro ⟨x, ⟨h1, h2⟩, h3⟩
    exact ⟨x, h1, h2, h3⟩
  · rintro ⟨x, h1, h2, h3⟩
    exact ⟨x, ⟨h1, h2⟩, h3⟩
theorem spec_l1 (procs : Int) (l : List S65) (hl : l.length ≤ 4611686018427387904) (pre : List S65) (h : S65) (t : List S65) (e : pre ++ h :: t = l) (hk : h.f1 = 3) (v : Bool) (hv : decide (h.f2 ∈ takes pre) = false → Cm (fun k => spec_GoodEvents.l0 k procs l l (l.length : Int) ((pre.length + 1 : Nat) : Int)) v) :
    Cm (fun k => spec_GoodEvents.l1 k procs l l (l.length : Int) (pre.length : Int) pre (pre.length : Int) 0 h.f0 h.f1 h.f2) (if decide (h.f2 ∈ takes pre) = true then false else v) := by
  have hlt := len_mid e
  have h1 := every_cm (L := fun k i => spec_GoodEvents.l1 k procs l l (l.length : Int) (pre.length : Int) pre (pre.length : Int) i h.f0 h.f1 h.f2) pre (fun x => !(x.f1 == 3 && x.f2 == h.f2)) (fin := v) (no := false) ?_ ?_ ?_
  · refine cm_val h1 ?_
    rw [takes_any]
    have := not_any (fun x : S65 => x.f1 == 3 && x.f2 == h.f2) (fun x => !(x.f1 == 3 && x.f2 == h.f2)) pre (fun x _ => by simp)
    rw [← this]
    cases pre.any (fun x : S65 => x.f1 == 3 && x.f2 == h.f2) <;> rfl
  · intro pre2 x t2 e2 hlt2 hp2 u hu
    simp only [Bool.not_eq_true', Bool.and_eq_false_iff, beq_eq_false_iff_ne, ne_eq] at hp2
    refine cm_step (fun k => by rw [spec_GoodEvents.l1]) ?_
    simp only [rdT65_at e2, wrap_len (n := pre2.length) (m := pre.length) hlt2 (by omega)]
    refine cm_yes (by omega) (cm_yes (by omega) (cm_yes (by omega) (cm_no ?_ (cm_if (fun c => cm_no ?_ hu) (fun _ => hu)))))
    · simp only [Bool.and_eq_true, beq_iff_eq]
      rintro ⟨_, z1, z2⟩
      rcases hp2 with hp2 | hp2
      · exact hp2 (z1.trans hk)
      · exact hp2 z2
    · intro c2
      rcases hp2 with hp2 | hp2
      · exact hp2 c
      · exact hp2 c2
  · intro pre2 x t2 e2 hlt2 hp2
    simp only [Bool.not_eq_false', Bool.and_eq_true, beq_iff_eq] at hp2
    refine cm_step (fun k => by rw [spec_GoodEvents.l1]) ?_
    simp only [rdT65_at e2, wrap_len (n := pre2.length) (m := pre.length) hlt2 (by omega)]
    refine cm_yes (by omega) (cm_yes (by omega) (cm_yes (by omega) (cm_if (fun _ => cm_now fun _ => rfl) (fun _ => cm_yes hp2.1 (cm_yes hp2.2 (cm_now fun _ => rfl))))))
  · intro hall
    have h2 := hv (by
      rw [takes_any]
      have := not_any (fun x : S65 => x.f1 == 3 && x.f2 == h.f2) (fun x => !(x.f1 == 3 && x.f2 == h.f2)) pre (fun x _ => by simp)
      rw [hall] at this
      simpa using this)
    refine cm_step (fun k => by rw [spec_GoodEvents.l1]) ?_
    rw [wrap_len hlt hl]
    exact cm_no (by omega) h2
theorem good1_take {procs : Int} {pre : List S65} {h : S65} (hg : okFrom (good1 procs) [] pre = true) (hk : h.f1 = 3) (hr : 0 ≤ h.f0 ∧ h.f0 ≤ procs - 1) :
    (sendIdx pre h.f2 = -1 ∧ good1 procs pre h = false) ∨ ∃ a x b, pre = a ++ x :: b ∧ sendIdx pre h.f2 = (a.length : Int) ∧ good1 procs pre h = ((x.f0 != h.f0) && !decide (h.f2 ∈ takes pre)) := by
  have hr2 : decide (0 ≤ h.f0 ∧ h.f0 ≤ procs - 1) = true := decide_eq_true hr
  rcases foundAt_split (isSend h.f2) pre 0 with ⟨h1, h2⟩ | ⟨a, x, b, e, h1, h2, h3⟩
  · refine .inl ⟨h1, ?_⟩
    unfold good1
    have : pre.any (isSend h.f2) = false := by simpa using h2
    rw [if_neg (by omega), if_neg (by omega), if_pos hk, anyS_sends, this]
    simp
  · refine .inr ⟨a, x, b, e, by unfold sendIdx; rw [h3]; simp, ?_⟩
    have h4 : pre.any (isSend h.f2) = true := by rw [e]; simp [h1]
    have h5 : lastS (sends pre) h.f2 = x.f0 := by rw [e]; exact lastS_sends a x b h.f2 h1 (fun y hy => send_once hg e.symm h1 hy)
    unfold good1
    rw [if_neg (by omega), if_neg (by omega), if_pos hk, anyS_sends, h4, h5, hr2]
    simp
theorem spec_good_f (procs : Int) (l : List S65) (hp : -9223372036854775808 ≤ procs ∧ procs ≤ 9223372036854775807) (hl : l.length ≤ 4611686018427387904) : Cm (fun k => spec_GoodEvents.f k procs l) (good procs l) := by
  unfold spec_GoodEvents.f
  have := allp_cm (L := fun k i => spec_GoodEvents.l0 k procs l l (l.length : Int) i) l (good1 procs) (fin := decide ((1 ≤ procs ∧ procs ≤ 5) ∧ l.length ≤ 24)) (no := false) ?_ ?_ ?_
  · refine cm_val this ?_
    unfold good
    cases okFrom (good1 procs) [] l <;> simp
  · intro pre h t e hlt hg hgood v hv
    have hr : 0 ≤ h.f0 ∧ h.f0 ≤ procs - 1 := by
      unfold good1 at hgood
      simp only [Bool.and_eq_true, decide_eq_true_eq] at hgood
      exact hgood.1
    have htk : l.take pre.length = pre := take_len e
    have hsend := send_f l h.f2 pre.length (by omega) hl
    rw [htk] at hsend
    have hj1 : Cm (fun k => spec_GoodEvents.j1 k procs l (pre.length : Int) l (l.length : Int) (pre.length : Int) false h.f0 h.f1 h.f2) v := by
      refine cm_step (fun k => by rw [spec_GoodEvents.j1]) ?_
      simp only [l1In_f, wrap_len hlt hl]
      refine cm_no (by simp) ?_
      by_cases c1 : h.f1 = 1
      · refine cm_yes c1 (cm_yes ?_ hv)
        unfold good1 at hgood
        rw [if_pos c1] at hgood
        simp only [Bool.and_eq_true, beq_iff_eq] at hgood
        exact hgood.2
      · refine cm_no c1 ?_
        by_cases c2 : h.f1 = 2
        · unfold good1 at hgood
          rw [if_neg c1, if_pos c2, anyS_sends] at hgood
          simp only [Bool.and_eq_true, decide_eq_true_eq, Bool.not_eq_true'] at hgood
          refine cm_yes c2 (cm_bind (cm_now fun _ => rfl) (cm_yes (by simpa using hgood.2.1) (cm_bind hsend (cm_no ?_ hv))))
          have := found_any (isSend h.f2) pre 0
          rw [hgood.2.2] at this
          unfold sendIdx
          simpa using this
        · refine cm_no c2 ?_
          have c3 : h.f1 = 3 := by
            unfold good1 at hgood
            rw [if_neg c1, if_neg c2] at hgood
            by_cases c3 : h.f1 = 3
            · exact c3
            · rw [if_neg c3] at hgood; simp at hgood
          refine cm_yes c3 (cm_bind hsend ?_)
          rcases good1_take hg c3 hr with ⟨_, h1⟩ | ⟨a, x, b, e2, h1, h2⟩
          · rw [h1] at hgood; cases hgood
          · have hrd : rd_T65 l (a.length : Int) = x := rdT65_at (t := b ++ h :: t) (by rw [← e, e2]; simp)
            have hal : a.length < l.length := by rw [← e, e2]; simp <;> omega
            rw [h2] at hgood
            simp only [Bool.and_eq_true, bne_iff_ne, ne_eq, Bool.not_eq_true'] at hgood
            rw [h1, hrd]
            refine cm_no (by omega) (cm_yes (by omega) (cm_yes (by omega) ?_))
            have e3 : (x.f0 == h.f0) = false := by simpa using hgood.1
            rw [e3]
            refine cm_step (fun k => by rw [spec_GoodEvents.j2]) ?_
            rw [Int.toNat_natCast, htk]
            refine cm_no (by simp) (cm_yes (by omega) (cm_yes (by omega) (cm_bind (cm_now fun _ => rfl) ?_)))
            have := spec_l1 procs l hl pre h t e c3 v (fun _ => hv)
            rw [hgood.2] at this
            exact this
    refine cm_step (fun k => by rw [spec_GoodEvents.l0]) ?_
    simp only [rdT65_at e]
    refine cm_yes (by omega) (cm_yes (by omega) (cm_yes (by omega) (cm_no (by omega) ?_)))
    have e4 : decide (h.f0 ≥ procs) = false := decide_eq_false (by omega)
    rw [e4]
    exact hj1
  · intro pre h t e hlt hg hbad
    have htk : l.take pre.length = pre := take_len e
    have hsend := send_f l h.f2 pre.length (by omega) hl
    rw [htk] at hsend
    have hj0 : Cm (fun k => spec_GoodEvents.j1 k procs l (pre.length : Int) l (l.length : Int) (pre.length : Int) true h.f0 h.f1 h.f2) false := by
      refine cm_step (fun k => by rw [spec_GoodEvents.j1]) ?_
      exact cm_yes rfl (cm_now fun _ => rfl)
    refine cm_step (fun k => by rw [spec_GoodEvents.l0]) ?_
    simp only [rdT65_at e]
    refine cm_yes (by omega) (cm_yes (by omega) (cm_yes (by omega) (cm_if (fun _ => hj0) (fun c0 => ?_))))
    by_cases c9 : h.f0 ≥ procs
    · rw [decide_eq_true c9]; exact hj0
    · rw [decide_eq_false c9]
      have hr : 0 ≤ h.f0 ∧ h.f0 ≤ procs - 1 := by omega
      have hr2 : decide (0 ≤ h.f0 ∧ h.f0 ≤ procs - 1) = true := decide_eq_true hr
      refine cm_step (fun k => by rw [spec_GoodEvents.j1]) ?_
      simp only [l1In_f, wrap_len hlt hl]
      refine cm_no (by simp) ?_
      by_cases c1 : h.f1 = 1
      · refine cm_yes c1 (cm_no ?_ (cm_now fun _ => rfl))
        unfold good1 at hbad
        rw [if_pos c1, hr2] at hbad
        simpa using hbad
      · refine cm_no c1 ?_
        by_cases c2 : h.f1 = 2
        · unfold good1 at hbad
          rw [if_neg c1, if_pos c2, anyS_sends, hr2, Bool.true_and] at hbad
          refine cm_yes c2 (cm_bind (cm_now fun _ => rfl) (cm_if (fun c => cm_bind hsend (cm_yes ?_ (cm_now fun _ => rfl))) (fun _ => cm_now fun _ => rfl)))
          rw [c, Bool.true_and] at hbad
          have := found_any (isSend h.f2) pre 0
          have h5 : pre.any (isSend h.f2) = true := by simpa using hbad
          rw [h5] at this
          unfold sendIdx
          simpa using this
        · refine cm_no c2 (cm_if (fun c3 => cm_bind hsend ?_) (fun _ => cm_now fun _ => rfl))
          have hj2 : Cm (fun k => spec_GoodEvents.j2 k procs l (pre.length : Int) l (l.length : Int) (pre.length : Int) true h.f0 h.f1 h.f2) false := by
            refine cm_step (fun k => by rw [spec_GoodEvents.j2]) ?_
            exact cm_yes rfl (cm_now fun _ => rfl)
          rcases good1_take hg c3 hr with ⟨h1, _⟩ | ⟨a, x, b, e2, h1, h2⟩
          · rw [h1]
            exact cm_yes (by omega) hj2
          · have hrd : rd_T65 l (a.length : Int) = x := rdT65_at (t := b ++ h :: t) (by rw [← e, e2]; simp)
            have hal : a.length < l.length := by rw [← e, e2]; simp <;> omega
            rw [h2] at hbad
            rw [h1, hrd]
            refine cm_no (by omega) (cm_yes (by omega) (cm_yes (by omega) ?_))
            by_cases c4 : x.f0 = h.f0
            · have e3 : (x.f0 == h.f0) = true := by simpa using c4
              rw [e3]
              exact hj2
            · have e3 : (x.f0 == h.f0) = false := by simpa using c4
              have e5 : (x.f0 != h.f0) = true := by simpa using c4
              rw [e3]
              rw [e5, Bool.true_and] at hbad
              have hbad2 : decide (h.f2 ∈ takes pre) = true := by simpa using hbad
              refine cm_step (fun k => by rw [spec_GoodEvents.j2]) ?_
              rw [Int.toNat_natCast, htk]
              refine cm_no (by simp) (cm_yes (by omega) (cm_yes (by omega) (cm_bind (cm_now fun _ => rfl) ?_)))
              have := spec_l1 procs l hl pre h t e c3 false (fun z => by rw [hbad2] at z; cases z)
              rw [hbad2] at this
              exact this
  · intro _
    refine cm_step (fun k => by rw [spec_GoodEvents.l0]) ?_
    simp only [l1In_f]
    refine cm_no (by omega) (cm_bind (cm_now fun _ => rfl) (cm_if (fun c => cm_now fun _ => ?_) (fun c => cm_now fun _ => ?_)))
    · simp only [decide_eq_true_eq] at c
      congr 1
      rw [decide_eq_decide]
      omega
    · simp only [decide_eq_true_eq] at c
      congr 1
      symm
      rw [decide_eq_false_iff_not]
      omega
theorem wf_conv {l : List S69} (h : ∀ x_ ∈ l, ok69 x_) : Wf (l.map cEvent) := by
  intro x hx
  obtain ⟨z, hz, rfl⟩ := List.mem_map.1 hx
  have := h z hz
  exact ⟨this.1, this.2.2⟩
end Go.Proofs.Ytinbfclfglogmaa.Events
end
section
namespace Go.Proofs.Ytinbfclfglogmaa.Pick
open Go.RowKit Go.Proofs.YtinbfclfglogmaaW.PrintWords
open Go.Proofs.Ytinbfclfglogmaa.Pl Go.Proofs.Ytinbfclfglogmaa.EvN Go.Proofs.Ytinbfclfglogmaa.Lp
set_option linter.unusedVariables false
set_option linter.unusedSimpArgs false
theorem iter_cm {σ ρ : Type} {L : Nat → Int → σ → Option ρ} (n : Nat) (st : Nat → σ) {v : ρ} (hs : ∀ i, i < n → ∀ u, Cm (fun k => L k ((i + 1 : Nat) : Int) (st (i + 1))) u → Cm (fun k => L k (i : Int) (st i)) u)
    (he : Cm (fun k => L k (n : Int) (st n)) v) : Cm (fun k => L k 0 (st 0)) v := by
  have key : ∀ (d i : Nat), i + d = n → Cm (fun k => L k (i : Int) (st i)) v := by
    intro d
    induction d with
    | zero => intro i e; rw [Nat.add_zero] at e; subst e; exact he
    | succ d ih => intro i e; exact hs i (by omega) v (ih (i + 1) (by omega))
  exact key n 0 (by omega)
theorem wrap_n {i n : Nat} (h : i < n) (hn : n ≤ 4611686018427387904) : wrap64 ((i : Int) + 1) = ((i + 1 : Nat) : Int) := by
  rw [show ((i + 1 : Nat) : Int) = (i : Int) + 1 by omega]
  exact wrap_in (by omega) (by omega)
end Go.Proofs.Ytinbfclfglogmaa.Pick
end
section
namespace Go.Proofs.Ytinbfclfglogmaa.Causes
open Go.RowKit Go.Proofs.Ytinbfclfglogmaa.P Go.Proofs.YtinbfclfglogmaaW.PrintWords Go.Proofs.YtinbfclfglogmaaW.PrintLast Go.Proofs.YtinbfclfglogmaaW.PrintMore
open Go.Proofs.Ytinbfclfglogmaa.Pl Go.Proofs.Ytinbfclfglogmaa.EvN Go.Proofs.Ytinbfclfglogmaa.Lp Go.Proofs.Ytinbfclfglogmaa.Mem Go.Proofs.Ytinbfclfglogmaa.Xm Go.Proofs.Ytinbfclfglogmaa.Hg Go.Proofs.Ytinbfclfglogmaa.Events
set_option linter.unusedSimpArgs false
set_option linter.unusedVariables false
def ev (l : List S65) (i : Nat) : S65 := rd_T65 l (i : Int)
theorem ev_at {pre t l : List S65} {h : S65} (e : pre ++ h :: t = l) : ev l pre.length = h := rdT65_at e
theorem split_at {l : List S65} {i : Nat} (h : i < l.length) : l.take i ++ ev l i :: l.drop (i + 1) = l := by
  unfold ev rd_T65
  rw [Int.toNat_natCast, List.getD_eq_getElem?_getD, List.getElem?_eq_getElem h, Option.getD_some]
  have := List.take_append_drop i l
  rw [List.drop_eq_getElem_cons h] at this
  exact this
theorem ev_take {l : List S65} {i j : Nat} (hj : j < i) (hi : i ≤ l.length) : ev (l.take i) j = ev l j := by
  unfold ev rd_T65
  rw [Int.toNat_natCast, List.getD_eq_getElem?_getD, List.getD_eq_getElem?_getD, List.getElem?_take_of_lt hj]
def prevFrom (l : List S65) (p : Int) : Nat → Option Nat
  | 0 => none
  | n + 1 => if (ev l n).f0 = p then some n else prevFrom l p n
theorem prev_some {l : List S65} {p : Int} : ∀ {n k : Nat}, prevFrom l p n = some k → k < n ∧ (ev l k).f0 = p ∧ ∀ j, k < j → j < n → (ev l j).f0 ≠ p
  | 0, k, h => by cases h
  | n + 1, k, h => by
    unfold prevFrom at h
    by_cases c : (ev l n).f0 = p
    · rw [if_pos c] at h
      have := Option.some.inj h
      subst this
      exact ⟨by omega, c, fun j h1 h2 => by omega⟩
    · rw [if_neg c] at h
      obtain ⟨h1, h2, h3⟩ := prev_some h
      refine ⟨by omega, h2, fun j hj1 hj2 => ?_⟩
      by_cases e : j = n
      · subst e; exact c
      · exact h3 j hj1 (by omega)
def prevL (l : List S65) (i : Nat) : List Int := match prevFrom l (ev l i).f0 i with | some k => [(k : Int)] | none => []
def causesL (l : List S65) (i : Nat) : List Int := prevL l i ++ (if (ev l i).f1 = 3 then [sendIdx (l.take i) (ev l i).f2] else [])
theorem l7Ahead_f (l : List S65) (i : Nat) (hi : i < l.length) (hl : l.length ≤ 4611686018427387904) : Cm (fun k => spec_l7Ahead.f k l (i : Int)) (match prevFrom l (ev l i).f0 i with | some k => (k : Int) | none => -1) := by
  unfold spec_l7Ahead.f
  have key : ∀ n : Nat, n ≤ i → Cm (fun k => spec_l7Ahead.l0 k l (i : Int) ((n : Int) - 1)) (match prevFrom l (ev l i).f0 n with | some k => (k : Int) | none => -1) := by
    intro n
    induction n with
    | zero =>
      intro _
      refine cm_step (fun k => by rw [spec_l7Ahead.l0]) ?_
      exact cm_no (by omega) (cm_now fun _ => rfl)
    | succ n ih =>
      intro hn
      have h1 := ih (by omega)
      have e1 : (((n + 1 : Nat) : Int) - 1) = (n : Int) := by omega
      rw [e1]
      refine cm_step (fun k => by rw [spec_l7Ahead.l0]) ?_
      rw [wrap_in (x := (n : Int) - 1) (by omega) (by omega)]
      refine cm_yes (by omega) (cm_yes (by omega) (cm_yes (by omega) (cm_yes (by omega) (cm_yes (by omega) ?_))))
      by_cases c : (ev l n).f0 = (ev l i).f0
      · have e2 : prevFrom l (ev l i).f0 (n + 1) = some n := by rw [prevFrom, if_pos c]
        rw [e2]
        exact cm_yes c (cm_now fun _ => rfl)
      · have e2 : prevFrom l (ev l i).f0 (n + 1) = prevFrom l (ev l i).f0 n := by rw [prevFrom, if_neg c]
        rw [e2]
        exact cm_no c h1
  have := key i (Nat.le_refl _)
  rw [wrap_in (by omega) (by omega)]
  exact this
theorem l7Causes_f (l : List S65) (i : Nat) (hi : i < l.length) (hl : l.length ≤ 4611686018427387904) : Cm (fun k => spec_l7Causes.f k l (i : Int)) (causesL l i) := by
  unfold spec_l7Causes.f causesL prevL
  have hs := send_f l (ev l i).f2 i (by omega) hl
  refine cm_bind (l7Ahead_f l i hi hl) ?_
  cases h : prevFrom l (ev l i).f0 i with
  | none =>
    simp only
    refine cm_no (by omega) (cm_yes (by omega) (cm_yes (by omega) ?_))
    by_cases c : (ev l i).f1 = 3
    · rw [if_pos c]
      exact cm_yes c (cm_bind hs (cm_yes (by simp) (cm_now fun _ => rfl)))
    · rw [if_neg c]
      exact cm_no c (cm_now fun _ => rfl)
  | some q =>
    simp only
    refine cm_yes (by omega) (cm_yes (by simp) (cm_bind (cm_now fun _ => rfl) (cm_yes (by omega) (cm_yes (by omega) ?_))))
    by_cases c : (ev l i).f1 = 3
    · rw [if_pos c]
      exact cm_yes c (cm_bind hs (cm_yes (by simp) (cm_now fun _ => rfl)))
    · rw [if_neg c]
      exact cm_no c (cm_now fun _ => by simp)
def idxs {α : Type} (p : α → Bool) : Nat → List α → List Int
  | _, [] => []
  | i, h :: t => if p h = true then (i : Int) :: idxs p (i + 1) t else idxs p (i + 1) t
theorem idxs_none {α : Type} (p : α → Bool) : ∀ (l : List α) (i : Nat), (∀ x ∈ l, p x = false) → idxs p i l = []
  | [], _, _ => rfl
  | h :: t, i, hp => by
    unfold idxs
    rw [if_neg (by rw [hp h (by simp)]; simp)]
    exact idxs_none p t (i + 1) (fun x hx => hp x (by simp [hx]))
theorem idxs_one {α : Type} (p : α → Bool) (x : α) (b : List α) (hx : p x = true) (hb : ∀ y ∈ b, p y = false) : ∀ (a : List α) (i : Nat), (∀ y ∈ a, p y = false) → idxs p i (a ++ x :: b) = [((i + a.length : Nat) : Int)]
  | [], i, _ => by
    rw [List.nil_append, idxs, if_pos hx, idxs_none p b _ hb]
    simp
  | h :: t, i, ha => by
    rw [List.cons_append, idxs, if_neg (by rw [ha h (by simp)]; simp), idxs_one p x b hx hb t (i + 1) (fun y hy => ha y (by simp [hy]))]
    simp only [List.length_cons]
    congr 2
    omega
theorem causes_l1 (l : List S65) (i : Nat) (hi : i < l.length) (hl : l.length ≤ 1048576) (out : List Int) (ho : out.length ≤ 4) :
    Cm (fun k => impl_causes.l1 k l (i : Int) out (i : Int) 0) (out ++ (if (ev l i).f1 = 3 then idxs (isSend (ev l i).f2) 0 (l.take i) else [])) := by
  have hlen : (l.take i).length = i := by rw [List.length_take]; omega
  by_cases c : (ev l i).f1 = 3
  · rw [if_pos c]
    have key := loop_cm (L := fun k j s => impl_causes.l1 k l (i : Int) s (i : Int) j) (l.take i) (fun pre rest s => s ++ idxs (isSend (ev l i).f2) pre.length rest) (fun pre s => s.length ≤ 4 + pre.length) ?_ ?_ (l.take i) [] out rfl (by simpa using ho)
    · simpa using key
    · intro s hs
      refine cm_step (fun k => by rw [impl_causes.l1]) ?_
      exact cm_no (by omega) (cm_now fun _ => by simp [idxs])
    · intro pre h t s e hlt hs hn
      have e2 : ev l pre.length = h := by rw [← ev_take (i := i) (by omega) (by omega)]; exact ev_at e
      refine cm_step (fun k => by rw [impl_causes.l1]) ?_
      rw [wrap_len hlt (by omega)]
      refine cm_yes (by omega) (cm_yes (by omega) (cm_yes (by omega) (cm_yes c (cm_yes (by omega) (cm_yes (by omega) ?_)))))
      have e3 : (rd_T65 l (pre.length : Int)) = h := e2
      rw [e3]
      by_cases c2 : isSend (ev l i).f2 h = true
      · have c3 := c2
        simp only [isSend, Bool.and_eq_true, beq_iff_eq] at c3
        have e4 : idxs (isSend (ev l i).f2) pre.length (h :: t) = (pre.length : Int) :: idxs (isSend (ev l i).f2) (pre.length + 1) t := by rw [idxs, if_pos c2]
        rw [e4]
        have h1 := hn (s ++ [(pre.length : Int)]) (by simp; omega)
        rw [len_one] at h1
        exact cm_yes c3.1 (cm_yes c3.2 (cm_yes (by omega) (cm_val h1 (by simp))))
      · have e4 : idxs (isSend (ev l i).f2) pre.length (h :: t) = idxs (isSend (ev l i).f2) (pre.length + 1) t := by rw [idxs, if_neg c2]
        rw [e4]
        have h1 := hn s (by simp; omega)
        rw [len_one] at h1
        refine cm_if (fun c3 => cm_no ?_ h1) (fun _ => h1)
        intro c4
        apply c2
        simp only [isSend, Bool.and_eq_true, beq_iff_eq]
        exact ⟨c3, c4⟩
  · rw [if_neg c, List.append_nil]
    have := same_cm (L := fun k j => impl_causes.l1 k l (i : Int) out (i : Int) j) (l.take i) (fin := out) ?_ ?_
    · exact this
    · intro pre h t e hlt v hv
      refine cm_step (fun k => by rw [impl_causes.l1]) ?_
      rw [wrap_len hlt (by omega)]
      exact cm_yes (by omega) (cm_yes (by omega) (cm_yes (by omega) (cm_no c hv)))
    · refine cm_step (fun k => by rw [impl_causes.l1]) ?_
      exact cm_no (by omega) (cm_now fun _ => rfl)
theorem causes_raw (l : List S65) (i : Nat) (hi : i < l.length) (hl : l.length ≤ 1048576) :
    Cm (fun k => impl_causes.f k l (i : Int)) (prevL l i ++ (if (ev l i).f1 = 3 then idxs (isSend (ev l i).f2) 0 (l.take i) else [])) := by
  unfold impl_causes.f prevL
  have key : ∀ n : Nat, n ≤ i → Cm (fun k => impl_causes.l0 k l (i : Int) [] ((n : Int) - 1)) ((match prevFrom l (ev l i).f0 n with | some k => [(k : Int)] | none => []) ++ (if (ev l i).f1 = 3 then idxs (isSend (ev l i).f2) 0 (l.take i) else [])) := by
    intro n
    induction n with
    | zero =>
      intro _
      have h1 := causes_l1 l i hi hl [] (by simp)
      refine cm_step (fun k => by rw [impl_causes.l0]) ?_
      refine cm_no (by omega) ?_
      refine cm_step (fun k => by rw [impl_causes.j1]) ?_
      exact h1
    | succ n ih =>
      intro hn
      have h1 := ih (by omega)
      have e1 : (((n + 1 : Nat) : Int) - 1) = (n : Int) := by omega
      rw [e1]
      refine cm_step (fun k => by rw [impl_causes.l0]) ?_
      rw [wrap_in (x := (n : Int) - 1) (by omega) (by omega)]
      refine cm_yes (by omega) (cm_yes (by omega) (cm_yes (by omega) (cm_yes (by omega) (cm_yes (by omega) ?_))))
      by_cases c : (ev l n).f0 = (ev l i).f0
      · have e2 : prevFrom l (ev l i).f0 (n + 1) = some n := by rw [prevFrom, if_pos c]
        rw [e2]
        have h2 := causes_l1 l i hi hl [(n : Int)] (by simp)
        refine cm_yes c (cm_yes (by simp) ?_)
        refine cm_step (fun k => by rw [impl_causes.j1]) ?_
        exact h2
      · have e2 : prevFrom l (ev l i).f0 (n + 1) = prevFrom l (ev l i).f0 n := by rw [prevFrom, if_neg c]
        rw [e2]
        exact cm_no c h1
  have := key i (Nat.le_refl _)
  rw [wrap_in (by omega) (by omega)]
  exact this
theorem take_sent {procs : Int} {l : List S65} (hg : okFrom (good1 procs) [] l = true) {i : Nat} (hi : i < l.length) (c : (ev l i).f1 = 3) :
    ∃ a x b, l.take i = a ++ x :: b ∧ isSend (ev l i).f2 x = true ∧ (∀ y ∈ a, isSend (ev l i).f2 y = false) ∧ (∀ y ∈ b, isSend (ev l i).f2 y = false) ∧ sendIdx (l.take i) (ev l i).f2 = (a.length : Int) ∧ x.f0 ≠ (ev l i).f0 := by
  have hs := split_at hi
  have hg1 : okFrom (good1 procs) [] (l.take i) = true := by
    have h2 := okFrom_append (good1 procs) (l.take i) [] (ev l i :: l.drop (i + 1))
    rw [hs, hg] at h2
    have h3 := h2.symm
    rw [Bool.and_eq_true] at h3
    exact h3.1
  have h1 := (okFrom_iff (good1 procs) l []).1 hg (l.take i) (ev l i) (l.drop (i + 1)) hs
  rw [List.nil_append] at h1
  rcases foundAt_split (isSend (ev l i).f2) (l.take i) 0 with ⟨h2, h3⟩ | ⟨a, x, b, e, h2, h3, h4⟩
  · exfalso
    have : (l.take i).any (isSend (ev l i).f2) = false := by simpa using h3
    unfold good1 at h1
    rw [if_neg (by omega), if_neg (by omega), if_pos c, anyS_sends, this] at h1
    simp at h1
  · have hb : ∀ y ∈ b, isSend (ev l i).f2 y = false := fun y hy => send_once hg1 e.symm h2 hy
    refine ⟨a, x, b, e, h2, h3, hb, by unfold sendIdx; rw [h4]; simp, ?_⟩
    have h5 : lastS (sends (l.take i)) (ev l i).f2 = x.f0 := by rw [e]; exact lastS_sends a x b _ h2 hb
    unfold good1 at h1
    rw [if_neg (by omega), if_neg (by omega), if_pos c, h5] at h1
    simp only [Bool.and_eq_true, bne_iff_ne, ne_eq] at h1
    exact h1.2.1.2
theorem causes_f {procs : Int} {l : List S65} (hg : okFrom (good1 procs) [] l = true) (i : Nat) (hi : i < l.length) (hl : l.length ≤ 1048576) : Cm (fun k => impl_causes.f k l (i : Int)) (causesL l i) := by
  refine cm_val (causes_raw l i hi hl) ?_
  unfold causesL
  by_cases c : (ev l i).f1 = 3
  · rw [if_pos c, if_pos c]
    obtain ⟨a, x, b, e, h1, h2, h3, h4, _⟩ := take_sent hg hi c
    rw [h4, e, idxs_one _ x b h1 h3 a 0 h2]
    simp
  · rw [if_neg c, if_neg c]
theorem causes_lt {procs : Int} {l : List S65} (hg : okFrom (good1 procs) [] l = true) {i : Nat} (hi : i < l.length) : ∀ k ∈ causesL l i, 0 ≤ k ∧ k < (i : Int) := by
  intro k hk
  unfold causesL prevL at hk
  rw [List.mem_append] at hk
  rcases hk with hk | hk
  · cases h : prevFrom l (ev l i).f0 i with
    | none => rw [h] at hk; cases hk
    | some q =>
      rw [h] at hk
      have := (prev_some h).1
      simp only [List.mem_singleton] at hk
      omega
  · by_cases c : (ev l i).f1 = 3
    · rw [if_pos c, List.mem_singleton] at hk
      obtain ⟨a, x, b, e, h1, h2, h3, h4, _⟩ := take_sent hg hi c
      have h5 := congrArg List.length e
      rw [List.length_take] at h5
      simp only [List.length_append, List.length_cons] at h5
      omega
    · rw [if_neg c] at hk; cases hk
theorem causes_len (l : List S65) (i : Nat) : (causesL l i).length ≤ 2 := by
  unfold causesL prevL
  cases prevFrom l (ev l i).f0 i <;> by_cases c : (ev l i).f1 = 3 <;> simp [c]
end Go.Proofs.Ytinbfclfglogmaa.Causes
end
section
namespace Go.Proofs.Ytinbfclfglogmaa.Vec
open Go.RowKit Go.Proofs.Ytinbfclfglogmaa.P Go.Proofs.YtinbfclfglogmaaW.PrintWords Go.Proofs.YtinbfclfglogmaaW.PrintLast Go.Proofs.YtinbfclfglogmaaW.PrintMore
open Go.Proofs.Ytinbfclfglogmaa.Pl Go.Proofs.Ytinbfclfglogmaa.EvN Go.Proofs.Ytinbfclfglogmaa.Lp Go.Proofs.Ytinbfclfglogmaa.Hs Go.Proofs.Ytinbfclfglogmaa.Hg Go.Proofs.Ytinbfclfglogmaa.Events Go.Proofs.Ytinbfclfglogmaa.Causes Go.Proofs.Ytinbfclfglogmaa.Pick
set_option linter.unusedVariables false
set_option linter.unusedSimpArgs false
def joinTo (a b : List Int) : Nat → List Int
  | 0 => a
  | i + 1 => (joinTo a b i).set i (mx (rd (joinTo a b i) (i : Int)) (rd b (i : Int)))
theorem joinTo_length (a b : List Int) : ∀ i, (joinTo a b i).length = a.length
  | 0 => rfl
  | i + 1 => by rw [joinTo, List.length_set, joinTo_length a b i]
def join (a b : List Int) : List Int := joinTo a b b.length
theorem set_self {l : List Int} {i : Nat} (h : i < l.length) : l.set i (rd l (i : Int)) = l := by
  have : rd l (i : Int) = l[i] := by
    unfold rd
    rw [Int.toNat_natCast, List.getD_eq_getElem?_getD, List.getElem?_eq_getElem h, Option.getD_some]
  rw [this]
  exact List.set_getElem_self h
theorem specJoin_f (a b : List Int) (ha : a.length ≤ 1048576) (hb : b.length = a.length) : Cm (fun k => spec_l7Join.f k a b) (join a b) := by
  unfold spec_l7Join.f
  refine cm_bind (cm_now fun _ => rfl) (cm_yes (by simp only [List.length_nil]; omega) ?_)
  rw [List.nil_append]
  refine iter_cm (L := fun k i s => spec_l7Join.l0 k s b (b.length : Int) i) b.length (joinTo a b) ?_ ?_
  · intro i hi u hu
    have hl := joinTo_length a b i
    refine cm_step (fun k => by rw [spec_l7Join.l0]) ?_
    simp only [wrap_n hi (show b.length ≤ 4611686018427387904 by omega), Int.toNat_natCast]
    refine cm_yes (by omega) (cm_yes (by omega) (cm_yes (by omega) (cm_yes (by omega) (cm_if (fun c => ?_) (fun c => ?_)))))
    · rw [joinTo, show mx (rd (joinTo a b i) (i : Int)) (rd b (i : Int)) = rd b (i : Int) by unfold mx; omega] at hu
      exact hu
    · rw [joinTo, show mx (rd (joinTo a b i) (i : Int)) (rd b (i : Int)) = rd (joinTo a b i) (i : Int) by unfold mx; omega, set_self (by omega)] at hu
      exact hu
  · refine cm_step (fun k => by rw [spec_l7Join.l0]) ?_
    exact cm_no (by omega) (cm_now fun _ => rfl)
def over (out : List (List Int)) (cs : List Int) (v : List Int) : List Int := cs.foldl (fun v k => join v (rd_L1 out k)) v
theorem over_length (out : List (List Int)) : ∀ (cs v : List Int), (over out cs v).length = v.length
  | [], _ => rfl
  | k :: cs, v => by
    show (over out cs (join v (rd_L1 out k))).length = _
    rw [over_length out cs, join, joinTo_length]
def bump (v : List Int) (p : Int) : List Int := v.set p.toNat (wrap64 (rd v p + 1))
def vecs (procs : Int) (l : List S65) : Nat → List (List Int)
  | 0 => []
  | i + 1 => vecs procs l i ++ [bump (over (vecs procs l i) (causesL l i) (List.replicate procs.toNat 0)) (ev l i).f0]
theorem vecs_length (procs : Int) (l : List S65) : ∀ i, (vecs procs l i).length = i
  | 0 => rfl
  | i + 1 => by rw [vecs, List.length_append, List.length_singleton, vecs_length procs l i]
theorem vecs_wide (procs : Int) (l : List S65) : ∀ i, ∀ y ∈ vecs procs l i, y.length = procs.toNat
  | 0, y, hy => by simp [vecs] at hy
  | i + 1, y, hy => by
    rw [vecs] at hy
    rcases List.mem_append.1 hy with hy | hy
    · exact vecs_wide procs l i y hy
    · rw [List.mem_singleton.1 hy, bump, List.length_set, over_length, List.length_replicate]
theorem rdL_mem {out : List (List Int)} {k : Int} (h : 0 ≤ k ∧ k < (out.length : Int)) : rd_L1 out k ∈ out := by
  unfold rd_L1
  rw [List.getD_eq_getElem?_getD, List.getElem?_eq_getElem (by omega), Option.getD_some]
  exact List.getElem_mem _
theorem rd_at2 {pre t l : List Int} {h : Int} (e : pre ++ h :: t = l) : rd l (pre.length : Int) = h := getD_at e _
theorem spec_l1 (procs : Int) (l : List S65) (out : List (List Int)) (W : Nat) (hW : W ≤ 1048576) (ho : ∀ y ∈ out, y.length = W) (i : Nat) (cs : List Int) (hc : ∀ k ∈ cs, 0 ≤ k ∧ k < (out.length : Int)) (hcl : cs.length ≤ 2) (f0 f1 f2 : Int) {u : List (List Int) × Bool} :
    ∀ (rest pre : List Int) (v : List Int), pre ++ rest = cs → v.length = W → Cm (fun k => spec_VectorClocks.l1 k procs l out (over out rest v) l (l.length : Int) (i : Int) cs (cs.length : Int) (cs.length : Int) f0 f1 f2) u →
      Cm (fun k => spec_VectorClocks.l1 k procs l out v l (l.length : Int) (i : Int) cs (cs.length : Int) (pre.length : Int) f0 f1 f2) u
  | [], pre, v, e, hv, hu => by
    rw [List.append_nil] at e
    subst e
    exact hu
  | h :: t, pre, v, e, hv, hu => by
    have hk := hc h (by rw [← e]; simp)
    have hlt := len_mid e
    have ih := spec_l1 procs l out W hW ho i cs hc hcl f0 f1 f2 (u := u) t (pre ++ [h]) (join v (rd_L1 out h)) (app_mid e) (by rw [join, joinTo_length]; exact hv) hu
    rw [len_one] at ih
    refine cm_step (fun k => by rw [spec_VectorClocks.l1]) ?_
    simp only [rd_at2 e, wrap_len hlt (show cs.length ≤ 4611686018427387904 by omega)]
    exact cm_yes (by omega) (cm_yes (by omega) (cm_yes (by omega) (cm_yes (by omega) (cm_yes (by omega) (cm_bind (specJoin_f v _ (by omega) (by rw [ho _ (rdL_mem hk), hv])) ih)))))
theorem impl_l2 (procs : Int) (l : List S65) (out : List (List Int)) (i : Nat) (cs : List Int) (q : Int) (v b : List Int) (hv : v.length ≤ 1048576) (hb : b.length = v.length) (f0 f1 f2 : Int) {u : List (List Int)} (hu : Cm (fun k => impl_vectors.l1 k procs l out (join v b) l (l.length : Int) (i : Int) cs (cs.length : Int) (wrap64 (q + 1)) f0 f1 f2) u) :
    Cm (fun k => impl_vectors.l2 k procs l out v l (l.length : Int) (i : Int) cs (cs.length : Int) q b (b.length : Int) 0 f0 f1 f2) u := by
  refine iter_cm (L := fun k j s => impl_vectors.l2 k procs l out s l (l.length : Int) (i : Int) cs (cs.length : Int) q b (b.length : Int) j f0 f1 f2) b.length (joinTo v b) ?_ ?_
  · intro j hj w hw
    have hl := joinTo_length v b j
    refine cm_step (fun k => by rw [impl_vectors.l2]) ?_
    simp only [wrap_n hj (show b.length ≤ 4611686018427387904 by omega), Int.toNat_natCast]
    exact cm_yes (by omega) (cm_yes (by omega) (cm_yes (by omega) (cm_yes (by omega) hw)))
  · refine cm_step (fun k => by rw [impl_vectors.l2]) ?_
    exact cm_no (by omega) hu
theorem impl_l1 (procs : Int) (l : List S65) (out : List (List Int)) (W : Nat) (hW : W ≤ 1048576) (ho : ∀ y ∈ out, y.length = W) (i : Nat) (cs : List Int) (hc : ∀ k ∈ cs, 0 ≤ k ∧ k < (out.length : Int)) (hcl : cs.length ≤ 2) (f0 f1 f2 : Int) {u : List (List Int)} :
    ∀ (rest pre : List Int) (v : List Int), pre ++ rest = cs → v.length = W → Cm (fun k => impl_vectors.l1 k procs l out (over out rest v) l (l.length : Int) (i : Int) cs (cs.length : Int) (cs.length : Int) f0 f1 f2) u →
      Cm (fun k => impl_vectors.l1 k procs l out v l (l.length : Int) (i : Int) cs (cs.length : Int) (pre.length : Int) f0 f1 f2) u
  | [], pre, v, e, hv, hu => by
    rw [List.append_nil] at e
    subst e
    exact hu
  | h :: t, pre, v, e, hv, hu => by
    have hk := hc h (by rw [← e]; simp)
    have hlt := len_mid e
    have ih := impl_l1 procs l out W hW ho i cs hc hcl f0 f1 f2 (u := u) t (pre ++ [h]) (join v (rd_L1 out h)) (app_mid e) (by rw [join, joinTo_length]; exact hv) hu
    rw [len_one] at ih
    refine cm_step (fun k => by rw [impl_vectors.l1]) ?_
    simp only [rd_at2 e]
    refine cm_yes (by omega) (cm_yes (by omega) (cm_yes (by omega) (cm_yes (by omega) (cm_yes (by omega) (impl_l2 procs l out i cs _ v _ (by omega) (by rw [ho _ (rdL_mem hk), hv]) f0 f1 f2 ?_)))))
    rw [wrap_len hlt (show cs.length ≤ 4611686018427387904 by omega)]
    exact ih
theorem proc_in {procs : Int} {l : List S65} (hg : okFrom (good1 procs) [] l = true) {i : Nat} (hi : i < l.length) : 0 ≤ (ev l i).f0 ∧ (ev l i).f0 ≤ procs - 1 := by
  have := (okFrom_iff _ l []).1 hg _ _ _ (split_at hi)
  unfold good1 at this
  simp only [Bool.and_eq_true, decide_eq_true_eq] at this
  first | exact this.1 | exact this.1.1 | exact this.1.1.1 | omega
theorem vectors {procs : Int} {l : List S65} (hg : good procs l = true) : Cm (fun k => spec_VectorClocks.l0 k procs l [] l (l.length : Int) 0) (vecs procs l l.length, true) ∧ Cm (fun k => impl_vectors.f k procs l) (vecs procs l l.length) := by
  obtain ⟨h1, h2, h3⟩ := good_iff.1 hg
  have hz : ((procs.toNat : Nat) : Int) = procs := by omega
  constructor
  · refine iter_cm (L := fun k i s => spec_VectorClocks.l0 k procs l s l (l.length : Int) i) l.length (vecs procs l) ?_ ?_
    · intro i hi u hu
      have hp := proc_in h1 hi
      have hlen := vecs_length procs l i
      refine cm_step (fun k => by rw [spec_VectorClocks.l0]) ?_
      refine cm_yes (by omega) (cm_yes (by omega) (cm_yes (by omega) (cm_yes (by omega) (cm_yes (by omega) (cm_bind (l7Causes_f l i hi (by omega)) ?_)))))
      refine spec_l1 procs l (vecs procs l i) procs.toNat (by omega) (vecs_wide procs l i) i (causesL l i) (fun k hk => by have := causes_lt h1 hi k hk; omega) (causes_len l i) _ _ _ (causesL l i) [] _ rfl (by rw [List.length_replicate]) ?_
      have hol := over_length (vecs procs l i) (causesL l i) (List.replicate procs.toNat 0)
      rw [List.length_replicate] at hol
      refine cm_step (fun k => by rw [spec_VectorClocks.l1]) ?_
      simp only [wrap_n hi (show l.length ≤ 4611686018427387904 by omega)]
      exact cm_no (by omega) (cm_yes hp.1 (cm_yes (by show (ev l i).f0 < _; omega) (cm_yes (by omega) hu)))
    · refine cm_step (fun k => by rw [spec_VectorClocks.l0]) ?_
      exact cm_no (by omega) (cm_now fun _ => rfl)
  · unfold impl_vectors.f
    refine iter_cm (L := fun k i s => impl_vectors.l0 k procs l s l (l.length : Int) i) l.length (vecs procs l) ?_ ?_
    · intro i hi u hu
      have hp := proc_in h1 hi
      have hlen := vecs_length procs l i
      refine cm_step (fun k => by rw [impl_vectors.l0]) ?_
      refine cm_yes (by omega) (cm_yes (by omega) (cm_yes (by omega) (cm_yes (by omega) (cm_yes (by omega) (cm_bind (causes_f h1 i hi (by omega)) ?_)))))
      refine impl_l1 procs l (vecs procs l i) procs.toNat (by omega) (vecs_wide procs l i) i (causesL l i) (fun k hk => by have := causes_lt h1 hi k hk; omega) (causes_len l i) _ _ _ (causesL l i) [] _ rfl (by rw [List.length_replicate]) ?_
      have hol := over_length (vecs procs l i) (causesL l i) (List.replicate procs.toNat 0)
      rw [List.length_replicate] at hol
      refine cm_step (fun k => by rw [impl_vectors.l1]) ?_
      simp only [wrap_n hi (show l.length ≤ 4611686018427387904 by omega)]
      exact cm_no (by omega) (cm_yes hp.1 (cm_yes (by show (ev l i).f0 < _; omega) (cm_yes (by omega) hu)))
    · refine cm_step (fun k => by rw [impl_vectors.l0]) ?_
      exact cm_no (by omega) (cm_now fun _ => rfl)
theorem vec_both (procs : Int) (l : List S65) (hw : Wf l) (hp : -9223372036854775808 ≤ procs ∧ procs ≤ 9223372036854775807) (hl : l.length ≤ 4611686018427387904) : ∃ r b, Cm (fun k => spec_VectorClocks.f k procs l) (r, b) ∧ Cm (fun k => impl_VectorClocks.f k procs l) (r, b) ∧ r.length ≤ 24 ∧ ∀ y ∈ r, y.length ≤ 5 := by
  by_cases g : good procs l = true
  · obtain ⟨_, h2, h3⟩ := good_iff.1 g
    refine ⟨vecs procs l l.length, true, ?_, ?_, by rw [vecs_length]; omega, fun y hy => by rw [vecs_wide procs l _ y hy]; omega⟩
    · unfold spec_VectorClocks.f
      exact cm_bind (spec_good_f procs l hp hl) (cm_yes g (vectors g).1)
    · unfold impl_VectorClocks.f
      exact cm_bind (cm_now fun _ => areEvents_f procs l hw) (cm_yes g (cm_bind (vectors g).2 (cm_now fun _ => rfl)))
  · refine ⟨[], false, ?_, ?_, Nat.zero_le _, fun y hy => by simp at hy⟩
    · unfold spec_VectorClocks.f
      exact cm_bind (spec_good_f procs l hp hl) (cm_no g (cm_now fun _ => rfl))
    · unfold impl_VectorClocks.f
      exact cm_bind (cm_now fun _ => areEvents_f procs l hw) (cm_no g (cm_now fun _ => rfl))
end Go.Proofs.Ytinbfclfglogmaa.Vec
end
section
namespace Go.Proofs.Ytinbfclfglogmaa.Pure
open Go.RowKit Go.Proofs.Ytinbfclfglogmaa.P Go.Proofs.YtinbfclfglogmaaW.PrintWords Go.Proofs.YtinbfclfglogmaaW.PrintLast Go.Proofs.YtinbfclfglogmaaW.PrintMore
open Go.Proofs.Ytinbfclfglogmaa.Pl Go.Proofs.Ytinbfclfglogmaa.EvN Go.Proofs.Ytinbfclfglogmaa.Lp Go.Proofs.Ytinbfclfglogmaa.Hs Go.Proofs.Ytinbfclfglogmaa.Hg Go.Proofs.Ytinbfclfglogmaa.Sz Go.Proofs.Ytinbfclfglogmaa.Events Go.Proofs.Ytinbfclfglogmaa.Vec
set_option linter.unusedVariables false
theorem FnExactVectorClocks : Mk.FnExactVectorClocks_Pure := by
  intro a0 l1 b0 b1
  obtain ⟨z1, cz1, dz1⟩ := szEventS_wt l1 b1 1048576 (by omega) (by omega)
  by_cases nz1 : z1 < 0
  · obtain ⟨Kz1, jz1⟩ := cz1; exact ⟨Kz1, z1, jz1 (Kz1) (by omega), .inl nz1⟩
  obtain ⟨r10, r11, hspec, himpl, n1, n2⟩ := vec_both a0 (l1.map cEvent) (wf_conv b1.2.2) (wf_i64 b0) (by have := b1.2.1; simp only [List.length_map]; omega)
  obtain ⟨K0, j0⟩ := toEventS_f l1 b1
  obtain ⟨K1, j1⟩ := hspec
  obtain ⟨K2, j2⟩ := himpl
  obtain ⟨K3, j3⟩ := eqIntSS_same r10 (by omega) (fun y hy => by have := n2 y hy; omega)
  obtain ⟨K4, j4⟩ := eqEventS_same _ (smS_cEvent l1 b1)
  obtain ⟨Kz1, jz1⟩ := cz1
  have tb0 : Mk.tot Mk.pcEvent (l1.map cEvent) ≤ 10 * wEventS l1 := totEvent_le _
  exact ⟨K0 + K1 + K2 + K3 + K4 + Kz1, z1, jz1 (K0 + K1 + K2 + K3 + K4 + Kz1) (by omega), .inr ⟨nz1, (l1.map cEvent), r10, r11, j0 (K0 + K1 + K2 + K3 + K4 + Kz1) (by omega), j1 (K0 + K1 + K2 + K3 + K4 + Kz1) (by omega), j2 (K0 + K1 + K2 + K3 + K4 + Kz1) (by omega), j3 (K0 + K1 + K2 + K3 + K4 + Kz1) (by omega), j4 (K0 + K1 + K2 + K3 + K4 + Kz1) (by omega), (by omega), (by have := tot_le (fun y => Mk.tot (fun _ => 1) y) 5 r10 (fun y hy => by show Mk.tot _ y ≤ 5; rw [Mk.tot_one]; exact n2 y hy); omega), (fun _ _ _ _ => trivial)⟩⟩
end Go.Proofs.Ytinbfclfglogmaa.Pure
end
