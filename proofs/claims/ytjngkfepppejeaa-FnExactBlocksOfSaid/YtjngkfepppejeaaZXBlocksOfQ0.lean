-- Written by programs of this session (wip/prune.py, wip/xp.py), out of the translation and the printed words; what the law does not reach is left out. Not trusted: Lean checks it.
import Derived.Laws.World
import Derived.Test.YtjngkfepppejeaaZXBlocksOfPx0
import Derived.Test.YtjngkfepppejeaaZXBlocksOfW0
import Derived.Test.YtjngkfepppejeaaZXBlocksOfPx16
import Derived.Test.YtjngkfepppejeaaZXBlocksOfPx9
import Derived.Test.YtjngkfepppejeaaZXBlocksOfO0
import Derived.Laws.BitsAllLaws
import Derived.Test.YtjngkfepppejeaaZXBlocksOfPx1
import Derived.Test.YtjngkfepppejeaaZXBlocksOfPx2
import Derived.Test.YtjngkfepppejeaaZXBlocksOfPx3
import Derived.Test.YtjngkfepppejeaaZXBlocksOfPx6
import Derived.Test.YtjngkfepppejeaaZXBlocksOfPx4
import Derived.Test.YtjngkfepppejeaaZXBlocksOfPx13
section
namespace Go.Proofs.Ytjngkfepppejeaa.Mk
open Go.RowKit Go.Proofs.YtjngkfepppejeaaW.PrintWords Go.Proofs.YtjngkfepppejeaaW.PrintLast
set_option linter.unusedVariables false
set_option linter.unusedSimpArgs false
abbrev Pl := Nat × Nat × Bool
def adr (p : Pl) : Addr := ⟨p.1, p.2.1, none⟩
def three (k : Int) : Bool := k % 3 == 0
def mkv (t : Bool) (k : Int) : Value := if t = true then .bool (three k) else .int .i64 k
def plain : Bool → Value → Prop
  | true, u => ∃ z, u = .bool z
  | false, u => ∃ z : Int, u = .int .i64 z
theorem plain_mkv (t : Bool) (k : Int) : plain t (mkv t k) := by cases t <;> exact ⟨_, rfl⟩
theorem plain_one {s t : Bool} {u : Value} (h : plain s u) (h2 : plain t u) : s = t := by
  cases s <;> cases t <;> obtain ⟨a, rfl⟩ := h <;> obtain ⟨b, hb⟩ := h2 <;> first | rfl | cases hb
def puts : World → List Pl → Int → World
  | w, [], _ => w
  | w, p :: l, k => puts (w.setCell (adr p) (mkv p.2.2 k)) l (k + 1)
theorem set_size (w : World) (a : Addr) (u : Value) : (w.setCell a u).heap.size = w.heap.size := by simp [World.setCell]
theorem puts_size : ∀ (l : List Pl) (w : World) (k : Int), (puts w l k).heap.size = w.heap.size
  | [], _, _ => rfl
  | p :: l, w, k => by rw [puts, puts_size l, set_size]
theorem set_cong {w1 w2 : World} {i : Nat} (h : w1.heap[i]? = w2.heap[i]?) (a : Addr) (u : Value) : (w1.setCell a u).heap[i]? = (w2.setCell a u).heap[i]? := by
  simp only [World.setCell, Array.getElem?_modify, h]
theorem puts_cong {i : Nat} : ∀ (l : List Pl) {w1 w2 : World} (k : Int), w1.heap[i]? = w2.heap[i]? → (puts w1 l k).heap[i]? = (puts w2 l k).heap[i]?
  | [], _, _, _, h => h
  | p :: l, _, _, k, h => puts_cong l (k + 1) (set_cong h _ _)
theorem puts_app : ∀ (l m : List Pl) (w : World) (k : Int), puts w (l ++ m) k = puts (puts w l k) m (k + (l.length : Int))
  | [], m, w, k => by simp [puts]
  | p :: l, m, w, k => by
    rw [List.cons_append, puts, puts_app l m, puts]
    congr 1
    simp only [List.length_cons]
    omega
theorem puts_far {i : Nat} : ∀ (l : List Pl) (w : World) (k : Int), (∀ p ∈ l, p.1 ≠ i) → (puts w l k).heap[i]? = w.heap[i]?
  | [], _, _, _ => rfl
  | p :: l, w, k, h => by
    rw [puts, puts_far l _ _ (fun q hq => h q (List.mem_cons_of_mem _ hq))]
    exact Below.heap_setCell w _ _ _ (fun e => h p List.mem_cons_self e.symm)
structure Wr (w w' : World) (ps : List Pl) (k : Int) : Prop where
  os : w'.os = w.os
  tape : w'.tape = w.tape
  output : w'.output = w.output
  size : w.heap.size ≤ w'.heap.size
  block : ∀ i, i < w.heap.size → w'.heap[i]? = (puts w ps k).heap[i]?
theorem Wr.refl (w : World) (k : Int) : Wr w w [] k := ⟨rfl, rfl, rfl, Nat.le_refl _, fun _ _ => rfl⟩
theorem Wr.below {w w1 w2 : World} {ps : List Pl} {k : Int} (h : Wr w w1 ps k) (hb : Below w1.heap.size w1 w2) : Wr w w2 ps k :=
  ⟨hb.os.trans h.os, hb.tape.trans h.tape, hb.output.trans h.output, Nat.le_trans h.size hb.size, fun i hi => (hb.block i (Nat.lt_of_lt_of_le hi h.size)).trans (h.block i hi)⟩
theorem Wr.trans {w w1 w2 : World} {ps bs : List Pl} {k j : Int} (h : Wr w w1 ps k) (g : Wr w1 w2 bs j) (hj : j = k + (ps.length : Int)) : Wr w w2 (ps ++ bs) k := by
  subst hj
  refine ⟨g.os.trans h.os, g.tape.trans h.tape, g.output.trans h.output, Nat.le_trans h.size g.size, fun i hi => ?_⟩
  rw [g.block i (Nat.lt_of_lt_of_le hi h.size), puts_app]
  exact puts_cong bs _ (h.block i hi)
theorem Wr.one (w : World) (p : Pl) (k : Int) : Wr w (w.setCell (adr p) (mkv p.2.2 k)) [p] k :=
  ⟨rfl, rfl, rfl, Nat.le_of_eq (set_size w _ _).symm, fun _ _ => rfl⟩
theorem Wr.put {w w1 : World} {ps : List Pl} {k j : Int} (h : Wr w w1 ps k) (p : Pl) (hj : j = k + (ps.length : Int)) : Wr w (w1.setCell (adr p) (mkv p.2.2 j)) (ps ++ [p]) k :=
  h.trans (Wr.one w1 p j) hj
theorem Wr.kept {w w' : World} {ps : List Pl} {k : Int} {S : Nat → Prop} (h : Wr w w' ps k) (hS : ∀ p ∈ ps, S p.1) : Kept w w' S :=
  ⟨h.size, fun i hi hn => (h.block i hi).trans (puts_far ps w k (fun p hp e => hn (e ▸ hS p hp)))⟩
theorem Wr.under {w0 w w' : World} {ps : List Pl} {k : Int} (h : Wr w w' ps k) (hb : Below w0.heap.size w0 w) (ha : ∀ p ∈ ps, w0.heap.size ≤ p.1) : Below w0.heap.size w0 w' :=
  ⟨h.os.trans hb.os, h.tape.trans hb.tape, h.output.trans hb.output, Nat.le_trans hb.size h.size, fun i hi =>
    ((h.block i (Nat.lt_of_lt_of_le hi hb.size)).trans (puts_far ps w k (fun p hp e => by have := ha p hp; omega))).trans (hb.block i hi)⟩
def okc (w : World) (p : Pl) : Prop := (∃ u, w.cell? (adr p) = some u ∧ plain p.2.2 u) ∧ w.frozen? (adr p) = false
def okh (w : World) (q : (Nat × Nat) × Value) : Prop := w.cell? ⟨q.1.1, q.1.2, none⟩ = some q.2 ∧ ∃ A n c, q.2 = .slice A n c
theorem adr_ne {p q : Pl} (h : ¬ (p.1 = q.1 ∧ p.2.1 = q.2.1)) : adr p ≠ adr q := by
  intro e
  injection e with e1 e2
  exact h ⟨e1, e2⟩
theorem okc_set {w : World} {p q : Pl} (hp : okc w p) (hq : okc w q) (k : Int) : okc (w.setCell (adr p) (mkv p.2.2 k)) q := by
  refine ⟨?_, by rw [World.frozen?_setCell]; exact hq.2⟩
  obtain ⟨⟨u, hu, hpu⟩, _⟩ := hp
  obtain ⟨⟨v, hv, hpv⟩, _⟩ := hq
  by_cases c : p.1 = q.1 ∧ p.2.1 = q.2.1
  · have e : adr p = adr q := by unfold adr; rw [c.1, c.2]
    rw [e] at hu ⊢
    rw [hu] at hv
    cases hv
    exact ⟨_, World.cell?_setCell_same _ _ _ hu, by rw [plain_one hpv hpu]; exact plain_mkv _ _⟩
  · exact ⟨v, by rw [World.cell?_setCell_other (h := adr_ne c)]; exact hv, hpv⟩
theorem okh_set {w : World} {p : Pl} {q : (Nat × Nat) × Value} (hp : okc w p) (hq : okh w q) (k : Int) : okh (w.setCell (adr p) (mkv p.2.2 k)) q := by
  obtain ⟨⟨u, hu, hpu⟩, _⟩ := hp
  obtain ⟨hv, A, n, c, he⟩ := hq
  refine ⟨?_, A, n, c, he⟩
  rw [World.cell?_setCell_other]
  · exact hv
  · intro e
    rw [e, hv, he] at hu
    cases hu
    cases hb : p.2.2 <;> rw [hb] at hpu <;> obtain ⟨z, hz⟩ := hpu <;> cases hz
structure Pt (w : World) (hs : List ((Nat × Nat) × Value)) (ps : List Pl) : Prop where
  h : ∀ q ∈ hs, okh w q
  a : ∀ p ∈ ps, okc w p
theorem Pt.nil (w : World) : Pt w [] [] := ⟨fun _ h => by simp at h, fun _ h => by simp at h⟩
theorem Pt.app {w : World} {h1 h2 : List ((Nat × Nat) × Value)} {a1 a2 : List Pl} (x : Pt w h1 a1) (y : Pt w h2 a2) : Pt w (h1 ++ h2) (a1 ++ a2) :=
  ⟨fun q hq => (List.mem_append.1 hq).elim (x.h q) (y.h q), fun p hp => (List.mem_append.1 hp).elim (x.a p) (y.a p)⟩
theorem Pt.left {w : World} {h1 h2 : List ((Nat × Nat) × Value)} {a1 a2 : List Pl} (x : Pt w (h1 ++ h2) (a1 ++ a2)) : Pt w h1 a1 :=
  ⟨fun q hq => x.h q (List.mem_append_left _ hq), fun p hp => x.a p (List.mem_append_left _ hp)⟩
theorem Pt.right {w : World} {h1 h2 : List ((Nat × Nat) × Value)} {a1 a2 : List Pl} (x : Pt w (h1 ++ h2) (a1 ++ a2)) : Pt w h2 a2 :=
  ⟨fun q hq => x.h q (List.mem_append_right _ hq), fun p hp => x.a p (List.mem_append_right _ hp)⟩
theorem Pt.puts {hs : List ((Nat × Nat) × Value)} {ps : List Pl} : ∀ (bs : List Pl) {w : World} (k : Int), Pt w hs ps → (∀ p ∈ bs, okc w p) → Pt (puts w bs k) hs ps
  | [], _, _, h, _ => h
  | p :: bs, w, k, h, hb => by
    have hp := hb p List.mem_cons_self
    exact Pt.puts bs (k + 1) ⟨fun q hq => okh_set hp (h.h q hq) k, fun q hq => okc_set hp (h.a q hq) k⟩ (fun q hq => okc_set hp (hb q (List.mem_cons_of_mem _ hq)) k)
theorem okc_block {w w' : World} {p : Pl} (h : okc w p) (hb : ∀ i, i < w.heap.size → w'.heap[i]? = w.heap[i]?) : okc w' p := by
  obtain ⟨⟨u, hu, hp⟩, hf⟩ := h
  have := hb _ (World.block_lt_of_cell? _ _ hu)
  exact ⟨⟨u, by rw [World.cell?_of_block this]; exact hu, hp⟩, by rw [World.frozen?_of_block this]; exact hf⟩
theorem okh_block {w w' : World} {q : (Nat × Nat) × Value} (h : okh w q) (hb : ∀ i, i < w.heap.size → w'.heap[i]? = w.heap[i]?) : okh w' q :=
  ⟨by rw [World.cell?_of_block (hb _ (World.block_lt_of_cell? _ _ h.1))]; exact h.1, h.2⟩
theorem Pt.block {w w' : World} {hs : List ((Nat × Nat) × Value)} {ps : List Pl} (h : Pt w hs ps) (hb : ∀ i, i < w.heap.size → w'.heap[i]? = w.heap[i]?) : Pt w' hs ps :=
  ⟨fun q hq => okh_block (h.h q hq) hb, fun p hp => okc_block (h.a p hp) hb⟩
theorem Pt.below {w w' : World} {hs : List ((Nat × Nat) × Value)} {ps : List Pl} (h : Pt w hs ps) (hb : Below w.heap.size w w') : Pt w' hs ps := h.block hb.block
theorem Pt.wr {w w' : World} {hs : List ((Nat × Nat) × Value)} {ps bs : List Pl} {k : Int} (h : Pt w hs ps) (hw : Wr w w' bs k) (hb : ∀ p ∈ bs, okc w p) : Pt w' hs ps :=
  (h.puts bs k hb).block (fun i hi => hw.block i (by rwa [puts_size] at hi))
theorem Pt.set {w : World} {hs : List ((Nat × Nat) × Value)} {ps : List Pl} (h : Pt w hs ps) {p : Pl} (hp : okc w p) (k : Int) : Pt (w.setCell (adr p) (mkv p.2.2 k)) hs ps :=
  ⟨fun q hq => okh_set hp (h.h q hq) k, fun q hq => okc_set hp (h.a q hq) k⟩
def Hs (w : World) (ps : List Pl) (k : Int) : Prop := ∀ (i : Nat) (p : Pl), ps[i]? = some p → w.cell? (adr p) = some (mkv p.2.2 (k + (i : Int)))
theorem Hs.block {w w' : World} {ps : List Pl} {k : Int} (h : Hs w ps k) (hb : ∀ i, i < w.heap.size → w'.heap[i]? = w.heap[i]?) : Hs w' ps k :=
  fun i p hp => by rw [World.cell?_of_block (hb _ (World.block_lt_of_cell? _ _ (h i p hp)))]; exact h i p hp
theorem Hs.below {w w' : World} {ps : List Pl} {k : Int} (h : Hs w ps k) (hb : Below w.heap.size w w') : Hs w' ps k := h.block hb.block
theorem Hs.head {w : World} {p : Pl} {ps : List Pl} {k : Int} (h : Hs w (p :: ps) k) : w.cell? (adr p) = some (mkv p.2.2 k) := by
  have := h 0 p rfl
  simpa using this
theorem Hs.left {w : World} {ps bs : List Pl} {k : Int} (h : Hs w (ps ++ bs) k) : Hs w ps k := fun i p hp => h i p (by
  rw [List.getElem?_append_left (List.getElem?_eq_some_iff.1 hp).1]; exact hp)
theorem Hs.right {w : World} {ps bs : List Pl} {k : Int} (h : Hs w (ps ++ bs) k) : Hs w bs (k + (ps.length : Int)) := fun i p hp => by
  have := h (ps.length + i) p (by rw [List.getElem?_append_right (by omega), Nat.add_sub_cancel_left]; exact hp)
  rw [this]
  congr 2
  omega
def apart (ps : List Pl) : Prop := (ps.map fun p => (p.1, p.2.1)).Nodup
theorem puts_cell : ∀ (l : List Pl) (w : World) (k : Int) (q : Pl), (∀ p ∈ l, ¬ (p.1 = q.1 ∧ p.2.1 = q.2.1)) → (puts w l k).cell? (adr q) = w.cell? (adr q)
  | [], _, _, _, _ => rfl
  | p :: l, w, k, q, h => by
    rw [puts, puts_cell l _ _ q (fun r hr => h r (List.mem_cons_of_mem _ hr)), World.cell?_setCell_other (h := adr_ne (h p List.mem_cons_self))]
theorem hs_puts : ∀ (ps : List Pl) {w : World} (k : Int), apart ps → (∀ p ∈ ps, okc w p) → Hs (puts w ps k) ps k
  | [], _, _, _, _ => fun i p h => by simp at h
  | q :: ps, w, k, hn, ho => by
    have hq := ho q List.mem_cons_self
    unfold apart at hn
    rw [List.map_cons, List.nodup_cons] at hn
    have ih := hs_puts ps (w := w.setCell (adr q) (mkv q.2.2 k)) (k + 1) hn.2 (fun p hp => okc_set hq (ho p (List.mem_cons_of_mem _ hp)) k)
    intro i p hp
    cases i with
    | zero =>
      simp only [List.getElem?_cons_zero, Option.some.injEq] at hp
      subst hp
      rw [puts, puts_cell ps _ _ q (fun r hr e => hn.1 (List.mem_map.2 ⟨r, hr, by rw [e.1, e.2]⟩))]
      obtain ⟨⟨u, hu, _⟩, _⟩ := hq
      rw [World.cell?_setCell_same _ _ _ hu]
      congr 2
      omega
    | succ i =>
      simp only [List.getElem?_cons_succ] at hp
      rw [puts, ih i p hp]
      congr 2
      omega
theorem Wr.hs {w w' : World} {ps : List Pl} {k : Int} (h : Wr w w' ps k) (hn : apart ps) (ho : ∀ p ∈ ps, okc w p) : Hs w' ps k :=
  (hs_puts ps k hn ho).block (fun i hi => h.block i (by rwa [puts_size] at hi))
structure Md where
  sz : Nat
  Sh : Nat → Nat → List ((Nat × Nat) × Value) → List Pl → Prop
namespace Md
def int : Md := ⟨1, fun g o hs ps => hs = [] ∧ ps = [(g, o, false)]⟩
def bool : Md := ⟨1, fun g o hs ps => hs = [] ∧ ps = [(g, o, true)]⟩
def pair (a b : Md) : Md := ⟨a.sz + b.sz, fun g o hs ps => ∃ h1 a1 h2 a2, a.Sh g o h1 a1 ∧ b.Sh g (o + a.sz) h2 a2 ∧ hs = h1 ++ h2 ∧ ps = a1 ++ a2⟩
def N (d : Md) (g : Nat) : Nat → Nat → List ((Nat × Nat) × Value) → List Pl → Prop
  | _, 0, hs, ps => hs = [] ∧ ps = []
  | j, n + 1, hs, ps => ∃ h1 a1 h2 a2, d.Sh g (j * d.sz) h1 a1 ∧ N d g (j + 1) n h2 a2 ∧ hs = h1 ++ h2 ∧ ps = a1 ++ a2
def Row (d : Md) (v : Value) (hs : List ((Nat × Nat) × Value)) (ps : List Pl) : Prop :=
  ∃ A n c, v = .slice A n c ∧ n ≤ c ∧ n ≤ 9223372036854775807 ∧ ((n = 0 ∧ hs = [] ∧ ps = []) ∨ ∃ g, A = some ⟨g, 0, none⟩ ∧ d.N g 0 n hs ps)
def Nr (d : Md) (A : Option Addr) (j n : Nat) (hs : List ((Nat × Nat) × Value)) (ps : List Pl) : Prop := (n = 0 ∧ hs = [] ∧ ps = []) ∨ ∃ g, A = some ⟨g, 0, none⟩ ∧ d.N g j n hs ps
theorem Nr_nil {d : Md} {A : Option Addr} {j : Nat} {hs : List ((Nat × Nat) × Value)} {ps : List Pl} (h : d.Nr A j 0 hs ps) : ps = [] := by
  rcases h with ⟨_, _, h⟩ | ⟨g, _, h⟩
  · exact h
  · exact h.2
theorem Nr_cons {d : Md} {A : Option Addr} {j n : Nat} {hs : List ((Nat × Nat) × Value)} {ps : List Pl} (h : d.Nr A j (n + 1) hs ps) :
    ∃ g, A = some ⟨g, 0, none⟩ ∧ ∃ h1 a1 h2 a2, d.Sh g (j * d.sz) h1 a1 ∧ d.Nr A (j + 1) n h2 a2 ∧ hs = h1 ++ h2 ∧ ps = a1 ++ a2 := by
  rcases h with ⟨h, _⟩ | ⟨g, hA, h1, a1, h2, a2, x, y, z⟩
  · cases h
  · exact ⟨g, hA, h1, a1, h2, a2, x, .inr ⟨g, hA, y⟩, z⟩
def slice (d : Md) : Md := ⟨1, fun g o hs ps => ∃ v h1, d.Row v h1 ps ∧ hs = ((g, o), v) :: h1⟩
end Md
end Go.Proofs.Ytjngkfepppejeaa.Mk
end
section
namespace Go.Proofs.Ytjngkfepppejeaa.Mk
open Go.RowKit Go.Proofs.YtjngkfepppejeaaW.PrintWords Go.Proofs.YtjngkfepppejeaaW.PrintLast
set_option linter.unusedVariables false
set_option linter.unusedSimpArgs false
theorem apart_nil : apart [] := List.nodup_nil
theorem apart_app {a b : List Pl} (ha : apart a) (hb : apart b) (h : ∀ p ∈ a, ∀ q ∈ b, ¬ (p.1 = q.1 ∧ p.2.1 = q.2.1)) : apart (a ++ b) := by
  unfold apart at *
  rw [List.map_append, List.nodup_append]
  refine ⟨ha, hb, fun x hx y hy e => ?_⟩
  obtain ⟨p, hp, rfl⟩ := List.mem_map.1 hx
  obtain ⟨q, hq, rfl⟩ := List.mem_map.1 hy
  injection e with e1 e2
  exact h p hp q hq ⟨e1, e2⟩
structure Br {α : Type} (d : Kd α) (m : Md) (c inn : α → Nat) (ex : α → Prop) : Prop where
  sz : m.sz = d.sz
  el : ∀ {w : World} {base : Nat} {ok : Nat → Prop} {x : α} {cs : List Value} {g o : Nat}, d.M w base ok x cs → (∀ k, ok k → k ≠ g) → (∀ j u, cs[j]? = some u → w.cell? ⟨g, o + j, none⟩ = some u) → (∀ j, w.frozen? ⟨g, o + j, none⟩ = false) →
    ∃ hs ps, m.Sh g o hs ps ∧ Pt w hs ps ∧ ps.length = c x ∧ (ex x → apart ps) ∧ (∀ p ∈ ps, (p.1 = g ∧ o ≤ p.2.1 ∧ p.2.1 < o + m.sz) ∨ (ok p.1 ∧ inn x ≠ 0)) ∧ ∀ q ∈ hs, q.1.1 = g ∨ ok q.1.1
namespace Br
variable {α β : Type}
theorem int : Br (Kd.int .i64) Md.int (fun _ => 1) (fun _ => 0) (fun _ => True) where
  sz := rfl
  el := by
    intro w base ok x cs g o h _ hc hf
    obtain rfl : cs = [.int .i64 x] := h
    refine ⟨[], [(g, o, false)], ⟨rfl, rfl⟩, ⟨fun _ h => by simp at h, fun p hp => ?_⟩, rfl, fun _ => by simp [apart], fun p hp => ?_, fun _ h => by simp at h⟩
    · obtain rfl := List.mem_singleton.1 hp
      exact ⟨⟨_, hc 0 _ rfl, x, rfl⟩, hf 0⟩
    · obtain rfl := List.mem_singleton.1 hp
      exact .inl ⟨rfl, Nat.le_refl _, Nat.lt_succ_self _⟩
theorem bool : Br Kd.bool Md.bool (fun _ => 1) (fun _ => 0) (fun _ => True) where
  sz := rfl
  el := by
    intro w base ok x cs g o h _ hc hf
    obtain rfl : cs = [.bool x] := h
    refine ⟨[], [(g, o, true)], ⟨rfl, rfl⟩, ⟨fun _ h => by simp at h, fun p hp => ?_⟩, rfl, fun _ => by simp [apart], fun p hp => ?_, fun _ h => by simp at h⟩
    · obtain rfl := List.mem_singleton.1 hp
      exact ⟨⟨_, hc 0 _ rfl, x, rfl⟩, hf 0⟩
    · obtain rfl := List.mem_singleton.1 hp
      exact .inl ⟨rfl, Nat.le_refl _, Nat.lt_succ_self _⟩
theorem pair {d1 : Kd α} {d2 : Kd β} {m1 m2 : Md} {c1 i1 : α → Nat} {c2 i2 : β → Nat} {e1 : α → Prop} {e2 : β → Prop} (h1 : Br d1 m1 c1 i1 e1) (h2 : Br d2 m2 c2 i2 e2) :
    Br (Kd.pair d1 d2) (Md.pair m1 m2) (fun x => c1 x.1 + c2 x.2) (fun x => i1 x.1 + i2 x.2) (fun x => e1 x.1 ∧ e2 x.2 ∧ (i1 x.1 = 0 ∨ i2 x.2 = 0)) where
  sz := by show m1.sz + m2.sz = d1.sz + d2.sz; rw [h1.sz, h2.sz]
  el := by
    rintro w base ok x cs g o ⟨u0, u1, rfl, hM1, hM2⟩ hg hc hf
    have hl := d1.K_len (d1.K_of_M hM1)
    obtain ⟨s1, a1, sh1, p1, l1, x1, b1, q1⟩ := h1.el (g := g) (o := o) hM1 hg (fun j u hu => hc j u (by rw [List.getElem?_append_left (List.getElem?_eq_some_iff.1 hu).1]; exact hu)) hf
    obtain ⟨s2, a2, sh2, p2, l2, x2, b2, q2⟩ := h2.el (g := g) (o := o + m1.sz) hM2 hg (fun j u hu => by
      have := hc (m1.sz + j) u (by rw [List.getElem?_append_right (by rw [hl, h1.sz]; omega), hl, h1.sz, Nat.add_sub_cancel_left]; exact hu)
      rw [← Nat.add_assoc] at this
      exact this) (fun j => by have := hf (m1.sz + j); rw [← Nat.add_assoc] at this; exact this)
    refine ⟨s1 ++ s2, a1 ++ a2, ⟨s1, a1, s2, a2, sh1, sh2, rfl, rfl⟩, p1.app p2, by rw [List.length_append, l1, l2], ?_, ?_, fun q hq => (List.mem_append.1 hq).elim (q1 q) (q2 q)⟩
    · rintro ⟨y1, y2, y3⟩
      refine apart_app (x1 y1) (x2 y2) (fun p hp q hq e => ?_)
      rcases b1 p hp with hp' | ⟨hp', hp2⟩
      · rcases b2 q hq with hq' | ⟨hq', _⟩
        · omega
        · exact hg _ hq' (by rw [← e.1]; exact hp'.1)
      · rcases b2 q hq with hq' | ⟨_, hq2⟩
        · exact hg _ hp' (by rw [e.1]; exact hq'.1)
        · exact y3.elim hp2 hq2
    · intro p hp
      show (p.1 = g ∧ o ≤ p.2.1 ∧ p.2.1 < o + (m1.sz + m2.sz)) ∨ _
      rcases List.mem_append.1 hp with hp | hp
      · rcases b1 p hp with hp' | hp'
        · exact .inl ⟨hp'.1, by omega, by omega⟩
        · exact .inr ⟨hp'.1, by have := hp'.2; omega⟩
      · rcases b2 p hp with hp' | hp'
        · exact .inl ⟨hp'.1, by omega, by omega⟩
        · exact .inr ⟨hp'.1, by have := hp'.2; omega⟩
end Br
section
variable {α : Type} {d : Kd α} {m : Md} {c inn : α → Nat} {ex : α → Prop}
def tot (c : α → Nat) (xs : List α) : Nat := (xs.map c).sum
theorem tot_one (xs : List α) : tot (fun _ => 1) xs = xs.length := by
  induction xs with
  | nil => rfl
  | cons x xs ih =>
    unfold tot at *
    rw [List.map_cons, List.sum_cons, ih, List.length_cons, Nat.add_comm]
theorem tot_drop (c : α → Nat) (xs : List α) (j : Nat) (h : j < xs.length) : tot c (xs.drop j) = c xs[j] + tot c (xs.drop (j + 1)) := by
  unfold tot
  rw [List.drop_eq_getElem_cons h, List.map_cons, List.sum_cons]
theorem row_n (hb : Br d m c inn ex) {w : World} {base g : Nat} {ok : Nat → Prop} {Q : Nat → Nat → Prop} (xs : List α)
    (E : ∀ i (h : i < xs.length), ∃ cs, d.M w base (fun k => ok k ∧ k ≠ g ∧ Q i k) xs[i] cs ∧ (∀ j u, cs[j]? = some u → w.cell? ⟨g, i * m.sz + j, none⟩ = some u) ∧ ∀ j, w.frozen? ⟨g, i * m.sz + j, none⟩ = false) :
    ∀ n j, j + n = xs.length → ∃ hs ps, m.N g j n hs ps ∧ Pt w hs ps ∧ ps.length = tot c (xs.drop j) ∧ (∀ q ∈ hs, q.1.1 = g ∨ ok q.1.1) ∧
      (∀ p ∈ ps, (p.1 = g ∧ j * m.sz ≤ p.2.1) ∨ (ok p.1 ∧ p.1 ≠ g ∧ ∃ i, j ≤ i ∧ Q i p.1 ∧ ∃ h : i < xs.length, inn xs[i] ≠ 0)) ∧
      ((∀ x ∈ xs, ex x) → ((∀ i i' k, Q i k → Q i' k → i = i') ∨ ∀ x ∈ xs, inn x = 0) → apart ps)
  | 0, j, e => ⟨[], [], ⟨rfl, rfl⟩, Pt.nil w, by
      rw [List.drop_eq_nil_of_le (by omega)]
      rfl, fun q hq => by simp at hq, fun p hp => by simp at hp, fun _ _ => apart_nil⟩
  | n + 1, j, e => by
    have hj : j < xs.length := by omega
    obtain ⟨cs, hM, hc, hf⟩ := E j hj
    obtain ⟨s1, a1, sh1, p1, l1, x1, b1, q1⟩ := hb.el (g := g) (o := j * m.sz) hM (fun k hk => hk.2.1) hc hf
    obtain ⟨s2, a2, sh2, p2, l2, q2, b2, x2⟩ := row_n hb xs E n (j + 1) (by omega)
    have hmul : (j + 1) * m.sz = j * m.sz + m.sz := Nat.succ_mul _ _
    refine ⟨s1 ++ s2, a1 ++ a2, ⟨s1, a1, s2, a2, sh1, sh2, rfl, rfl⟩, p1.app p2, by rw [List.length_append, l1, l2, tot_drop c xs j hj], fun q hq => (List.mem_append.1 hq).elim (fun h => (q1 q h).imp_right (·.1)) (q2 q), ?_, ?_⟩
    · intro p hp
      rcases List.mem_append.1 hp with hp | hp
      · rcases b1 p hp with hp' | hp'
        · exact .inl ⟨hp'.1, hp'.2.1⟩
        · exact .inr ⟨hp'.1.1, hp'.1.2.1, j, Nat.le_refl _, hp'.1.2.2, hj, hp'.2⟩
      · rcases b2 p hp with hp' | ⟨h1, h2, i, hi, hq, hl, hn⟩
        · exact .inl ⟨hp'.1, by omega⟩
        · exact .inr ⟨h1, h2, i, by omega, hq, hl, hn⟩
    · intro y1 y2
      refine apart_app (x1 (y1 _ (List.getElem_mem hj))) (x2 y1 y2) (fun p hp q hq e => ?_)
      rcases b1 p hp with hp' | hp'
      · rcases b2 q hq with hq' | hq'
        · omega
        · exact hq'.2.1 (by rw [← e.1]; exact hp'.1)
      · rcases b2 q hq with hq' | ⟨_, _, i, hi, hqi, hl, hn⟩
        · exact hp'.1.2.1 (by rw [e.1]; exact hq'.1)
        · rcases y2 with y2 | y2
          · have := y2 j i p.1 hp'.1.2.2 (by rw [e.1]; exact hqi)
            omega
          · exact hn (y2 _ (List.getElem_mem hl))
theorem row_R (hb : Br d m c inn ex) {e base : Nat} {w : World} {ok : Nat → Prop} {v : Value} {xs : List α} (h : d.R e w base ok v xs) :
    ∃ hs ps, m.Row v hs ps ∧ Pt w hs ps ∧ ps.length = tot c xs ∧ (∀ q ∈ hs, ok q.1.1) ∧ (∀ p ∈ ps, ok p.1 ∧ (some p.1 = v.ownBlock ∨ ∃ x ∈ xs, inn x ≠ 0)) ∧ ((∀ x ∈ xs, ex x) → (∀ x ∈ xs, inn x = 0) → apart ps) := by
  obtain ⟨A, cp, rfl, hle, hC⟩ := Kd.R_reads h
  have hmax : xs.length ≤ 9223372036854775807 := hC.2.1
  by_cases hp : 0 < xs.length
  · obtain ⟨g, cap, he, _, _, _⟩ := Kd.R_form h hp
    injection he with h1 h2 h3
    subst h1
    obtain ⟨z⟩ : Nonempty α := ⟨xs[0]⟩
    obtain ⟨hs, ps, hN, hPt, hl, hq0, hbk, hx⟩ := row_n hb (g := g) (ok := ok) (Q := fun _ _ => True) (base := base) (w := w) xs (fun i hi => by
      obtain ⟨cs, _, hM, hc, hf⟩ := Kd.R_elem h z (i : Int) (by omega) (by omega)
      rw [Int.toNat_natCast] at hM hc hf
      rw [List.getD_eq_getElem?_getD, List.getElem?_eq_getElem hi, Option.getD_some] at hM
      rw [← hb.sz] at hc hf
      exact ⟨cs, d.M_mono (fun k hk => ⟨hk.1, hk.2, trivial⟩) hM, hc, hf⟩) xs.length 0 (by omega)
    refine ⟨hs, ps, ⟨_, _, _, rfl, hle, hmax, .inr ⟨g, rfl, hN⟩⟩, hPt, by rw [hl, List.drop_zero], fun q hq => (hq0 q hq).elim (fun e => by rw [e]; exact h.1 g rfl) id, fun p hp => ?_, fun y1 y2 => hx y1 (.inr y2)⟩
    rcases hbk p hp with hp' | ⟨hp', _, i, _, _, hl, hn⟩
    · exact ⟨by rw [hp'.1]; exact h.1 g rfl, .inl (by rw [hp'.1]; rfl)⟩
    · exact ⟨hp', .inr ⟨_, List.getElem_mem hl, hn⟩⟩
  · have h0 : xs = [] := List.eq_nil_of_length_eq_zero (by omega)
    subst h0
    exact ⟨[], [], ⟨_, _, _, rfl, hle, hmax, .inl ⟨rfl, rfl, rfl⟩⟩, Pt.nil w, rfl, fun q hq => by simp at hq, fun p hp => by simp at hp, fun _ _ => apart_nil⟩
theorem row_S (hb : Br d m c inn ex) {e base : Nat} {w : World} {ok : Nat → Prop} {v : Value} {xs : List α} (h : Kd.S d e w base ok v xs) :
    ∃ hs ps, m.Row v hs ps ∧ Pt w hs ps ∧ ps.length = tot c xs ∧ (∀ q ∈ hs, ok q.1.1) ∧ (∀ p ∈ ps, ok p.1 ∧ (some p.1 = v.ownBlock ∨ ∃ x ∈ xs, inn x ≠ 0)) ∧ ((∀ x ∈ xs, ex x) → apart ps) := by
  have hR := Kd.S_R h
  obtain ⟨A, cp, rfl, hle, hC⟩ := Kd.R_reads hR
  have hmax : xs.length ≤ 9223372036854775807 := hC.2.1
  obtain ⟨f, hf_⟩ := h
  by_cases hp : 0 < xs.length
  · obtain ⟨g, cap, he, _, _, _⟩ := Kd.R_form hR hp
    injection he with h1 h2 h3
    subst h1
    obtain ⟨z⟩ : Nonempty α := ⟨xs[0]⟩
    obtain ⟨hs, ps, hN, hPt, hl, hq0, hbk, hx⟩ := row_n hb (g := g) (ok := ok) (Q := fun i k => f k = i) (base := base) (w := w) xs (fun i hi => by
      obtain ⟨cs, _, hM, hc, hf⟩ := Kd.R_elem hf_ (z, 0) (i : Int) (by omega) (by omega)
      rw [Int.toNat_natCast] at hM hc hf
      rw [List.getD_eq_getElem?_getD, Kd.zip_at (List.getElem?_eq_getElem hi), Option.getD_some] at hM
      rw [show (Kd.tag f d).sz = m.sz from hb.sz.symm] at hc hf
      exact ⟨cs, d.M_mono (fun k hk => ⟨hk.1.1, hk.1.2, hk.2⟩) hM, hc, hf⟩) xs.length 0 (by omega)
    refine ⟨hs, ps, ⟨_, _, _, rfl, hle, hmax, .inr ⟨g, rfl, hN⟩⟩, hPt, by rw [hl, List.drop_zero], fun q hq => (hq0 q hq).elim (fun e => by rw [e]; exact hR.1 g rfl) id, fun p hp => ?_, fun y1 => hx y1 (.inl fun i i' k h1 h2 => h1.symm.trans h2)⟩
    rcases hbk p hp with hp' | ⟨hp', _, i, _, _, hl, hn⟩
    · exact ⟨by rw [hp'.1]; exact hR.1 g rfl, .inl (by rw [hp'.1]; rfl)⟩
    · exact ⟨hp', .inr ⟨_, List.getElem_mem hl, hn⟩⟩
  · have h0 : xs = [] := List.eq_nil_of_length_eq_zero (by omega)
    subst h0
    exact ⟨[], [], ⟨_, _, _, rfl, hle, hmax, .inl ⟨rfl, rfl, rfl⟩⟩, Pt.nil w, rfl, fun q hq => by simp at hq, fun p hp => by simp at hp, fun _ => apart_nil⟩
theorem Br.slice (hb : Br d m c inn ex) (e : Nat) (h0 : ∀ x, inn x = 0) : Br (Kd.slice e d) (Md.slice m) (fun xs => tot c xs) (fun xs => tot c xs) (fun xs => ∀ x ∈ xs, ex x) where
  sz := rfl
  el := by
    rintro w base ok x cs g o ⟨v, rfl, hR⟩ hg hc hf
    obtain ⟨hs, ps, hr, hPt, hl, hq0, hbk, hx⟩ := row_R hb hR
    obtain ⟨A, n, cp, hv, _⟩ := hr
    refine ⟨((g, o), v) :: hs, ps, ⟨v, hs, ⟨A, n, cp, hv, by assumption⟩, rfl⟩, ⟨fun q hq => ?_, hPt.a⟩, hl, fun y => hx y (fun x _ => h0 x), fun p hp => .inr ⟨(hbk p hp).1, ?_⟩, fun q hq => ?_⟩
    · rcases List.mem_cons.1 hq with rfl | hq
      · exact ⟨hc 0 _ rfl, A, n, cp, hv⟩
      · exact hPt.h q hq
    · show tot c x ≠ 0
      have := List.length_pos_of_mem hp
      omega
    · rcases List.mem_cons.1 hq with rfl | hq
      · exact .inl rfl
      · exact .inr (hq0 q hq)
end
structure Sg (w : World) (k : Int) (wr : World) (pre : List Pl) (hs : List ((Nat × Nat) × Value)) (ps : List Pl) (kk : Int) : Prop where
  ek : kk = k + (pre.length : Int)
  pt : Pt wr hs ps
  wr : Wr w wr pre k
theorem Pt.sub {w : World} {hs h1 : List ((Nat × Nat) × Value)} {ps a1 : List Pl} (h : Pt w hs ps) (x : ∀ q ∈ h1, q ∈ hs) (y : ∀ q ∈ a1, q ∈ ps) : Pt w h1 a1 := ⟨fun q hq => h.h q (x q hq), fun q hq => h.a q (y q hq)⟩
namespace Sg
variable {w wr w2 : World} {k kk : Int} {pre ps qs a1 a2 : List Pl} {hs h1 h2 : List ((Nat × Nat) × Value)}
theorem start (h : Pt w hs ps) (k : Int) : Sg w k w [] hs ps k := ⟨by simp, h, Wr.refl w k⟩
theorem put (h : Sg w k wr pre hs ps kk) {b o : Nat} {t : Bool} (hm : (b, o, t) ∈ ps) {v : Value} (hv : v = mkv t kk) : Sg w k (wr.setCell ⟨b, o, none⟩ v) (pre ++ [(b, o, t)]) hs ps (kk + 1) := by
  subst hv
  refine ⟨by rw [h.ek, List.length_append, List.length_singleton]; omega, h.pt.set (p := (b, o, t)) (h.pt.a _ hm) kk, h.wr.put (b, o, t) h.ek⟩
theorem call (h : Sg w k wr pre hs ps kk) (hw : Wr wr w2 qs kk) (hq : ∀ q ∈ qs, q ∈ ps) : Sg w k w2 (pre ++ qs) hs ps (kk + (qs.length : Int)) :=
  ⟨by rw [h.ek, List.length_append]; omega, h.pt.wr hw (fun p hp => h.pt.a p (hq p hp)), h.wr.trans hw h.ek⟩
theorem below (h : Sg w k wr pre hs ps kk) (hb : Below wr.heap.size wr w2) : Sg w k w2 pre hs ps kk := ⟨h.ek, h.pt.below hb, h.wr.below hb⟩
theorem rest (h : Sg w k wr pre (h1 ++ h2) (a1 ++ a2) kk) : Sg w k wr pre h2 a2 kk := ⟨h.ek, h.pt.right, h.wr⟩
theorem cell (h : Sg w k wr pre hs ps kk) {b o : Nat} {t : Bool} (hm : (b, o, t) ∈ ps) : ∃ u, wr.cell? ⟨b, o, none⟩ = some u ∧ wr.frozen? ⟨b, o, none⟩ = false := by
  obtain ⟨⟨u, hu, _⟩, hf⟩ := h.pt.a _ hm
  exact ⟨u, hu, hf⟩
theorem head (h : Sg w k wr pre hs ps kk) {b o : Nat} {v : Value} (hm : ((b, o), v) ∈ hs) : wr.cell? ⟨b, o, none⟩ = some v := (h.pt.h _ hm).1
theorem sub (h : Sg w k wr pre hs ps kk) (x : ∀ q ∈ h1, q ∈ hs) (y : ∀ q ∈ a1, q ∈ ps) : Pt wr h1 a1 := h.pt.sub x y
theorem narrow (h : Sg w k wr pre hs ps kk) (x : ∀ q ∈ h1, q ∈ hs) (y : ∀ q ∈ a1, q ∈ ps) : Sg w k wr pre h1 a1 kk := ⟨h.ek, h.pt.sub x y, h.wr⟩
end Sg
theorem Wr.after {w wb w2 : World} {ps : List Pl} {k : Int} (hb : Below w.heap.size w wb) (h : Wr wb w2 ps k) : Wr w w2 ps k :=
  ⟨h.os.trans hb.os, h.tape.trans hb.tape, h.output.trans hb.output, Nat.le_trans hb.size h.size, fun i hi =>
    (h.block i (Nat.lt_of_lt_of_le hi hb.size)).trans (puts_cong ps k (hb.block i hi))⟩
theorem Md.Row_slice {d : Md} {v : Value} {hs : List ((Nat × Nat) × Value)} {ps : List Pl} (h : d.Row v hs ps) : ∃ A n c, v = .slice A n c := by
  obtain ⟨A, n, c, e, _⟩ := h
  exact ⟨A, n, c, e⟩
structure Sq (w : World) (k : Int) (wr : World) (pre : List Pl) (hs : List ((Nat × Nat) × Value)) (ps : List Pl) (kk : Int) : Prop where
  ek : kk = k + (pre.length : Int)
  pt : Pt wr hs ps
  hd : Hs wr ps kk
  bl : Below w.heap.size w wr
theorem Hs.tail {w : World} {p : Pl} {ps : List Pl} {k : Int} (h : Hs w (p :: ps) k) : Hs w ps (k + 1) := by
  have := Hs.right (ps := [p]) (bs := ps) h
  simpa using this
namespace Sq
variable {w wr w2 : World} {k kk : Int} {pre ps qs a1 a2 : List Pl} {hs h1 h2 : List ((Nat × Nat) × Value)} {p : Pl}
theorem start (h : Pt w hs ps) (g : Hs w ps k) : Sq w k w [] hs ps k := ⟨by simp, h, g, Below.refl _ _⟩
theorem cell {b o : Nat} {t : Bool} (h : Sq w k wr pre hs ((b, o, t) :: ps) kk) : wr.cell? ⟨b, o, none⟩ = some (mkv t kk) := h.hd.head (p := (b, o, t))
theorem tail (h : Sq w k wr pre hs (p :: ps) kk) : Sq w k wr (pre ++ [p]) hs ps (kk + 1) :=
  ⟨by rw [h.ek, List.length_append, List.length_singleton]; omega, ⟨h.pt.h, fun q hq => h.pt.a q (List.mem_cons_of_mem _ hq)⟩, h.hd.tail, h.bl⟩
theorem call (h : Sq w k wr pre hs (a1 ++ a2) kk) (hb : Below wr.heap.size wr w2) : Sq w k w2 (pre ++ a1) hs a2 (kk + (a1.length : Int)) :=
  ⟨by rw [h.ek, List.length_append]; omega, ⟨(h.pt.below hb).h, fun q hq => (h.pt.below hb).a q (List.mem_append_right _ hq)⟩, h.hd.right.below hb, h.bl.trans (hb.mono h.bl.size)⟩
theorem head (h : Sq w k wr pre hs ps kk) {b o : Nat} {v : Value} (hm : ((b, o), v) ∈ hs) : wr.cell? ⟨b, o, none⟩ = some v := (h.pt.h _ hm).1
theorem narrow (h : Sq w k wr pre hs ps kk) (x : ∀ q ∈ h1, q ∈ hs) : Sq w k wr pre h1 ps kk := ⟨h.ek, h.pt.sub x (fun _ hq => hq), h.hd, h.bl⟩
end Sq
end Go.Proofs.Ytjngkfepppejeaa.Mk
end
section
namespace Go.Proofs.Ytjngkfepppejeaa.Mk
open Go.RowKit Go.Proofs.YtjngkfepppejeaaW.PrintWords Go.Proofs.YtjngkfepppejeaaW.PrintLast
set_option linter.unusedVariables false
set_option linter.unusedSimpArgs false
def Bt (lo hi : Nat) (q : Nat) : Prop := lo ≤ q ∧ q < hi
abbrev Item := Nat × Nat × (World → Prop)
def Chn (n0 : Nat) (W : World) : List Item → Prop
  | [] => True
  | (lo, hi, P) :: L => n0 ≤ lo ∧ lo ≤ hi ∧ hi ≤ W.heap.size ∧ Foot P W (Bt lo hi) ∧ (∀ y ∈ L, y.2.1 ≤ lo) ∧ Chn n0 W L
theorem Chn.step {n0 : Nat} {W W' : World} {S : Nat → Prop} (hk : Kept W W' S) : ∀ {L : List Item}, (∀ y ∈ L, ∀ q, Bt y.1 y.2.1 q → ¬ S q) → Chn n0 W L → Chn n0 W' L
  | [], _, _ => trivial
  | (lo, hi, P) :: L, hd, ⟨h1, h2, h3, h4, h5, h6⟩ =>
    ⟨h1, h2, Nat.le_trans h3 hk.1, h4.step (fun k hk' hlt => hk.2 k hlt (hd _ List.mem_cons_self k hk')), h5, Chn.step hk (fun y hy => hd y (List.mem_cons_of_mem _ hy)) h6⟩
theorem Chn.lt {n0 : Nat} {W : World} : ∀ {L : List Item}, Chn n0 W L → ∀ y ∈ L, n0 ≤ y.1 ∧ y.1 ≤ y.2.1 ∧ y.2.1 ≤ W.heap.size
  | [], _, y, hy => by simp at hy
  | (lo, hi, P) :: L, ⟨h1, h2, h3, _, _, h6⟩, y, hy => by
    rcases List.mem_cons.1 hy with rfl | hy
    · exact ⟨h1, h2, h3⟩
    · exact Chn.lt h6 y hy
structure Ch (w W : World) (L : List Item) : Prop where
  b : Below w.heap.size w W
  c : Chn w.heap.size W L
namespace Ch
variable {w W W' : World} {L L1 L2 : List Item} {lo hi : Nat} {P P' : World → Prop}
theorem start (w : World) : Ch w w [] := ⟨Below.refl _ _, trivial⟩
theorem below (h : Ch w W L) (hb : Below W.heap.size W W') : Ch w W' L := ⟨below_step h.b hb, Chn.step (Kept.of_below hb (fun _ => False)) (fun _ _ _ _ h => h) h.c⟩
theorem drawn (h : Ch w W L) (hd : Drawn0 W W') : Ch w W' L := by
  obtain ⟨n, rfl⟩ := hd.out
  exact h.below (pw_below_drewN (Below.refl _ _) n)
theorem push (h : Ch w W L) (hb : Below W.heap.size W W') {Q : Nat → Nat → World → Prop} (hQ : Foot (Q W.heap.size W'.heap.size) W' (Bt W.heap.size W'.heap.size)) : ∃ lo hi, Ch w W' ((lo, hi, Q lo hi) :: L) :=
  ⟨W.heap.size, W'.heap.size, (h.below hb).b, h.b.size, hb.size, Nat.le_refl _, hQ, fun y hy => (h.c.lt y hy).2.2, (h.below hb).c⟩
theorem get (h : Ch w W L) : ∀ (i : Nat), L[i]? = some (lo, hi, P) → P W ∧ Foot P W (Bt lo hi) := by
  have key : ∀ {L : List Item}, Chn w.heap.size W L → ∀ (i : Nat), L[i]? = some (lo, hi, P) → P W ∧ Foot P W (Bt lo hi) := by
    intro L
    induction L with
    | nil => intro _ i e; simp at e
    | cons y L ih =>
      intro hc i e
      obtain ⟨a, b, Q⟩ := y
      cases i with
      | zero =>
        simp only [List.getElem?_cons_zero, Option.some.injEq, Prod.mk.injEq] at e
        obtain ⟨rfl, rfl, rfl⟩ := e
        exact ⟨hc.2.2.2.1.now, hc.2.2.2.1⟩
      | succ i => exact ih hc.2.2.2.2.2 i (by simpa using e)
  exact key h.c
theorem at_ (h : Ch w W L) (i : Nat) (e : L[i]? = some (lo, hi, P)) : P W := (h.get i e).1
theorem mark (h : Ch w W (L1 ++ (lo, hi, P) :: L2)) (hk : Kept W W' (Bt lo hi)) (hb : Below w.heap.size w W') (hP : Foot P' W' (Bt lo hi)) : Ch w W' (L1 ++ (lo, hi, P') :: L2) := by
  refine ⟨hb, ?_⟩
  have key : ∀ {L1 : List Item}, Chn w.heap.size W (L1 ++ (lo, hi, P) :: L2) → Chn w.heap.size W' (L1 ++ (lo, hi, P') :: L2) := by
    intro L1
    induction L1 with
    | nil =>
      rintro ⟨h1, h2, h3, h4, h5, h6⟩
      exact ⟨h1, h2, Nat.le_trans h3 hk.1, hP, h5, Chn.step hk (fun y hy q hq hq2 => by have := h5 y hy; have := hq.2; have := hq2.1; omega) h6⟩
    | cons y L1 ih =>
      obtain ⟨a, b, Q⟩ := y
      rintro ⟨h1, h2, h3, h4, h5, h6⟩
      refine ⟨h1, h2, Nat.le_trans h3 hk.1, h4.step (fun k hk' hlt => hk.2 k hlt (fun hq => ?_)), ?_, ih h6⟩
      · have := h5 (lo, hi, P) (List.mem_append_right _ List.mem_cons_self)
        have := hk'.1
        have := hq.2
        simp only at *
        omega
      · intro y hy
        rcases List.mem_append.1 hy with hy | hy
        · exact h5 y (List.mem_append_left _ hy)
        · rcases List.mem_cons.1 hy with rfl | hy
          · exact h5 (lo, hi, P) (List.mem_append_right _ List.mem_cons_self)
          · exact h5 y (List.mem_append_right _ (List.mem_cons_of_mem _ hy))
  exact key h.c
theorem lt_ (h : Ch w W (L1 ++ (lo, hi, P) :: L2)) : w.heap.size ≤ lo := (h.c.lt (lo, hi, P) (List.mem_append_right _ List.mem_cons_self)).1
theorem wr {ps : List Pl} {k : Int} (h : Ch w W (L1 ++ (lo, hi, P) :: L2)) (hw : Wr W W' ps k) (hp : ∀ p ∈ ps, Bt lo hi p.1) (hP : Foot P' W' (Bt lo hi)) : Ch w W' (L1 ++ (lo, hi, P') :: L2) :=
  h.mark (hw.kept hp) (hw.under h.b (fun p hq => Nat.le_trans h.lt_ (hp p hq).1)) hP
theorem wr0 {ps : List Pl} {k : Int} (h : Ch w W (L1 ++ (lo, hi, P) :: L2)) (hw : Wr W W' ps k) (hp : ∀ p ∈ ps, Bt lo hi p.1) : Ch w W' (L1 ++ (lo, hi, fun _ => True) :: L2) :=
  h.wr hw hp (fun _ _ => trivial)
end Ch
section
variable {α : Type} {d : Kd α} {e : Nat} {W W' : World} {lo hi : Nat} {v : Value} {xs : List α}
theorem foot_S (h : Kd.S d e W lo (Bt lo hi) v xs) : Foot (fun U => Kd.S d e U lo (Bt lo hi) v xs) W (Bt lo hi) := fun _ hW => Kd.S_step h hW
theorem in_S {ok : Nat → Prop} (h : Kd.S d e W' W.heap.size ok v xs) : Kd.S d e W' W.heap.size (Bt W.heap.size W'.heap.size) v xs := Kd.S_mono (Kd.S_bound h) (fun _ hk => ⟨hk.2.1, hk.2.2.1⟩)
theorem foot_and {P Q : World → Prop} {ok : Nat → Prop} (h : Foot P W ok) (g : Foot Q W ok) : Foot (fun U => P U ∧ Q U) W ok := fun U hU => ⟨h U hU, g U hU⟩
end
theorem foot_pt {W : World} {hs : List ((Nat × Nat) × Value)} {ps : List Pl} {ok : Nat → Prop} (h : Pt W hs ps) (h1 : ∀ q ∈ hs, ok q.1.1) (h2 : ∀ p ∈ ps, ok p.1) : Foot (fun U => Pt U hs ps) W ok := fun U hU => by
  refine ⟨fun q hq => ?_, fun p hp => ?_⟩
  · have a := h.h q hq
    exact ⟨by rw [World.cell?_of_block (hU _ (h1 q hq) (World.block_lt_of_cell? _ _ a.1))]; exact a.1, a.2⟩
  · obtain ⟨⟨u, hu, hpu⟩, hf⟩ := h.a p hp
    have e := hU _ (h2 p hp) (World.block_lt_of_cell? _ _ hu)
    exact ⟨⟨u, by rw [World.cell?_of_block e]; exact hu, hpu⟩, by rw [World.frozen?_of_block e]; exact hf⟩
theorem foot_hs {W : World} {ps : List Pl} {k : Int} {ok : Nat → Prop} (h : Hs W ps k) (h2 : ∀ p ∈ ps, ok p.1) : Foot (fun U => Hs U ps k) W ok := fun U hU i p hp => by
  rw [World.cell?_of_block (hU _ (h2 p (List.mem_of_getElem? hp)) (World.block_lt_of_cell? _ _ (h i p hp)))]
  exact h i p hp
end Go.Proofs.Ytjngkfepppejeaa.Mk
end
section
namespace Go.Proofs.Ytjngkfepppejeaa.Mk
open Go.RowKit Go.Proofs.Ytjngkfepppejeaa.P Go.Proofs.YtjngkfepppejeaaW.PrintWords Go.Proofs.YtjngkfepppejeaaW.PrintLast Go.Proofs.YtjngkfepppejeaaW.PrintMore
set_option linter.unusedVariables false
set_option linter.unusedSimpArgs false
set_option maxHeartbeats 4000000 in
set_option maxRecDepth 100000 in
theorem markIntS_ok (v : Value) (hs : List ((Nat × Nat) × Value)) (ps : List Pl) (k : Int) (w : World) (hr : Md.Row (Md.int) v hs ps) (hp : Pt w hs ps) (h0 : 0 ≤ k) (h1 : k + (ps.length : Int) ≤ 1000000000) :
    Calls Try.prog 68 #[v, .int .i64 k] w fun e w' => e = .returned (.int .i64 (k + (ps.length : Int))) ∧ Wr w w' ps k := by
  obtain ⟨A, n, c, rfl, hnc, hmax, hN0⟩ := hr
  have HN : Aside0 (Md.Nr (Md.int) A 0 n hs ps) := ⟨hN0⟩
  have HG := Aside0.mk (Sg.start hp k)
  clear hN0 hp hnc
  go_enter Try.func68, Try.ntmps68
  go_wp2
  go_loopg [1, 5] n (fun kq v1 v5 w' => ∃ (j : Nat) (kk : Int) (pre : List Pl) (hs1 : List ((Nat × Nat) × Value)) (ps1 : List Pl), v1 = .int .i64 kk ∧ v5 = .int .i64 (j : Int) ∧ Aside0 (j + kq = n) ∧ Aside0 (ps = pre ++ ps1) ∧ Aside0 (Md.Nr (Md.int) A j kq hs1 ps1) ∧ Aside0 (Sg w k w' pre hs1 ps1 kk))
  case atStart => exact ⟨0, k, [], hs, ps, rfl, rfl, ⟨by omega⟩, ⟨rfl⟩, HN, HG⟩
  case round =>
    clear HN HG
    obtain ⟨j, kk, pre, hs1, ps1, rfl, rfl, HJ, HS, HN, HG⟩ := hrel
    cases gk with
    | zero =>
      have hd : decide ((j : Int) < (n : Int)) = false := decide_eq_false (by have := HJ.out; omega)
      have hd2 : decide (j < n) = false := decide_eq_false (by have := HJ.out; omega)
      go_wp2
      go_ret
      have e0 := Md.Nr_nil HN.out
      have e1 := HS.out
      subst e0
      rw [List.append_nil] at e1
      subst e1
      exact ⟨by rw [HG.out.ek]; rfl, HG.out.wr⟩
    | succ m =>
      have hd : decide ((j : Int) < (n : Int)) = true := decide_eq_true (by have := HJ.out; omega)
      have hd2 : decide (j < n) = true := decide_eq_true (by have := HJ.out; omega)
      have hlt : j < n := by have := HJ.out; omega
      have hlt2 : (j : Int) < (n : Int) := by omega
      obtain ⟨g, rfl, s1, a1, s2, a2, hsh, hn2, rfl, rfl⟩ := Md.Nr_cons HN.out
      clear HN
      have HN2 := Aside0.mk hn2
      clear hn2
      obtain ⟨rfl, rfl⟩ := (show (Md.int).Sh g (j * 1) s1 a1 from hsh)
      simp only [Nat.mul_one] at HG HS
      have hk0 : 0 ≤ kk := by have := HG.out.ek; omega
      have hk1 : kk ≤ 1000000000 := by have := HG.out.ek; have := HS.out; subst this; simp only [List.length_append] at h1; omega
      obtain ⟨u0_0, x0_0, f0_0⟩ := HG.out.cell (b := g) (o := j) (t := false) (by simp)
      go_wp2
      go_roundg m
      case measure => omega
      case rel =>
        have HZ := (Sg.put HG.out (b := g) (o := j) (t := false) (by simp) rfl).narrow (h1 := s2) (a1 := a2) (by intro q_ hq_; simp [hq_]) (by intro q_ hq_; simp [hq_])
        exact ⟨j + 1, _, _, s2, a2, rfl, by go_num, ⟨by have := HJ.out; omega⟩, ⟨by rw [HS.out]; simp⟩, HN2, ⟨HZ⟩⟩
set_option maxHeartbeats 4000000 in
set_option maxRecDepth 100000 in
theorem markIntSS_ok (v : Value) (hs : List ((Nat × Nat) × Value)) (ps : List Pl) (k : Int) (w : World) (hr : Md.Row (Md.slice Md.int) v hs ps) (hp : Pt w hs ps) (h0 : 0 ≤ k) (h1 : k + (ps.length : Int) ≤ 1000000000) :
    Calls Try.prog 24 #[v, .int .i64 k] w fun e w' => e = .returned (.int .i64 (k + (ps.length : Int))) ∧ Wr w w' ps k := by
  obtain ⟨A, n, c, rfl, hnc, hmax, hN0⟩ := hr
  have HN : Aside0 (Md.Nr (Md.slice Md.int) A 0 n hs ps) := ⟨hN0⟩
  have HG := Aside0.mk (Sg.start hp k)
  clear hN0 hp hnc
  go_enter Try.func24, Try.ntmps24
  go_wp2
  go_loopg [1, 5] n (fun kq v1 v5 w' => ∃ (j : Nat) (kk : Int) (pre : List Pl) (hs1 : List ((Nat × Nat) × Value)) (ps1 : List Pl), v1 = .int .i64 kk ∧ v5 = .int .i64 (j : Int) ∧ Aside0 (j + kq = n) ∧ Aside0 (ps = pre ++ ps1) ∧ Aside0 (Md.Nr (Md.slice Md.int) A j kq hs1 ps1) ∧ Aside0 (Sg w k w' pre hs1 ps1 kk))
  case atStart => exact ⟨0, k, [], hs, ps, rfl, rfl, ⟨by omega⟩, ⟨rfl⟩, HN, HG⟩
  case round =>
    clear HN HG
    obtain ⟨j, kk, pre, hs1, ps1, rfl, rfl, HJ, HS, HN, HG⟩ := hrel
    cases gk with
    | zero =>
      have hd : decide ((j : Int) < (n : Int)) = false := decide_eq_false (by have := HJ.out; omega)
      have hd2 : decide (j < n) = false := decide_eq_false (by have := HJ.out; omega)
      go_wp2
      go_ret
      have e0 := Md.Nr_nil HN.out
      have e1 := HS.out
      subst e0
      rw [List.append_nil] at e1
      subst e1
      exact ⟨by rw [HG.out.ek]; rfl, HG.out.wr⟩
    | succ m =>
      have hd : decide ((j : Int) < (n : Int)) = true := decide_eq_true (by have := HJ.out; omega)
      have hd2 : decide (j < n) = true := decide_eq_true (by have := HJ.out; omega)
      have hlt : j < n := by have := HJ.out; omega
      have hlt2 : (j : Int) < (n : Int) := by omega
      obtain ⟨g, rfl, s1, a1, s2, a2, hsh, hn2, rfl, rfl⟩ := Md.Nr_cons HN.out
      clear HN
      have HN2 := Aside0.mk hn2
      clear hn2
      obtain ⟨v0, h0, r0, rfl⟩ := (show (Md.slice (Md.int)).Sh g (j * 1) s1 a1 from hsh)
      obtain ⟨b0, rfl⟩ : ∃ b0, b0 = a1 := ⟨_, rfl⟩
      simp only [Nat.mul_one] at HG HS
      obtain ⟨A0, n0, c0, rfl⟩ := Md.Row_slice r0
      have R0 := Aside0.mk r0
      clear r0
      have hk0 : 0 ≤ kk := by have := HG.out.ek; omega
      have hk1 : kk ≤ 1000000000 := by have := HG.out.ek; have := HS.out; subst this; simp only [List.length_append] at h1; omega
      have x0_0 : wr.cell? ⟨g, j, none⟩ = some (.slice A0 n0 c0) := HG.out.head (by simp)
      go_wp2_with fail
      have HG1 := Aside0.mk HG.out
      refine (markIntS_ok _ h0 b0 _ _ R0.out (HG1.out.sub (by intro q_ hq_; simp [hq_]) (by intro q_ hq_; simp [hq_])) (by omega) (by have := HG1.out.ek; have := HS.out; subst this; simp only [List.length_append, List.length_cons, List.length_nil] at *; omega)).mono ?_
      rintro e w1 ⟨rfl, hw⟩
      have HC1 := Aside0.mk (HG1.out.call hw (by intro q_ hq_; simp [hq_]))
      obtain ⟨kq1, hkq⟩ : ∃ kq_ : Int, kq_ = kk + (b0.length : Int) := ⟨_, rfl⟩
      rw [← hkq] at HC1 ⊢
      have hq0_1 : 0 ≤ kq1 := by omega
      have hq1_1 : kq1 ≤ 1000000000 := by have := HC1.out.ek; have := HS.out; subst this; simp only [List.length_append, List.length_cons, List.length_nil] at *; omega
      clear hkq hw
      clear x0_0
      have x1_0 : w1.cell? ⟨g, j, none⟩ = some (.slice A0 n0 c0) := HC1.out.head (by simp)
      go_wp2
      go_roundg m
      case measure => omega
      case rel =>
        have HZ := HC1.out.narrow (h1 := s2) (a1 := a2) (by intro q_ hq_; simp [hq_]) (by intro q_ hq_; simp [hq_])
        exact ⟨j + 1, _, _, s2, a2, rfl, by go_num, ⟨by have := HJ.out; omega⟩, ⟨by rw [HS.out]; simp⟩, HN2, ⟨HZ⟩⟩
set_option maxHeartbeats 4000000 in
set_option maxRecDepth 100000 in
theorem heldIntS_ok (v : Value) (hs : List ((Nat × Nat) × Value)) (ps : List Pl) (k : Int) (w : World) (hr : Md.Row (Md.int) v hs ps) (hp : Pt w hs ps) (hh : Hs w ps k) (h0 : 0 ≤ k) (h1 : k + (ps.length : Int) ≤ 1000000000) :
    Calls Try.prog 69 #[v, .int .i64 k] w fun e w' => e = .returned (.int .i64 (k + (ps.length : Int))) ∧ Below w.heap.size w w' := by
  obtain ⟨A, n, c, rfl, hnc, hmax, hN0⟩ := hr
  have HN : Aside0 (Md.Nr (Md.int) A 0 n hs ps) := ⟨hN0⟩
  have HG := Aside0.mk (Sq.start hp hh)
  clear hN0 hp hnc hh
  go_enter Try.func69, Try.ntmps69
  go_wp2
  go_loopg [1, 5] n (fun kq v1 v5 w' => ∃ (j : Nat) (kk : Int) (pre : List Pl) (hs1 : List ((Nat × Nat) × Value)) (ps1 : List Pl), v1 = .int .i64 kk ∧ v5 = .int .i64 (j : Int) ∧ Aside0 (j + kq = n) ∧ Aside0 (ps = pre ++ ps1) ∧ Aside0 (Md.Nr (Md.int) A j kq hs1 ps1) ∧ Aside0 (Sq w k w' pre hs1 ps1 kk))
  case atStart => exact ⟨0, k, [], hs, ps, rfl, rfl, ⟨by omega⟩, ⟨rfl⟩, HN, HG⟩
  case round =>
    clear HN HG
    obtain ⟨j, kk, pre, hs1, ps1, rfl, rfl, HJ, HS, HN, HG⟩ := hrel
    cases gk with
    | zero =>
      have hd : decide ((j : Int) < (n : Int)) = false := decide_eq_false (by have := HJ.out; omega)
      have hd2 : decide (j < n) = false := decide_eq_false (by have := HJ.out; omega)
      go_wp2
      go_ret
      have e0 := Md.Nr_nil HN.out
      have e1 := HS.out
      subst e0
      rw [List.append_nil] at e1
      subst e1
      exact ⟨by rw [HG.out.ek]; rfl, HG.out.bl⟩
    | succ m =>
      have hd : decide ((j : Int) < (n : Int)) = true := decide_eq_true (by have := HJ.out; omega)
      have hd2 : decide (j < n) = true := decide_eq_true (by have := HJ.out; omega)
      have hlt : j < n := by have := HJ.out; omega
      have hlt2 : (j : Int) < (n : Int) := by omega
      obtain ⟨g, rfl, s1, a1, s2, a2, hsh, hn2, rfl, rfl⟩ := Md.Nr_cons HN.out
      clear HN
      have HN2 := Aside0.mk hn2
      clear hn2
      obtain ⟨rfl, rfl⟩ := (show (Md.int).Sh g (j * 1) s1 a1 from hsh)
      simp only [Nat.mul_one] at HG HS
      have hk0 : 0 ≤ kk := by have := HG.out.ek; omega
      have hk1 : kk ≤ 1000000000 := by have := HG.out.ek; have := HS.out; subst this; simp only [List.length_append] at h1; omega
      simp only [List.append_assoc, List.singleton_append, List.cons_append, List.nil_append] at HG
      have HG0 := HG
      clear HG
      have x0_0 : wr.cell? ⟨g, j, none⟩ = some (.int .i64 kk) := HG0.out.cell
      have HG1 := Aside0.mk HG0.out.tail
      clear HG0
      go_wp2
      go_roundg m
      case measure => omega
      case rel =>
        have HZ := HG1.out.narrow (h1 := s2) (by intro q_ hq_; simp [hq_])
        exact ⟨j + 1, _, _, s2, a2, rfl, by go_num, ⟨by have := HJ.out; omega⟩, ⟨by rw [HS.out]; simp⟩, HN2, ⟨HZ⟩⟩
set_option maxHeartbeats 4000000 in
set_option maxRecDepth 100000 in
theorem heldIntSS_ok (v : Value) (hs : List ((Nat × Nat) × Value)) (ps : List Pl) (k : Int) (w : World) (hr : Md.Row (Md.slice Md.int) v hs ps) (hp : Pt w hs ps) (hh : Hs w ps k) (h0 : 0 ≤ k) (h1 : k + (ps.length : Int) ≤ 1000000000) :
    Calls Try.prog 25 #[v, .int .i64 k] w fun e w' => e = .returned (.int .i64 (k + (ps.length : Int))) ∧ Below w.heap.size w w' := by
  obtain ⟨A, n, c, rfl, hnc, hmax, hN0⟩ := hr
  have HN : Aside0 (Md.Nr (Md.slice Md.int) A 0 n hs ps) := ⟨hN0⟩
  have HG := Aside0.mk (Sq.start hp hh)
  clear hN0 hp hnc hh
  go_enter Try.func25, Try.ntmps25
  go_wp2
  go_loopg [1, 5] n (fun kq v1 v5 w' => ∃ (j : Nat) (kk : Int) (pre : List Pl) (hs1 : List ((Nat × Nat) × Value)) (ps1 : List Pl), v1 = .int .i64 kk ∧ v5 = .int .i64 (j : Int) ∧ Aside0 (j + kq = n) ∧ Aside0 (ps = pre ++ ps1) ∧ Aside0 (Md.Nr (Md.slice Md.int) A j kq hs1 ps1) ∧ Aside0 (Sq w k w' pre hs1 ps1 kk))
  case atStart => exact ⟨0, k, [], hs, ps, rfl, rfl, ⟨by omega⟩, ⟨rfl⟩, HN, HG⟩
  case round =>
    clear HN HG
    obtain ⟨j, kk, pre, hs1, ps1, rfl, rfl, HJ, HS, HN, HG⟩ := hrel
    cases gk with
    | zero =>
      have hd : decide ((j : Int) < (n : Int)) = false := decide_eq_false (by have := HJ.out; omega)
      have hd2 : decide (j < n) = false := decide_eq_false (by have := HJ.out; omega)
      go_wp2
      go_ret
      have e0 := Md.Nr_nil HN.out
      have e1 := HS.out
      subst e0
      rw [List.append_nil] at e1
      subst e1
      exact ⟨by rw [HG.out.ek]; rfl, HG.out.bl⟩
    | succ m =>
      have hd : decide ((j : Int) < (n : Int)) = true := decide_eq_true (by have := HJ.out; omega)
      have hd2 : decide (j < n) = true := decide_eq_true (by have := HJ.out; omega)
      have hlt : j < n := by have := HJ.out; omega
      have hlt2 : (j : Int) < (n : Int) := by omega
      obtain ⟨g, rfl, s1, a1, s2, a2, hsh, hn2, rfl, rfl⟩ := Md.Nr_cons HN.out
      clear HN
      have HN2 := Aside0.mk hn2
      clear hn2
      obtain ⟨v0, h0, r0, rfl⟩ := (show (Md.slice (Md.int)).Sh g (j * 1) s1 a1 from hsh)
      obtain ⟨b0, rfl⟩ : ∃ b0, b0 = a1 := ⟨_, rfl⟩
      simp only [Nat.mul_one] at HG HS
      obtain ⟨A0, n0, c0, rfl⟩ := Md.Row_slice r0
      have R0 := Aside0.mk r0
      clear r0
      have hk0 : 0 ≤ kk := by have := HG.out.ek; omega
      have hk1 : kk ≤ 1000000000 := by have := HG.out.ek; have := HS.out; subst this; simp only [List.length_append] at h1; omega
      simp only [List.append_assoc, List.singleton_append, List.cons_append, List.nil_append] at HG
      have HG0 := HG
      clear HG
      have x0_0 : wr.cell? ⟨g, j, none⟩ = some (.slice A0 n0 c0) := HG0.out.head (by simp)
      go_wp2_with fail
      have hb_ := HG0.out.bl
      refine (heldIntS_ok _ h0 b0 _ _ R0.out (HG0.out.pt.sub (by intro q_ hq_; simp [hq_]) (by intro q_ hq_; simp [hq_])) HG0.out.hd.left (by omega) (by have := HG0.out.ek; have := HS.out; subst this; simp only [List.length_append, List.length_cons, List.length_nil] at *; omega)).mono ?_
      rintro e w1 ⟨rfl, hw⟩
      have HG1 := Aside0.mk (HG0.out.call hw)
      clear HG0 hb_
      obtain ⟨kq1, hkq⟩ : ∃ kq_ : Int, kq_ = kk + (b0.length : Int) := ⟨_, rfl⟩
      rw [← hkq] at HG1 ⊢
      have hq0_1 : 0 ≤ kq1 := by omega
      have hq1_1 : kq1 ≤ 1000000000 := by have := HG1.out.ek; have := HS.out; subst this; simp only [List.length_append, List.length_cons, List.length_nil] at *; omega
      have hq2_1 : decide (kq1 < 0) = false := decide_eq_false (by omega)
      clear hkq hw
      clear x0_0
      go_wp2
      go_roundg m
      case measure => omega
      case rel =>
        have HZ := HG1.out.narrow (h1 := s2) (by intro q_ hq_; simp [hq_])
        exact ⟨j + 1, _, _, s2, a2, rfl, by go_num, ⟨by have := HJ.out; omega⟩, ⟨by rw [HS.out]; simp⟩, HN2, ⟨HZ⟩⟩
end Go.Proofs.Ytjngkfepppejeaa.Mk
end
section
namespace Go.Proofs.Ytjngkfepppejeaa.Mk
open Go.RowKit Go.Proofs.Ytjngkfepppejeaa.P Go.Proofs.YtjngkfepppejeaaW.PrintWords Go.Proofs.YtjngkfepppejeaaW.PrintLast Go.Proofs.YtjngkfepppejeaaW.PrintMore
set_option linter.unusedVariables false
set_option linter.unusedSimpArgs false
set_option maxHeartbeats 8000000 in
set_option maxRecDepth 100000 in
theorem FnExactBlocksOf_law (k : Nat) (a0 : Int) (A1 : Option Addr) (c1 : Nat) (l1 : List (List Int)) (w : World) (hr1 : Kd.C (Kd.slice 3 (Kd.int .i64)) w A1 l1.length l1) (hc1 : l1.length ≤ c1) (z1 : Int) (eE2 : laws_szIntSS.f k l1 1048576 = some z1) (hz_z1n : ¬ z1 < 0) (x3 : List (List Int)) (r10 : List (List Int)) (r11 : Bool) (eE4 : laws_toIntSS.f k l1 = some x3) (eE12 : spec_BlocksOf.f k a0 x3 = some (r10, r11)) (eE23 : impl_BlocksOf.f k a0 x3 = some (r10, r11)) (eE29 : laws_eqIntSS.f k r10 r10 = some true) (eE35 : laws_eqIntSS.f k x3 x3 = some true) (hB0_ : tot (fun y => tot (fun _ => 1) y) x3 ≤ 100000000) (hB1_ : tot (fun y => tot (fun _ => 1) y) r10 ≤ 100000000) (hX0_ : ∀ x ∈ r10, ∀ y ∈ x, True)  :
    Calls Try.prog 7 #[.int .i64 a0, .slice A1 l1.length c1] w fun e w' => e = .returned (.bool true) ∧ Below w.heap.size w w' := by
  have HR1 := Aside0.mk hr1
  clear hr1
  have HC := Aside0.mk (Ch.start w)
  have E2 := Aside0.mk eE2
  clear eE2
  have E4 := Aside0.mk eE4
  clear eE4
  have E12 := Aside0.mk eE12
  clear eE12
  have E23 := Aside0.mk eE23
  clear eE23
  have E29 := Aside0.mk eE29
  clear eE29
  have E35 := Aside0.mk eE35
  clear eE35
  have hB0 := Aside0.mk hB0_
  clear hB0_
  have hB1 := Aside0.mk hB1_
  clear hB1_
  have hX0 := Aside0.mk hX0_
  clear hX0_
  go_enter Try.func7, Try.ntmps7
  go_wp2_with fail
  refine (laws_szIntSS.calls k _ _ l1 1048576 z1 _ (Kd.C_below HR1.out HC.out.b) hc1 E2.out).mono ?_
  rintro e w1 ⟨rfl, hb⟩
  replace HC := Aside0.mk (HC.out.drawn hb)
  clear hb
  have hz_z1 : decide (z1 < 0) = false := decide_eq_false (by omega)
  go_wp2_with fail
  refine (laws_toIntSS.calls k _ _ l1 x3 _ (Kd.C_below HR1.out HC.out.b) hc1 E4.out).mono ?_
  rintro e w2 ⟨v5, rfl, ho0, hb⟩
  obtain ⟨A6, c7, rfl⟩ := Kd.S_slice ho0
  obtain ⟨lo8, hi9, HC'⟩ := HC.out.push hb (Q := fun lo hi U => Kd.S (Kd.slice 3 (Kd.int .i64)) 31 U lo (Bt lo hi) (.slice A6 x3.length c7) x3) (foot_S (in_S ho0))
  replace HC := Aside0.mk HC'
  clear HC' hb ho0
  go_wp2_with fail
  refine (spec_BlocksOf.calls k a0 _ _ x3 r10 r11 _ (Kd.S_reads' (HC.out.at_ 0 rfl)).2.2 (Kd.S_reads' (HC.out.at_ 0 rfl)).2.1 E12.out).mono ?_
  rintro e w3 ⟨v13, rfl, ho0, hb⟩
  obtain ⟨A14, c15, rfl⟩ := Kd.S_slice ho0
  obtain ⟨lo16, hi17, HC'⟩ := HC.out.push hb (Q := fun lo hi U => Kd.S (Kd.slice 3 (Kd.int .i64)) 31 U lo (Bt lo hi) (.slice A14 r10.length c15) r10) (foot_S (in_S ho0))
  replace HC := Aside0.mk HC'
  clear HC' hb ho0
  go_wp2_with fail
  refine (laws_toIntSS.calls k _ _ l1 x3 _ (Kd.C_below HR1.out HC.out.b) hc1 E4.out).mono ?_
  rintro e w4 ⟨v18, rfl, ho0, hb⟩
  obtain ⟨A19, c20, rfl⟩ := Kd.S_slice ho0
  obtain ⟨lo21, hi22, HC'⟩ := HC.out.push hb (Q := fun lo hi U => Kd.S (Kd.slice 3 (Kd.int .i64)) 31 U lo (Bt lo hi) (.slice A19 x3.length c20) x3) (foot_S (in_S ho0))
  replace HC := Aside0.mk HC'
  clear HC' hb ho0
  go_wp2_with fail
  refine (impl_BlocksOf.calls k a0 _ _ x3 r10 r11 _ (Kd.S_reads' (HC.out.at_ 0 rfl)).2.2 (Kd.S_reads' (HC.out.at_ 0 rfl)).2.1 E23.out).mono ?_
  rintro e w5 ⟨v24, rfl, ho0, hb⟩
  obtain ⟨A25, c26, rfl⟩ := Kd.S_slice ho0
  obtain ⟨lo27, hi28, HC'⟩ := HC.out.push hb (Q := fun lo hi U => Kd.S (Kd.slice 3 (Kd.int .i64)) 31 U lo (Bt lo hi) (.slice A25 r10.length c26) r10) (foot_S (in_S ho0))
  replace HC := Aside0.mk HC'
  clear HC' hb ho0
  go_wp2_with fail
  refine (laws_eqIntSS.calls k _ _ r10 _ _ r10 true _ (Kd.S_reads' (HC.out.at_ 0 rfl)).2.2 (Kd.S_reads' (HC.out.at_ 0 rfl)).2.1 (Kd.S_reads' (HC.out.at_ 2 rfl)).2.2 (Kd.S_reads' (HC.out.at_ 2 rfl)).2.1 E29.out).mono ?_
  rintro e w6 ⟨rfl, hb⟩
  replace HC := Aside0.mk (HC.out.drawn hb)
  clear hb
  go_wp2_with fail
  refine (laws_toIntSS.calls k _ _ l1 x3 _ (Kd.C_below HR1.out HC.out.b) hc1 E4.out).mono ?_
  rintro e w7 ⟨v30, rfl, ho0, hb⟩
  obtain ⟨A31, c32, rfl⟩ := Kd.S_slice ho0
  obtain ⟨lo33, hi34, HC'⟩ := HC.out.push hb (Q := fun lo hi U => Kd.S (Kd.slice 3 (Kd.int .i64)) 31 U lo (Bt lo hi) (.slice A31 x3.length c32) x3) (foot_S (in_S ho0))
  replace HC := Aside0.mk HC'
  clear HC' hb ho0
  go_wp2_with fail
  refine (laws_eqIntSS.calls k _ _ x3 _ _ x3 true _ (Kd.S_reads' (HC.out.at_ 2 rfl)).2.2 (Kd.S_reads' (HC.out.at_ 2 rfl)).2.1 (Kd.S_reads' (HC.out.at_ 0 rfl)).2.2 (Kd.S_reads' (HC.out.at_ 0 rfl)).2.1 E35.out).mono ?_
  rintro e w8 ⟨rfl, hb⟩
  replace HC := Aside0.mk (HC.out.drawn hb)
  clear hb
  go_wp2_with fail
  obtain ⟨ms1_0, mp1_0, mq1_0, mt1_0, mn1_0, mg1_0, mf1_0, md1_0⟩ := row_S (Br.slice Br.int 3 (fun _ => rfl)) (HC.out.at_ 2 rfl)
  refine (markIntSS_ok _ ms1_0 mp1_0  1 _ mq1_0 mt1_0 (by decide) (by rw [mn1_0]; have := hB0.out;  omega)).mono ?_
  rintro e w9 ⟨rfl, hw⟩
  replace HC := Aside0.mk (Ch.wr0 (L1 := [_, _]) HC.out hw (fun p h => by (try simp only [List.append_assoc] at h); exact (mf1_0 p h).1))
  obtain ⟨km1, hkm⟩ : ∃ km_ : Int, km_ = 1 + ((mp1_0).length : Int) := ⟨_, rfl⟩
  rw [← hkm]
  have km1p : Aside0 (0 ≤ km1) := ⟨by  omega⟩
  have km1b : Aside0 (km1 ≤ 400000001) := ⟨by rw [hkm]; rw [mn1_0]; have := hB0.out;  omega⟩
  have hd_km1 : decide (km1 < 0) = false := decide_eq_false (by have := km1p.out; omega)
  clear hkm hw ms1_0 mq1_0 mt1_0 mn1_0 mg1_0 mf1_0 md1_0 
  go_wp2_with fail
  refine (laws_eqIntSS.calls k _ _ r10 _ _ r10 true _ (Kd.S_reads' (HC.out.at_ 1 rfl)).2.2 (Kd.S_reads' (HC.out.at_ 1 rfl)).2.1 (Kd.S_reads' (HC.out.at_ 3 rfl)).2.2 (Kd.S_reads' (HC.out.at_ 3 rfl)).2.1 E29.out).mono ?_
  rintro e w10 ⟨rfl, hb⟩
  replace HC := Aside0.mk (HC.out.drawn hb)
  clear hb
  go_wp2_with fail
  obtain ⟨ms2_0, mp2_0, mq2_0, mt2_0, mn2_0, mg2_0, mf2_0, md2_0⟩ := row_S (Br.slice Br.int 3 (fun _ => rfl)) (HC.out.at_ 1 rfl)
  refine (markIntSS_ok _ ms2_0 mp2_0  1 _ mq2_0 mt2_0 (by decide) (by rw [mn2_0]; have := hB1.out;  omega)).mono ?_
  rintro e w11 ⟨rfl, hw⟩
  have mT : Pt w11 (ms2_0) (mp2_0) := (mt2_0).wr hw (mt2_0).a
  have mA : apart (mp2_0) := (md2_0 hX0.out)
  have mH := hw.hs mA (mt2_0).a
  replace HC := Aside0.mk (Ch.wr (L1 := [_]) HC.out hw (fun p hp => (mf2_0 p hp).1) (foot_and (foot_pt mT mg2_0 (fun p hp => (mf2_0 p hp).1)) (foot_hs mH (fun p hp => (mf2_0 p hp).1))))
  have hl2 : Aside0 (1 + ((mp2_0).length : Int) ≤ 1000000000) := ⟨by rw [mn2_0]; have := hB1.out; omega⟩
  have Qmq2_0 := Aside0.mk mq2_0
  obtain ⟨km2, hkm⟩ : ∃ km_ : Int, km_ = 1 + ((mp2_0).length : Int) := ⟨_, rfl⟩
  have HK2 := Aside0.mk hkm
  rw [← hkm]
  have hd_km2 : decide (km2 < 0) = false := decide_eq_false (by omega)
  clear hkm hw mT mA mH mq2_0 mt2_0 mn2_0 mg2_0 mf2_0 md2_0
  go_wp2_with fail
  refine (heldIntSS_ok _ ms2_0 mp2_0  1 _ Qmq2_0.out (HC.out.at_ 1 rfl).1 (HC.out.at_ 1 rfl).2 (by decide) (by  exact hl2.out)).mono ?_
  rintro e w12 ⟨rfl, hb⟩
  replace HC := Aside0.mk (HC.out.below hb)
  rw [← HK2.out]
  clear hb
  go_wp2_with fail
  refine (laws_toIntSS.calls k _ _ l1 x3 _ (Kd.C_below HR1.out HC.out.b) hc1 E4.out).mono ?_
  rintro e w13 ⟨v36, rfl, ho0, hb⟩
  obtain ⟨A37, c38, rfl⟩ := Kd.S_slice ho0
  obtain ⟨lo39, hi40, HC'⟩ := HC.out.push hb (Q := fun lo hi U => Kd.S (Kd.slice 3 (Kd.int .i64)) 31 U lo (Bt lo hi) (.slice A37 x3.length c38) x3) (foot_S (in_S ho0))
  replace HC := Aside0.mk HC'
  clear HC' hb ho0
  go_wp2_with fail
  refine (impl_BlocksOf.calls k a0 _ _ x3 r10 r11 _ (Kd.S_reads' (HC.out.at_ 0 rfl)).2.2 (Kd.S_reads' (HC.out.at_ 0 rfl)).2.1 E23.out).mono ?_
  rintro e w14 ⟨v41, rfl, ho0, hb⟩
  obtain ⟨A42, c43, rfl⟩ := Kd.S_slice ho0
  obtain ⟨lo44, hi45, HC'⟩ := HC.out.push hb (Q := fun lo hi U => Kd.S (Kd.slice 3 (Kd.int .i64)) 31 U lo (Bt lo hi) (.slice A42 r10.length c43) r10) (foot_S (in_S ho0))
  replace HC := Aside0.mk HC'
  clear HC' hb ho0
  go_wp2_with fail
  refine (laws_eqIntSS.calls k _ _ r10 _ _ r10 true _ (Kd.S_reads' (HC.out.at_ 0 rfl)).2.2 (Kd.S_reads' (HC.out.at_ 0 rfl)).2.1 (Kd.S_reads' (HC.out.at_ 5 rfl)).2.2 (Kd.S_reads' (HC.out.at_ 5 rfl)).2.1 E29.out).mono ?_
  rintro e w15 ⟨rfl, hb⟩
  replace HC := Aside0.mk (HC.out.drawn hb)
  clear hb
  go_wp2_with fail
  refine (heldIntSS_ok _ ms2_0 mp2_0  1 _ Qmq2_0.out (HC.out.at_ 3 rfl).1 (HC.out.at_ 3 rfl).2 (by decide) (by  exact hl2.out)).mono ?_
  rintro e w16 ⟨rfl, hb⟩
  replace HC := Aside0.mk (HC.out.below hb)
  rw [← HK2.out]
  clear hb
  go_wp2
  go_ret
  exact ⟨rfl, HC.out.b⟩
set_option maxHeartbeats 8000000 in
set_option maxRecDepth 100000 in
theorem FnExactBlocksOf_out0 (k : Nat) (a0 : Int) (A1 : Option Addr) (c1 : Nat) (l1 : List (List Int)) (w : World) (hr1 : Kd.C (Kd.slice 3 (Kd.int .i64)) w A1 l1.length l1) (hc1 : l1.length ≤ c1) (z1 : Int) (eE2 : laws_szIntSS.f k l1 1048576 = some z1)  (hz : z1 < 0)  :
    Calls Try.prog 7 #[.int .i64 a0, .slice A1 l1.length c1] w fun e w' => e = .returned (.bool true) ∧ Below w.heap.size w w' := by
  have HR1 := Aside0.mk hr1
  clear hr1
  have HC := Aside0.mk (Ch.start w)
  have E2 := Aside0.mk eE2
  clear eE2
  go_enter Try.func7, Try.ntmps7
  go_wp2_with fail
  refine (laws_szIntSS.calls k _ _ l1 1048576 z1 _ (Kd.C_below HR1.out HC.out.b) hc1 E2.out).mono ?_
  rintro e w1 ⟨rfl, hb⟩
  replace HC := Aside0.mk (HC.out.drawn hb)
  clear hb
  have hz_ : decide (z1 < 0) = true := decide_eq_true hz
  clear hz
  go_wp2
  go_ret
  exact ⟨rfl, HC.out.b⟩
def FnExactBlocksOf_Pure : Prop := ∀ (a0 : Int) (l1 : List (List Int)), ((Lit.int .i64 a0).wf = true) → (l1.length ≤ maxLen ∧ l1.length * 24 ≤ 140737488351232 ∧ ∀ x_ ∈ l1, x_.length ≤ maxLen ∧ x_.length * 8 ≤ 140737488351232 ∧ ∀ y_ ∈ x_, (Lit.int .i64 y_).wf = true) → ∃ k : Nat, ∃ z1 : Int, laws_szIntSS.f k l1 1048576 = some z1 ∧ (z1 < 0 ∨ ¬ z1 < 0 ∧ (∃ (x3 : List (List Int)) (r10 : List (List Int)) (r11 : Bool), laws_toIntSS.f k l1 = some x3 ∧ spec_BlocksOf.f k a0 x3 = some (r10, r11) ∧ impl_BlocksOf.f k a0 x3 = some (r10, r11) ∧ laws_eqIntSS.f k r10 r10 = some true ∧ laws_eqIntSS.f k x3 x3 = some true ∧ tot (fun y => tot (fun _ => 1) y) x3 ≤ 100000000 ∧ tot (fun y => tot (fun _ => 1) y) r10 ≤ 100000000 ∧ (∀ x ∈ r10, ∀ y ∈ x, True)))
theorem FnExactBlocksOf_calls (hP : FnExactBlocksOf_Pure) (a0 : Int) (l1 : List (List Int)) (A1 : Option Addr) (c1 : Nat) (b0 : (Lit.int .i64 a0).wf = true) (b1 : l1.length ≤ maxLen ∧ l1.length * 24 ≤ 140737488351232 ∧ ∀ x_ ∈ l1, x_.length ≤ maxLen ∧ x_.length * 8 ≤ 140737488351232 ∧ ∀ y_ ∈ x_, (Lit.int .i64 y_).wf = true) (w : World) (hr1 : Kd.C (Kd.slice 3 (Kd.int .i64)) w A1 l1.length l1) (hc1 : l1.length ≤ c1) :
    Calls Try.prog 7 #[.int .i64 a0, .slice A1 l1.length c1] w fun e w' => e = .returned (.bool true) ∧ Below w.heap.size w w' := by
  obtain ⟨k, hk⟩ := hP a0 l1 b0 b1
  obtain ⟨z1, eE2, hk⟩ := hk
  rcases hk with hz | ⟨hz_z1n, hk⟩
  · exact FnExactBlocksOf_out0 k a0 A1 c1 l1 w hr1 hc1 z1 eE2  hz 
  obtain ⟨x3, r10, r11, eE4, eE12, eE23, eE29, eE35, hB0_, hB1_, hX0_⟩ := hk
  exact FnExactBlocksOf_law k a0 A1 c1 l1 w hr1 hc1 z1 eE2 hz_z1n x3 r10 r11 eE4 eE12 eE23 eE29 eE35 hB0_ hB1_ hX0_ 
end Go.Proofs.Ytjngkfepppejeaa.Mk
end
section
namespace Go.Proofs.Ytjngkfepppejeaa.Pl
open Go.RowKit Go.Proofs.YtjngkfepppejeaaW.PrintWords Go.Proofs.YtjngkfepppejeaaW.PrintLast Go.Proofs.YtjngkfepppejeaaW.PrintMore
theorem wrap_in {x : Int} (h0 : -9223372036854775808 ≤ x) (h1 : x ≤ 9223372036854775807) : wrap64 x = x := by
  unfold wrap64
  omega
theorem wrap_len {n m : Nat} (h : n < m) (hm : m ≤ 4611686018427387904) : wrap64 ((n : Int) + 1) = ((n + 1 : Nat) : Int) := by
  rw [wrap_in (by omega) (by omega)]
  omega
theorem round {k d : Nat} (h : d < k) : ∃ m, k = m + 1 := ⟨k - 1, by omega⟩
theorem rd_mid (pre : List Int) (h : Int) (t : List Int) : rd (pre ++ h :: t) (pre.length : Int) = h := by
  simp [rd]
theorem rd_at {pre t l : List Int} {h : Int} (e : pre ++ h :: t = l) : rd l (pre.length : Int) = h := by
  rw [← e]; exact rd_mid pre h t
theorem len_mid {α : Type} {pre t : List α} {h : α} {l : List α} (e : pre ++ h :: t = l) : pre.length < l.length := by
  rw [← e]; simp
theorem app_mid {α : Type} {pre t : List α} {h : α} {l : List α} (e : pre ++ h :: t = l) : (pre ++ [h]) ++ t = l := by
  rw [← e]; simp
theorem len_one {α : Type} (pre : List α) (h : α) : (pre ++ [h]).length = pre.length + 1 := by simp
theorem rd_last {pre rest l : List Int} {p : Int} (e : pre ++ rest = l) (h : pre.getLast? = some p) : 0 < pre.length ∧ rd l ((pre.length : Int) - 1) = p := by
  obtain ⟨q, rfl⟩ := List.getLast?_eq_some_iff.1 h
  refine ⟨by simp, ?_⟩
  have h2 : q ++ [p] ++ rest = q ++ p :: rest := by simp
  rw [← e, h2, len_one, show (((q.length + 1 : Nat) : Int) - 1) = (q.length : Int) by omega]
  exact rd_mid q p rest
theorem no_last {α : Type} {pre : List α} (h : pre.getLast? = none) : pre = [] := by
  simpa using h
end Go.Proofs.Ytjngkfepppejeaa.Pl
end
section
namespace Go.Proofs.Ytjngkfepppejeaa.EvN
def Cm {α : Type} (f : Nat → Option α) (v : α) : Prop := ∃ K, ∀ k, K ≤ k → f k = some v
theorem cm_now {α : Type} {f : Nat → Option α} {v : α} (h : ∀ k, f k = some v) : Cm f v := ⟨0, fun k _ => h k⟩
theorem cm_step {α : Type} {f g : Nat → Option α} {v : α} (h : ∀ k, f (k + 1) = g k) (hg : Cm g v) : Cm f v := by
  obtain ⟨K, hK⟩ := hg
  refine ⟨K + 1, fun k hk => ?_⟩
  obtain ⟨m, rfl⟩ : ∃ m, k = m + 1 := ⟨k - 1, by omega⟩
  rw [h, hK m (by omega)]
theorem cm_same {α : Type} {f g : Nat → Option α} {v : α} (h : ∀ k, f k = g k) (hg : Cm g v) : Cm f v := by
  obtain ⟨K, hK⟩ := hg
  exact ⟨K, fun k hk => by rw [h, hK k hk]⟩
theorem cm_bind {α β : Type} {a : Nat → Option α} {t : α} {g : Nat → α → Option β} {v : β} (ha : Cm a t) (hg : Cm (fun k => g k t) v) : Cm (fun k => (a k).bind (g k)) v := by
  obtain ⟨K, hK⟩ := ha
  obtain ⟨M, hM⟩ := hg
  exact ⟨K + M, fun k hk => by simp only [hK k (by omega)]; exact hM k (by omega)⟩
theorem cm_yes {α : Type} {c : Prop} [Decidable c] {x y : Nat → Option α} {v : α} (h : c) (h2 : Cm x v) : Cm (fun k => if c then x k else y k) v :=
  cm_same (fun _ => if_pos h) h2
theorem cm_no {α : Type} {c : Prop} [Decidable c] {x y : Nat → Option α} {v : α} (h : ¬ c) (h2 : Cm y v) : Cm (fun k => if c then x k else y k) v :=
  cm_same (fun _ => if_neg h) h2
end Go.Proofs.Ytjngkfepppejeaa.EvN
end
section
namespace Go.Proofs.Ytjngkfepppejeaa.Lp
open Go.RowKit Go.Proofs.YtjngkfepppejeaaW.PrintWords
open Go.Proofs.Ytjngkfepppejeaa.Pl Go.Proofs.Ytjngkfepppejeaa.EvN
theorem fold_cm {α σ ρ : Type} {L : Nat → Int → σ → Option ρ} (xs : List α) (g : σ → α → σ) (I : List α → σ → Prop) (s0 : σ) {v : ρ} (h0 : I [] s0)
    (hstep : ∀ pre h t s, pre ++ h :: t = xs → pre.length < xs.length → I pre s → I (pre ++ [h]) (g s h) ∧ ∀ u, Cm (fun k => L k ((pre.length + 1 : Nat) : Int) (g s h)) u → Cm (fun k => L k (pre.length : Int) s) u)
    (hend : I xs (xs.foldl g s0) → Cm (fun k => L k (xs.length : Int) (xs.foldl g s0)) v) : Cm (fun k => L k 0 s0) v := by
  have key : ∀ (rest pre : List α) (s : σ), pre ++ rest = xs → I pre s → rest.foldl g s = xs.foldl g s0 → Cm (fun k => L k (pre.length : Int) s) v := by
    intro rest
    induction rest with
    | nil =>
      intro pre s e hi hf
      rw [List.append_nil] at e
      subst e
      rw [List.foldl_nil] at hf
      subst hf
      exact hend hi
    | cons h t ih =>
      intro pre s e hi hf
      obtain ⟨h1, h2⟩ := hstep pre h t s e (len_mid e) hi
      refine h2 v ?_
      have := ih (pre ++ [h]) (g s h) (app_mid e) h1 (by simpa using hf)
      rw [len_one] at this
      exact this
  exact key xs [] s0 rfl h0 rfl
def okFrom {α : Type} (p : List α → α → Bool) : List α → List α → Bool
  | _, [] => true
  | pre, h :: t => p pre h && okFrom p (pre ++ [h]) t
theorem okFrom_iff {α : Type} (p : List α → α → Bool) : ∀ (rest pre : List α), okFrom p pre rest = true ↔ ∀ a h t, a ++ h :: t = rest → p (pre ++ a) h = true
  | [], pre => by
    simp only [okFrom, true_iff]
    intro a h t e
    simp at e
  | x :: t, pre => by
    simp only [okFrom, Bool.and_eq_true]
    rw [okFrom_iff p t (pre ++ [x])]
    constructor
    · rintro ⟨h1, h2⟩ a h t' e
      cases a with
      | nil =>
        simp only [List.nil_append, List.cons.injEq] at e
        obtain ⟨rfl, rfl⟩ := e
        simpa using h1
      | cons y a =>
        simp only [List.cons_append, List.cons.injEq] at e
        obtain ⟨rfl, e⟩ := e
        have := h2 a h t' e
        simpa using this
    · intro h
      refine ⟨by simpa using h [] x t rfl, fun a h' t' e => ?_⟩
      have := h (x :: a) h' t' (by simp [e])
      simpa using this
theorem all_cm {α ρ : Type} {L : Nat → Int → Option ρ} (xs : List α) (p : List α → α → Bool) {fin no : ρ}
    (hstep : ∀ pre h t, pre ++ h :: t = xs → pre.length < xs.length → p pre h = true → ∀ v, Cm (fun k => L k ((pre.length + 1 : Nat) : Int)) v → Cm (fun k => L k (pre.length : Int)) v)
    (hno : ∀ pre h t, pre ++ h :: t = xs → pre.length < xs.length → p pre h = false → Cm (fun k => L k (pre.length : Int)) no)
    (hend : okFrom p [] xs = true → Cm (fun k => L k (xs.length : Int)) fin) : Cm (fun k => L k 0) (if okFrom p [] xs = true then fin else no) := by
  have key : ∀ (rest pre : List α), pre ++ rest = xs → (okFrom p pre rest = okFrom p [] xs) → Cm (fun k => L k (pre.length : Int)) (if okFrom p pre rest = true then fin else no) := by
    intro rest
    induction rest with
    | nil =>
      intro pre e h
      rw [List.append_nil] at e
      subst e
      simp only [okFrom, if_true] at h ⊢
      exact hend h.symm
    | cons x t ih =>
      intro pre e h
      by_cases c : p pre x = true
      · have h2 : okFrom p pre (x :: t) = okFrom p (pre ++ [x]) t := by simp only [okFrom, c, Bool.true_and]
        rw [h2] at h ⊢
        have h3 := ih (pre ++ [x]) (app_mid e) h
        rw [len_one] at h3
        exact hstep pre x t e (len_mid e) c _ h3
      · have c2 : p pre x = false := by simpa using c
        have h2 : okFrom p pre (x :: t) = false := by simp only [okFrom, c2, Bool.false_and]
        rw [h2]
        simpa using hno pre x t e (len_mid e) c2
  exact key xs [] rfl rfl
theorem okFrom_all {α : Type} (p : α → Bool) : ∀ (rest pre : List α), okFrom (fun _ h => p h) pre rest = rest.all p
  | [], _ => rfl
  | x :: t, pre => by simp only [okFrom, List.all_cons, okFrom_all p t]
theorem every_cm {α ρ : Type} {L : Nat → Int → Option ρ} (xs : List α) (p : α → Bool) {fin no : ρ}
    (hstep : ∀ pre h t, pre ++ h :: t = xs → pre.length < xs.length → p h = true → ∀ v, Cm (fun k => L k ((pre.length + 1 : Nat) : Int)) v → Cm (fun k => L k (pre.length : Int)) v)
    (hno : ∀ pre h t, pre ++ h :: t = xs → pre.length < xs.length → p h = false → Cm (fun k => L k (pre.length : Int)) no)
    (hend : xs.all p = true → Cm (fun k => L k (xs.length : Int)) fin) : Cm (fun k => L k 0) (if xs.all p = true then fin else no) := by
  have := all_cm (L := L) xs (fun _ h => p h) hstep hno (by rw [okFrom_all]; exact hend)
  rw [okFrom_all] at this
  exact this
def foundAt {α ρ : Type} (p : α → Bool) (found : Nat → α → ρ) (none_ : ρ) : Nat → List α → ρ
  | _, [] => none_
  | i, h :: t => if p h = true then found i h else foundAt p found none_ (i + 1) t
theorem find_cm {α ρ : Type} {L : Nat → Int → Option ρ} (xs : List α) (p : α → Bool) (found : Nat → α → ρ) {none_ : ρ}
    (hstep : ∀ pre h t, pre ++ h :: t = xs → pre.length < xs.length → p h = false → ∀ v, Cm (fun k => L k ((pre.length + 1 : Nat) : Int)) v → Cm (fun k => L k (pre.length : Int)) v)
    (hyes : ∀ pre h t, pre ++ h :: t = xs → pre.length < xs.length → p h = true → Cm (fun k => L k (pre.length : Int)) (found pre.length h))
    (hend : Cm (fun k => L k (xs.length : Int)) none_) : Cm (fun k => L k 0) (foundAt p found none_ 0 xs) := by
  have key : ∀ (rest pre : List α), pre ++ rest = xs → Cm (fun k => L k (pre.length : Int)) (foundAt p found none_ pre.length rest) := by
    intro rest
    induction rest with
    | nil =>
      intro pre e
      rw [List.append_nil] at e
      subst e
      exact hend
    | cons x t ih =>
      intro pre e
      unfold foundAt
      by_cases c : p x = true
      · rw [if_pos c]
        exact hyes pre x t e (len_mid e) c
      · rw [if_neg c]
        have h3 := ih (pre ++ [x]) (app_mid e)
        rw [len_one] at h3
        exact hstep pre x t e (len_mid e) (by simpa using c) _ h3
  exact key xs [] rfl
theorem found_any {α : Type} (p : α → Bool) : ∀ (l : List α) (i : Nat), decide (foundAt p (fun i _ => (i : Int)) (-1) i l ≥ 0) = l.any p
  | [], _ => by simp [foundAt]
  | h :: t, i => by
    unfold foundAt
    by_cases c : p h = true
    · rw [if_pos c]; simp [c]
    · rw [if_neg c, found_any p t (i + 1)]; simp [c]
theorem not_any {α : Type} (p q : α → Bool) (l : List α) (h : ∀ x ∈ l, p x = !q x) : (!l.any p) = l.all q := by
  induction l with
  | nil => rfl
  | cons x t ih => rw [List.any_cons, List.all_cons, h x (by simp), ← ih (fun y hy => h y (by simp [hy]))]; cases q x <;> simp
theorem same_cm {α ρ : Type} {L : Nat → Int → Option ρ} (xs : List α) {fin : ρ}
    (hstep : ∀ pre h t, pre ++ h :: t = xs → pre.length < xs.length → ∀ v, Cm (fun k => L k ((pre.length + 1 : Nat) : Int)) v → Cm (fun k => L k (pre.length : Int)) v)
    (hend : Cm (fun k => L k (xs.length : Int)) fin) : Cm (fun k => L k 0) fin := by
  have := every_cm (L := L) xs (fun _ => true) (fin := fin) (no := fin) (fun pre h t e hl _ => hstep pre h t e hl) (fun _ _ _ _ _ hp => by cases hp) (fun _ => hend)
  have h : (xs.all fun _ => true) = true := by simp
  rw [if_pos h] at this
  exact this
theorem map_cm {α β : Type} {L : Nat → Int → List β → Option (List β)} (xs : List α) (c : α → β) (z : β)
    (hstep : ∀ pre h t acc, pre ++ h :: t = xs → pre.length < xs.length → acc.length = xs.length → ∀ u, Cm (fun k => L k ((pre.length + 1 : Nat) : Int) (acc.set pre.length (c h))) u → Cm (fun k => L k (pre.length : Int) acc) u)
    (hend : ∀ acc, acc.length = xs.length → Cm (fun k => L k (xs.length : Int) acc) acc) : Cm (fun k => L k 0 (List.replicate xs.length z)) (xs.map c) := by
  have key : ∀ (rest pre : List α) (tl : List β), pre ++ rest = xs → tl.length = rest.length → Cm (fun k => L k (pre.length : Int) (pre.map c ++ tl)) (xs.map c) := by
    intro rest
    induction rest with
    | nil =>
      intro pre tl e ht
      have ht2 : tl = [] := List.length_eq_zero_iff.1 ht
      rw [List.append_nil] at e
      subst ht2 e
      rw [List.append_nil]
      exact hend _ (by simp)
    | cons h t ih =>
      intro pre tl e ht
      match tl, ht with
      | y :: tl, ht =>
        refine hstep pre h t _ e (len_mid e) (by rw [← e]; simp at ht ⊢; omega) _ ?_
        have e2 : (pre.map c ++ y :: tl).set pre.length (c h) = (pre ++ [h]).map c ++ tl := by
          have : pre.length = (pre.map c).length := by simp
          rw [this]
          simp
        rw [e2]
        have := ih (pre ++ [h]) tl (app_mid e) (by simpa using ht)
        rw [len_one] at this
        exact this
  have := key xs [] (List.replicate xs.length z) rfl (by simp)
  simpa using this
theorem cm_if {α : Type} {c : Prop} [Decidable c] {x y : Nat → Option α} {v : α} (h : c → Cm x v) (h2 : ¬ c → Cm y v) : Cm (fun k => if c then x k else y k) v := by
  by_cases hc : c
  · exact cm_yes hc (h hc)
  · exact cm_no hc (h2 hc)
theorem getD_at {α : Type} {pre t l : List α} {h : α} (e : pre ++ h :: t = l) (d : α) : l.getD ((pre.length : Int)).toNat d = h := by
  rw [← e]; simp
theorem wrap_less {n : Nat} (h : 0 < n) (hm : n ≤ 4611686018427387904) : wrap64 ((n : Int) - 1) = (n : Int) - 1 := wrap_in (by omega) (by omega)
theorem cm_val {α : Type} {f : Nat → Option α} {u v : α} (h : Cm f u) (e : u = v) : Cm f v := e ▸ h
end Go.Proofs.Ytjngkfepppejeaa.Lp
end
section
namespace Go.Proofs.Ytjngkfepppejeaa.Hs
open Go.RowKit Go.Proofs.Ytjngkfepppejeaa.P Go.Proofs.YtjngkfepppejeaaW.PrintWords Go.Proofs.YtjngkfepppejeaaW.PrintLast Go.Proofs.YtjngkfepppejeaaW.PrintMore
open Go.Proofs.Ytjngkfepppejeaa.Pl Go.Proofs.Ytjngkfepppejeaa.EvN Go.Proofs.Ytjngkfepppejeaa.Lp
set_option linter.unusedSimpArgs false
set_option linter.unusedVariables false
theorem toIntS_f (l : List Int) (h : l.length * 8 ≤ 140737488351232) : Cm (fun k => laws_toIntS.f k l) l := by
  unfold laws_toIntS.f
  refine cm_yes (by omega) (cm_yes (by omega) ?_)
  have := map_cm (L := fun k i s => laws_toIntS.l0 k l s i) l (fun x => x) 0 ?_ ?_
  · simpa using this
  · intro pre x t acc e hlt ha u hu
    refine cm_step (fun k => by rw [laws_toIntS.l0]) ?_
    simp only [rd_at e, wrap_len hlt (show l.length ≤ 4611686018427387904 by omega), Int.toNat_natCast]
    repeat (first | assumption | exact cm_now (fun _ => rfl) | refine cm_yes (by first | omega | assumption | (simp; done) | (simp; omega)) ?_ | refine cm_no (by first | omega | assumption | (simp; done) | (simp; omega)) ?_)
  · intro acc ha
    refine cm_step (fun k => by rw [laws_toIntS.l0]) ?_
    repeat (first | assumption | exact cm_now (fun _ => rfl) | refine cm_yes (by first | omega | assumption | (simp; done) | (simp; omega)) ?_ | refine cm_no (by first | omega | assumption | (simp; done) | (simp; omega)) ?_)
theorem eqIntS_same (l : List Int) (h : l.length ≤ 4611686018427387904) : Cm (fun k => laws_eqIntS.f k l l) true := by
  unfold laws_eqIntS.f
  refine cm_yes rfl ?_
  refine same_cm (L := fun k i => laws_eqIntS.l0 k l l i) l ?_ ?_
  · intro pre x t e hlt v hv
    refine cm_step (fun k => by rw [laws_eqIntS.l0]) ?_
    simp only [rd_at e, wrap_len hlt h]
    repeat (first | assumption | exact cm_now (fun _ => rfl) | refine cm_yes (by first | omega | assumption | (simp; done) | (simp; omega) | exact rfl) ?_ | refine cm_no (by first | omega | assumption | (simp; done) | (simp; omega) | exact rfl) ?_)
  · refine cm_step (fun k => by rw [laws_eqIntS.l0]) ?_
    repeat (first | assumption | exact cm_now (fun _ => rfl) | refine cm_yes (by first | omega | assumption | (simp; done) | (simp; omega)) ?_ | refine cm_no (by first | omega | assumption | (simp; done) | (simp; omega)) ?_)
end Go.Proofs.Ytjngkfepppejeaa.Hs
end
section
namespace Go.Proofs.Ytjngkfepppejeaa.Hs
open Go.RowKit Go.Proofs.Ytjngkfepppejeaa.P Go.Proofs.YtjngkfepppejeaaW.PrintWords Go.Proofs.YtjngkfepppejeaaW.PrintLast Go.Proofs.YtjngkfepppejeaaW.PrintMore
open Go.Proofs.Ytjngkfepppejeaa.Pl Go.Proofs.Ytjngkfepppejeaa.EvN Go.Proofs.Ytjngkfepppejeaa.Lp
set_option linter.unusedSimpArgs false
set_option linter.unusedVariables false
theorem rdL_at {pre t l : List (List Int)} {h : List Int} (e : pre ++ h :: t = l) : rd_L1 l (pre.length : Int) = h := getD_at e _
theorem toIntSS_f (l : List (List Int)) (h : l.length * 24 ≤ 140737488351232) (hs : ∀ x ∈ l, x.length * 8 ≤ 140737488351232) : Cm (fun k => laws_toIntSS.f k l) l := by
  unfold laws_toIntSS.f
  refine cm_yes (by omega) (cm_yes (by omega) ?_)
  have := map_cm (L := fun k i s => laws_toIntSS.l0 k l s i) l (fun x => x) [] ?_ ?_
  · simpa using this
  · intro pre x t acc e hlt ha u hu
    have hx := hs x (by rw [← e]; simp)
    refine cm_step (fun k => by rw [laws_toIntSS.l0]) ?_
    simp only [rdL_at e, wrap_len hlt (show l.length ≤ 4611686018427387904 by omega), Int.toNat_natCast]
    repeat (first | assumption | exact cm_now (fun _ => rfl) | refine cm_bind (toIntS_f _ hx) ?_ | refine cm_yes (by first | omega | assumption | (simp; done) | (simp; omega)) ?_ | refine cm_no (by first | omega | assumption | (simp; done) | (simp; omega)) ?_)
  · intro acc ha
    refine cm_step (fun k => by rw [laws_toIntSS.l0]) ?_
    repeat (first | assumption | exact cm_now (fun _ => rfl) | refine cm_yes (by first | omega | assumption | (simp; done) | (simp; omega)) ?_ | refine cm_no (by first | omega | assumption | (simp; done) | (simp; omega)) ?_)
theorem eqIntSS_same (l : List (List Int)) (h : l.length ≤ 4611686018427387904) (hs : ∀ x ∈ l, x.length ≤ 4611686018427387904) : Cm (fun k => laws_eqIntSS.f k l l) true := by
  unfold laws_eqIntSS.f
  refine cm_yes rfl ?_
  refine same_cm (L := fun k i => laws_eqIntSS.l0 k l l i) l ?_ ?_
  · intro pre x t e hlt v hv
    have hx := hs x (by rw [← e]; simp)
    refine cm_step (fun k => by rw [laws_eqIntSS.l0]) ?_
    simp only [rdL_at e, wrap_len hlt h]
    repeat (first | assumption | exact cm_now (fun _ => rfl) | refine cm_bind (eqIntS_same _ hx) ?_ | refine cm_yes (by first | omega | assumption | (simp; done) | (simp; omega) | exact rfl) ?_ | refine cm_no (by first | omega | assumption | (simp; done) | (simp; omega) | exact rfl) ?_)
  · refine cm_step (fun k => by rw [laws_eqIntSS.l0]) ?_
    repeat (first | assumption | exact cm_now (fun _ => rfl) | refine cm_yes (by first | omega | assumption | (simp; done) | (simp; omega)) ?_ | refine cm_no (by first | omega | assumption | (simp; done) | (simp; omega)) ?_)
end Go.Proofs.Ytjngkfepppejeaa.Hs
end
section
namespace Go.Proofs.Ytjngkfepppejeaa.Sz
open Go.RowKit Go.Proofs.Ytjngkfepppejeaa.P Go.Proofs.YtjngkfepppejeaaW.PrintWords Go.Proofs.YtjngkfepppejeaaW.PrintLast Go.Proofs.YtjngkfepppejeaaW.PrintMore
open Go.Proofs.Ytjngkfepppejeaa.Pl Go.Proofs.Ytjngkfepppejeaa.EvN Go.Proofs.Ytjngkfepppejeaa.Lp Go.Proofs.Ytjngkfepppejeaa.Hs
set_option linter.unusedVariables false
set_option linter.unusedSimpArgs false
theorem wt_cm {α : Type} {L : Nat → Int → Int → Option Int} (xs : List α) (wt : α → Nat)
    (hstep : ∀ pre h t s, pre ++ h :: t = xs → pre.length < xs.length → 0 ≤ s → s ≤ 1099511627776 → (∃ v, v < 0 ∧ Cm (fun k => L k (pre.length : Int) s) v) ∨ ∃ s' : Int, 0 ≤ s' ∧ s' + (wt h : Int) = s ∧ ∀ u, Cm (fun k => L k ((pre.length + 1 : Nat) : Int) s') u → Cm (fun k => L k (pre.length : Int) s) u)
    (hend : ∀ s, Cm (fun k => L k (xs.length : Int) s) s) (s0 : Int) (h0 : 0 ≤ s0) (h1 : s0 ≤ 1099511627776) : ∃ v, Cm (fun k => L k 0 s0) v ∧ (v < 0 ∨ v + (((xs.map wt).sum : Nat) : Int) = s0) := by
  have key : ∀ (rest pre : List α) (s : Int), pre ++ rest = xs → 0 ≤ s → s ≤ 1099511627776 → ∃ v, Cm (fun k => L k (pre.length : Int) s) v ∧ (v < 0 ∨ v + (((rest.map wt).sum : Nat) : Int) = s) := by
    intro rest
    induction rest with
    | nil =>
      intro pre s e h0 h1
      rw [List.append_nil] at e
      subst e
      exact ⟨s, hend s, .inr (by simp)⟩
    | cons h t ih =>
      intro pre s e h0 h1
      rcases hstep pre h t s e (len_mid e) h0 h1 with ⟨v, hv, hc⟩ | ⟨s', hs', hw, hc⟩
      · exact ⟨v, hc, .inl hv⟩
      · obtain ⟨v, hv, hd⟩ := ih (pre ++ [h]) s' (app_mid e) hs' (by omega)
        rw [len_one] at hv
        refine ⟨v, hc v hv, hd.imp_right (fun hd => ?_)⟩
        rw [List.map_cons, List.sum_cons]
        push_cast
        omega
  exact key xs [] s0 rfl h0 h1
theorem off_wrap {n : Nat} {m : Int} (h0 : 0 ≤ m) (h1 : m ≤ 1099511627776) (h : n ≤ 4611686018427387904) : wrap64 (m - (n : Int)) = m - (n : Int) := wrap_in (by omega) (by omega)
theorem szIntS_wt (l : List Int) (hl : l.length ≤ 4611686018427387904) (m : Int) (h0 : 0 ≤ m) (h1 : m ≤ 1099511627776) : ∃ v, Cm (fun _ => laws_szIntS.f l m) v ∧ (v < 0 ∨ v + (l.length : Int) = m) := by
  unfold laws_szIntS.f
  rw [off_wrap h0 h1 hl]
  by_cases c : m - (l.length : Int) < 0
  · exact ⟨_, cm_yes c (cm_now fun _ => rfl), .inl (by omega)⟩
  · exact ⟨_, cm_no c (cm_now fun _ => rfl), .inr (by omega)⟩
theorem rdLL_at {pre t l : List (List Int)} {h : List Int} (e : pre ++ h :: t = l) : rd_L1 l (pre.length : Int) = h := getD_at e _
def wIntSS (l : List (List Int)) : Nat := l.length + (l.map List.length).sum
theorem szIntSS_wt (l : List (List Int)) (hl : l.length ≤ 4611686018427387904) (hl2 : ∀ y ∈ l, y.length ≤ 4611686018427387904) (m : Int) (h0 : 0 ≤ m) (h1 : m ≤ 1099511627776) : ∃ v, Cm (fun k => laws_szIntSS.f k l m) v ∧ (v < 0 ∨ v + (wIntSS l : Int) = m) := by
  unfold laws_szIntSS.f wIntSS
  rw [off_wrap h0 h1 hl]
  by_cases c : m - (l.length : Int) < 0
  · exact ⟨_, cm_yes c (cm_now fun _ => rfl), .inl (by omega)⟩
  · obtain ⟨v, hv, hd⟩ := wt_cm (L := fun k i s => laws_szIntSS.l0 k l s i) l List.length (fun pre x t s e hlt g0 g1 => by
      obtain ⟨v, hv, hd⟩ := szIntS_wt x (hl2 x (by rw [← e]; simp)) s g0 g1
      by_cases c2 : v < 0
      · refine .inl ⟨-1, by omega, ?_⟩
        refine cm_step (fun k => by rw [laws_szIntSS.l0]) ?_
        simp only [rdLL_at e, wrap_len hlt hl]
        exact cm_yes (by omega) (cm_yes (by omega) (cm_bind hv (cm_yes c2 (cm_now fun _ => rfl))))
      · refine .inr ⟨v, by omega, by omega, fun u hu => ?_⟩
        refine cm_step (fun k => by rw [laws_szIntSS.l0]) ?_
        simp only [rdLL_at e, wrap_len hlt hl]
        exact cm_yes (by omega) (cm_yes (by omega) (cm_bind hv (cm_no c2 hu)))) (fun s => by
      refine cm_step (fun k => by rw [laws_szIntSS.l0]) ?_
      exact cm_no (by omega) (cm_now fun _ => rfl)) (m - (l.length : Int)) (by omega) (by omega)
    exact ⟨v, cm_no c hv, by push_cast; omega⟩
theorem tot_le {α : Type} (c : α → Nat) (m : Nat) : ∀ (l : List α), (∀ x ∈ l, c x ≤ m) → Mk.tot c l ≤ m * l.length
  | [], _ => Nat.zero_le _
  | x :: l, h => by
    have := tot_le c m l (fun y hy => h y (List.mem_cons_of_mem _ hy))
    have := h x List.mem_cons_self
    unfold Mk.tot at *
    simp only [List.map_cons, List.sum_cons, List.length_cons, Nat.mul_succ]
    omega
theorem tot_tot (l : List (List Int)) : Mk.tot (fun y => Mk.tot (fun _ => 1) y) l = (l.map List.length).sum := by
  unfold Mk.tot
  congr 1
  exact List.map_congr_left (fun y _ => Mk.tot_one y)
end Go.Proofs.Ytjngkfepppejeaa.Sz
end
section
namespace Go.Proofs.Ytjngkfepppejeaa.Sets
open Go.RowKit Go.Proofs.YtjngkfepppejeaaW.PrintWords Go.Proofs.YtjngkfepppejeaaW.PrintLast Go.Proofs.YtjngkfepppejeaaW.PrintMore
open Go.Proofs.Ytjngkfepppejeaa.Pl Go.Proofs.Ytjngkfepppejeaa.EvN Go.Proofs.Ytjngkfepppejeaa.Lp
set_option linter.unusedSimpArgs false
set_option linter.unusedVariables false
def maskN (l : List Int) : Nat := l.foldl (fun s m => s ||| 2 ^ m.toNat) 0
theorem fold_bit (i : Nat) : ∀ (l : List Int) (s : Nat), (∀ x ∈ l, 0 ≤ x) → (l.foldl (fun s m => s ||| 2 ^ m.toNat) s).testBit i = (s.testBit i || decide ((i : Int) ∈ l))
  | [], s, _ => by simp
  | x :: t, s, h => by
    have h0 := h x (by simp)
    rw [List.foldl_cons, fold_bit i t _ (fun y hy => h y (by simp [hy])), Nat.testBit_or, Nat.testBit_two_pow, Bool.or_assoc]
    congr 1
    by_cases c : (i : Int) = x
    · have : x.toNat = i := by omega
      simp [this, c]
    · have : ¬ x.toNat = i := by omega
      simp [this, c]
theorem mask_bit (l : List Int) (h : ∀ x ∈ l, 0 ≤ x) (i : Nat) : (maskN l).testBit i = decide ((i : Int) ∈ l) := by
  unfold maskN
  rw [fold_bit i l 0 h]
  simp
theorem fold_lt (n : Nat) : ∀ (l : List Int) (s : Nat), s < 2 ^ n → (∀ x ∈ l, 0 ≤ x ∧ x < (n : Int)) → l.foldl (fun s m => s ||| 2 ^ m.toNat) s < 2 ^ n
  | [], s, hs, _ => hs
  | x :: t, s, hs, h => by
    have h0 := h x (by simp)
    rw [List.foldl_cons]
    refine fold_lt n t _ (Nat.or_lt_two_pow hs ?_) (fun y hy => h y (by simp [hy]))
    exact Nat.pow_lt_pow_right (by omega) (by omega)
theorem mask_lt (n : Nat) (l : List Int) (h : ∀ x ∈ l, 0 ≤ x ∧ x < (n : Int)) : maskN l < 2 ^ n := fold_lt n l 0 (Nat.two_pow_pos n) h
theorem and_zero (a b : Nat) : a &&& b = 0 ↔ ∀ i, ¬ (a.testBit i = true ∧ b.testBit i = true) := by
  constructor
  · intro h i ⟨h1, h2⟩
    have : (a &&& b).testBit i = true := by rw [Nat.testBit_and, h1, h2]; rfl
    rw [h, Nat.zero_testBit] at this
    exact Bool.false_ne_true this
  · intro h
    apply Nat.eq_of_testBit_eq
    intro i
    rw [Nat.testBit_and, Nat.zero_testBit]
    have := h i
    cases h1 : a.testBit i <;> cases h2 : b.testBit i <;> simp_all
theorem i64_in {x : Int} (h0 : 0 ≤ x) (h1 : x < 9223372036854775808) : IntKind.i64.wrap x = x := by
  simp [IntKind.wrap, IntKind.bits, IntKind.signed]
  omega
theorem ofInt_nat (a : Nat) (ha : a < 9223372036854775808) : (BitVec.ofInt 64 (a : Int)).toNat = a := by
  rw [BitVec.ofInt_natCast, BitVec.toNat_ofNat]
  exact Nat.mod_eq_of_lt (by omega)
theorem and_i64 (a b : Nat) (ha : a < 9223372036854775808) (hb : b < 9223372036854775808) : Go.bits .and .i64 (a : Int) (b : Int) = ((a &&& b : Nat) : Int) := by
  have hx : a &&& b < 2 ^ 63 := Nat.and_lt_two_pow _ (by omega)
  show IntKind.i64.wrap ((BitVec.ofInt 64 (a : Int) &&& BitVec.ofInt 64 (b : Int)).toNat : Int) = _
  rw [BitVec.toNat_and, ofInt_nat a ha, ofInt_nat b hb, i64_in (by omega) (by omega)]
theorem or_i64 (a b : Nat) (ha : a < 9223372036854775808) (hb : b < 9223372036854775808) : Go.bits .or .i64 (a : Int) (b : Int) = ((a ||| b : Nat) : Int) := by
  have hx : a ||| b < 2 ^ 63 := Nat.or_lt_two_pow (by omega) (by omega)
  show IntKind.i64.wrap ((BitVec.ofInt 64 (a : Int) ||| BitVec.ofInt 64 (b : Int)).toNat : Int) = _
  rw [BitVec.toNat_or, ofInt_nat a ha, ofInt_nat b hb, i64_in (by omega) (by omega)]
theorem andNot_i64 (a b : Nat) (ha : a < 9223372036854775808) (hb : b < 9223372036854775808) : Go.bits .andNot .i64 (a : Int) (b : Int) = ((a &&& (18446744073709551615 - b) : Nat) : Int) := by
  have hx : a &&& (18446744073709551615 - b) ≤ a := Nat.and_le_left
  show IntKind.i64.wrap ((BitVec.ofInt 64 (a : Int) &&& ~~~ BitVec.ofInt 64 (b : Int)).toNat : Int) = _
  rw [BitVec.toNat_and, BitVec.toNat_not, ofInt_nat a ha, ofInt_nat b hb]
  have : 2 ^ 64 - 1 - b = 18446744073709551615 - b := by omega
  rw [this, i64_in (by omega) (by omega)]
theorem shl_one {m : Int} (h0 : 0 ≤ m) (h1 : m < 62) : shl .i64 1 m = ((2 ^ m.toNat : Nat) : Int) := by
  have hm : min m.toNat IntKind.i64.bits = m.toNat := by
    have : IntKind.i64.bits = 64 := rfl
    omega
  have hp : 2 ^ m.toNat < 2 ^ 62 := Nat.pow_lt_pow_right (by omega) (by omega)
  unfold shl
  rw [hm, Int.one_mul, show ((2 : Int) ^ m.toNat) = ((2 ^ m.toNat : Nat) : Int) by simp]
  generalize 2 ^ m.toNat = z at hp
  exact i64_in (by omega) (by omega)
theorem shr_nat (a : Nat) {m : Int} (h1 : m ≤ 64) : shr .i64 (a : Int) m = ((a / 2 ^ m.toNat : Nat) : Int) := by
  have hm : min m.toNat IntKind.i64.bits = m.toNat := by
    have : IntKind.i64.bits = 64 := rfl
    omega
  unfold shr
  rw [hm]
  simp
theorem bit_i64 (a : Nat) {m : Int} (ha : a < 9223372036854775808) (h0 : 0 ≤ m) (h1 : m ≤ 64) : Go.bits .and .i64 (shr .i64 (a : Int) m) 1 = if a.testBit m.toNat = true then 1 else 0 := by
  have hd : a / 2 ^ m.toNat ≤ a := Nat.div_le_self _ _
  rw [shr_nat a h1, show (1 : Int) = ((1 : Nat) : Int) from rfl, and_i64 _ _ (by omega) (by omega), Nat.and_one_is_mod, Nat.testBit_eq_decide_div_mod_eq]
  by_cases c : a / 2 ^ m.toNat % 2 = 1
  · simp [c]
  · have c2 : a / 2 ^ m.toNat % 2 = 0 := by omega
    simp [c2]
def meet (a b : List Int) : Bool := a.any (fun x => decide (x ∈ b))
theorem meet_mask (a b : List Int) (ha : ∀ x ∈ a, 0 ≤ x) (hb : ∀ x ∈ b, 0 ≤ x) : meet a b = true ↔ ¬ maskN a &&& maskN b = 0 := by
  rw [and_zero]
  simp only [mask_bit a ha, mask_bit b hb, meet, List.any_eq_true, decide_eq_true_eq]
  constructor
  · rintro ⟨x, h1, h2⟩ h
    have := ha x h1
    refine h x.toNat ⟨?_, ?_⟩
    · rw [Int.toNat_of_nonneg this]; exact h1
    · rw [Int.toNat_of_nonneg this]; exact h2
  · intro h
    have : ∃ i : Nat, (i : Int) ∈ a ∧ (i : Int) ∈ b := by
      by_cases c : ∃ i : Nat, (i : Int) ∈ a ∧ (i : Int) ∈ b
      · exact c
      · exact absurd (fun i hi => c ⟨i, hi⟩) h
    obtain ⟨i, h1, h2⟩ := this
    exact ⟨i, h1, h2⟩
def rises (many : Int) (pre : List Int) (h : Int) : Bool := decide (0 ≤ h ∧ h < many) && (match pre.getLast? with | some q => decide (q < h) | none => true)
def members (many : Int) (l : List Int) : Bool := okFrom (rises many) [] l
theorem members_in {many : Int} {l : List Int} (h : members many l = true) : ∀ x ∈ l, 0 ≤ x ∧ x < many := by
  intro x hx
  obtain ⟨a, t, e⟩ := List.append_of_mem hx
  have := (okFrom_iff (rises many) l []).1 h a x t e.symm
  simp only [rises, Bool.and_eq_true, decide_eq_true_eq] at this
  exact this.1
def groups (many : Int) (l : List (List Int)) : Bool := l.all (fun g => decide (g.length ≠ 0) && members many g) && decide (l.length ≤ 40)
theorem groups_iff {many : Int} {l : List (List Int)} : groups many l = true ↔ (∀ g ∈ l, g.length ≠ 0 ∧ members many g = true) ∧ l.length ≤ 40 := by
  simp [groups]
end Go.Proofs.Ytjngkfepppejeaa.Sets
end
section
namespace Go.Proofs.Ytjngkfepppejeaa.Mem
open Go.RowKit Go.Proofs.Ytjngkfepppejeaa.P Go.Proofs.YtjngkfepppejeaaW.PrintWords Go.Proofs.YtjngkfepppejeaaW.PrintLast Go.Proofs.YtjngkfepppejeaaW.PrintMore
open Go.Proofs.Ytjngkfepppejeaa.Pl Go.Proofs.Ytjngkfepppejeaa.EvN Go.Proofs.Ytjngkfepppejeaa.Lp Go.Proofs.Ytjngkfepppejeaa.Sets
set_option linter.unusedSimpArgs false
set_option linter.unusedVariables false
theorem in_f (a b c : Int) : impl_in.f a b c = some (decide (b ≤ a ∧ a ≤ c)) := by
  unfold impl_in.f
  by_cases h : a ≥ b
  · rw [if_pos h]; congr 1; rw [decide_eq_decide]; omega
  · rw [if_neg h]; congr 1; symm; rw [decide_eq_false_iff_not]; omega
theorem l1In_f (a b c : Int) : spec_l1In.f a b c = some (decide (b ≤ a ∧ a ≤ c)) := by
  unfold spec_l1In.f
  by_cases h : a ≥ b
  · rw [if_pos h]; congr 1; rw [decide_eq_decide]; omega
  · rw [if_neg h]; congr 1; symm; rw [decide_eq_false_iff_not]; omega
theorem l1_at {pre t l : List (List Int)} {h : List Int} (e : pre ++ h :: t = l) : rd_L1 l (pre.length : Int) = h := getD_at e _
theorem if_self (b : Bool) : (if b = true then true else false) = b := by cases b <;> rfl
theorem rises_no {many : Int} {pre : List Int} {h : Int} (hp : rises many pre h = false) (h0 : 0 ≤ h) (h1 : h < many) : ∃ q, pre.getLast? = some q ∧ h ≤ q := by
  unfold rises at hp
  cases e : pre.getLast? with
  | none => rw [e] at hp; simp at hp; omega
  | some q =>
    rw [e] at hp
    simp at hp
    exact ⟨q, rfl, by omega⟩
theorem rises_yes {many : Int} {pre : List Int} {h : Int} (hp : rises many pre h = true) : (0 ≤ h ∧ h < many) ∧ ∀ q, pre.getLast? = some q → q < h := by
  unfold rises at hp
  simp only [Bool.and_eq_true, decide_eq_true_eq] at hp
  refine ⟨hp.1, fun q e => ?_⟩
  have h2 := hp.2
  rw [e] at h2
  simpa using h2
theorem last_cases {α : Type} (pre : List α) : pre = [] ∨ ∃ q, pre.getLast? = some q := by
  cases e : pre.getLast? with
  | none => exact .inl (no_last e)
  | some q => exact .inr ⟨q, rfl⟩
end Go.Proofs.Ytjngkfepppejeaa.Mem
end
section
namespace Go.Proofs.Ytjngkfepppejeaa.Mem
open Go.RowKit Go.Proofs.Ytjngkfepppejeaa.P Go.Proofs.YtjngkfepppejeaaW.PrintWords Go.Proofs.YtjngkfepppejeaaW.PrintLast Go.Proofs.YtjngkfepppejeaaW.PrintMore
open Go.Proofs.Ytjngkfepppejeaa.Pl Go.Proofs.Ytjngkfepppejeaa.EvN Go.Proofs.Ytjngkfepppejeaa.Lp Go.Proofs.Ytjngkfepppejeaa.Sets
set_option linter.unusedSimpArgs false
set_option linter.unusedVariables false
theorem has_f (l : List Int) (n : Int) (hl : l.length ≤ 4611686018427387904) : Cm (fun k => spec_l1Has.f k l n) (decide (n ∈ l)) := by
  unfold spec_l1Has.f
  have := every_cm (L := fun k i => spec_l1Has.l0 k n l (l.length : Int) i) l (fun x => decide (x ≠ n)) (fin := false) (no := true) ?_ ?_ ?_
  · refine cm_val this ?_
    by_cases c : n ∈ l
    · simp [c]
    · simp [c]
      intro x hx e
      subst e
      exact c hx
  · intro pre h t e hlt hp v hv
    simp only [decide_eq_true_eq] at hp
    refine cm_step (fun k => by rw [spec_l1Has.l0]) ?_
    simp only [rd_at e, wrap_len hlt hl]
    repeat (first | assumption | exact cm_now (fun _ => rfl) | refine cm_yes (by first | omega | assumption | (simp; done) | (simp; omega)) ?_ | refine cm_no (by first | omega | assumption | (simp; done) | (simp; omega)) ?_)
  · intro pre h t e hlt hp
    simp only [decide_eq_false_iff_not, ne_eq, Decidable.not_not] at hp
    refine cm_step (fun k => by rw [spec_l1Has.l0]) ?_
    simp only [rd_at e, wrap_len hlt hl]
    repeat (first | assumption | exact cm_now (fun _ => rfl) | refine cm_yes (by first | omega | assumption | (simp; done) | (simp; omega)) ?_ | refine cm_no (by first | omega | assumption | (simp; done) | (simp; omega)) ?_)
  · intro _
    refine cm_step (fun k => by rw [spec_l1Has.l0]) ?_
    repeat (first | assumption | exact cm_now (fun _ => rfl) | refine cm_yes (by first | omega | assumption | (simp; done) | (simp; omega)) ?_ | refine cm_no (by first | omega | assumption | (simp; done) | (simp; omega)) ?_)
theorem group_f (l : List Int) (many : Int) (hl : l.length ≤ 4611686018427387904) : Cm (fun k => spec_l6Group.f k l many) (members many l) := by
  unfold spec_l6Group.f
  have := all_cm (L := fun k i => spec_l6Group.l0 k l many l (l.length : Int) i) l (rises many) (fin := true) (no := false) ?_ ?_ ?_
  · exact cm_val this (if_self _)
  · intro pre h t e hlt hp v hv
    obtain ⟨⟨h0, h1⟩, h2⟩ := rises_yes hp
    refine cm_step (fun k => by rw [spec_l6Group.l0]) ?_
    simp only [rd_at e, wrap_len hlt hl]
    refine cm_yes (by omega) (cm_yes (by omega) (cm_yes (by omega) (cm_no (by omega) (cm_no (by omega) ?_))))
    rcases last_cases pre with rfl | ⟨q, hq⟩
    · exact cm_no (by simp) hv
    · obtain ⟨h3, h4⟩ := rd_last e hq
      have h5 := h2 q hq
      rw [wrap_less h3 (by omega), h4]
      repeat (first | assumption | exact cm_now (fun _ => rfl) | refine cm_yes (by first | omega | assumption | (simp; done) | (simp; omega)) ?_ | refine cm_no (by first | omega | assumption | (simp; done) | (simp; omega)) ?_)
  · intro pre h t e hlt hp
    refine cm_step (fun k => by rw [spec_l6Group.l0]) ?_
    simp only [rd_at e, wrap_len hlt hl]
    refine cm_yes (by omega) (cm_yes (by omega) (cm_yes (by omega) ?_))
    refine cm_if (fun _ => cm_now fun _ => rfl) (fun c0 => cm_if (fun _ => cm_now fun _ => rfl) (fun c1 => ?_))
    obtain ⟨q, hq, h5⟩ := rises_no hp (by omega) (by omega)
    obtain ⟨h3, h4⟩ := rd_last e hq
    rw [wrap_less h3 (by omega), h4]
    repeat (first | assumption | exact cm_now (fun _ => rfl) | refine cm_yes (by first | omega | assumption | (simp; done) | (simp; omega)) ?_ | refine cm_no (by first | omega | assumption | (simp; done) | (simp; omega)) ?_)
  · intro _
    refine cm_step (fun k => by rw [spec_l6Group.l0]) ?_
    repeat (first | assumption | exact cm_now (fun _ => rfl) | refine cm_yes (by first | omega | assumption | (simp; done) | (simp; omega)) ?_ | refine cm_no (by first | omega | assumption | (simp; done) | (simp; omega)) ?_)
theorem areMembers_f (l : List Int) (many : Int) (hl : l.length ≤ 4611686018427387904) (hm : 0 ≤ many ∧ many ≤ 4611686018427387904) : Cm (fun k => impl_areMembers.f k l many) (members many l) := by
  have hw : wrap64 (many - 1) = many - 1 := wrap_in (by omega) (by omega)
  unfold impl_areMembers.f
  have := all_cm (L := fun k i => impl_areMembers.l0 k l many l (l.length : Int) i) l (rises many) (fin := true) (no := false) ?_ ?_ ?_
  · exact cm_val this (if_self _)
  · intro pre h t e hlt hp v hv
    obtain ⟨⟨h0, h1⟩, h2⟩ := rises_yes hp
    refine cm_step (fun k => by rw [impl_areMembers.l0]) ?_
    simp only [rd_at e, wrap_len hlt hl, hw]
    refine cm_yes (by omega) (cm_yes (by omega) (cm_yes (by omega) (cm_bind (cm_now fun _ => in_f _ _ _) (cm_yes (by simp; omega) ?_))))
    rcases last_cases pre with rfl | ⟨q, hq⟩
    · exact cm_no (by simp) hv
    · obtain ⟨h3, h4⟩ := rd_last e hq
      have h5 := h2 q hq
      rw [wrap_less h3 (by omega), h4]
      repeat (first | assumption | exact cm_now (fun _ => rfl) | refine cm_yes (by first | omega | assumption | (simp; done) | (simp; omega)) ?_ | refine cm_no (by first | omega | assumption | (simp; done) | (simp; omega)) ?_)
  · intro pre h t e hlt hp
    refine cm_step (fun k => by rw [impl_areMembers.l0]) ?_
    simp only [rd_at e, wrap_len hlt hl, hw]
    refine cm_yes (by omega) (cm_yes (by omega) (cm_yes (by omega) (cm_bind (cm_now fun _ => in_f _ _ _) ?_)))
    refine cm_if (fun c0 => ?_) (fun _ => cm_now fun _ => rfl)
    simp only [decide_eq_true_eq] at c0
    obtain ⟨q, hq, h5⟩ := rises_no hp (by omega) (by omega)
    obtain ⟨h3, h4⟩ := rd_last e hq
    rw [wrap_less h3 (by omega), h4]
    repeat (first | assumption | exact cm_now (fun _ => rfl) | refine cm_yes (by first | omega | assumption | (simp; done) | (simp; omega)) ?_ | refine cm_no (by first | omega | assumption | (simp; done) | (simp; omega)) ?_)
  · intro _
    refine cm_step (fun k => by rw [impl_areMembers.l0]) ?_
    repeat (first | assumption | exact cm_now (fun _ => rfl) | refine cm_yes (by first | omega | assumption | (simp; done) | (simp; omega)) ?_ | refine cm_no (by first | omega | assumption | (simp; done) | (simp; omega)) ?_)
end Go.Proofs.Ytjngkfepppejeaa.Mem
end
section
namespace Go.Proofs.Ytjngkfepppejeaa.Qs
open Go.RowKit Go.Proofs.Ytjngkfepppejeaa.P Go.Proofs.YtjngkfepppejeaaW.PrintWords Go.Proofs.YtjngkfepppejeaaW.PrintLast Go.Proofs.YtjngkfepppejeaaW.PrintMore
open Go.Proofs.Ytjngkfepppejeaa.Pl Go.Proofs.Ytjngkfepppejeaa.EvN Go.Proofs.Ytjngkfepppejeaa.Lp Go.Proofs.Ytjngkfepppejeaa.Sets Go.Proofs.Ytjngkfepppejeaa.Mem
set_option linter.unusedSimpArgs false
set_option linter.unusedVariables false
theorem meet_f (a b : List Int) (ha : a.length ≤ 4611686018427387904) (hb : b.length ≤ 4611686018427387904) : Cm (fun k => spec_l6Meet.f k a b) (meet a b) := by
  unfold spec_l6Meet.f
  have := every_cm (L := fun k i => spec_l6Meet.l0 k b a (a.length : Int) i) a (fun x => decide (x ∉ b)) (fin := false) (no := true) ?_ ?_ ?_
  · refine cm_val this ?_
    unfold meet
    by_cases c : ∃ x ∈ a, x ∈ b
    · obtain ⟨x, h1, h2⟩ := c
      have h3 : a.any (fun x => decide (x ∈ b)) = true := by simp; exact ⟨x, h1, h2⟩
      have h4 : a.all (fun x => decide (x ∉ b)) = false := by simp; exact ⟨x, h1, h2⟩
      rw [h3, h4]; rfl
    · have h3 : a.any (fun x => decide (x ∈ b)) = false := by simp; intro x h1 h2; exact c ⟨x, h1, h2⟩
      have h4 : a.all (fun x => decide (x ∉ b)) = true := by simp; intro x h1 h2; exact c ⟨x, h1, h2⟩
      rw [h3, h4]; rfl
  · intro pre h t e hlt hp v hv
    simp only [decide_eq_true_eq] at hp
    refine cm_step (fun k => by rw [spec_l6Meet.l0]) ?_
    simp only [rd_at e, wrap_len hlt ha]
    repeat (first | assumption | exact cm_now (fun _ => rfl) | refine cm_bind (has_f _ _ hb) ?_ | refine cm_yes (by first | omega | assumption | (simp; done) | (simp; omega) | exact (by simpa using hp)) ?_ | refine cm_no (by first | omega | assumption | (simp; done) | (simp; omega) | exact (by simpa using hp)) ?_)
  · intro pre h t e hlt hp
    simp only [decide_eq_false_iff_not, Decidable.not_not] at hp
    refine cm_step (fun k => by rw [spec_l6Meet.l0]) ?_
    simp only [rd_at e, wrap_len hlt ha]
    repeat (first | assumption | exact cm_now (fun _ => rfl) | refine cm_bind (has_f _ _ hb) ?_ | refine cm_yes (by first | omega | assumption | (simp; done) | (simp; omega) | exact (by simpa using hp)) ?_ | refine cm_no (by first | omega | assumption | (simp; done) | (simp; omega) | exact (by simpa using hp)) ?_)
  · intro _
    refine cm_step (fun k => by rw [spec_l6Meet.l0]) ?_
    repeat (first | assumption | exact cm_now (fun _ => rfl) | refine cm_yes (by first | omega | assumption | (simp; done) | (simp; omega)) ?_ | refine cm_no (by first | omega | assumption | (simp; done) | (simp; omega)) ?_)
theorem groups_f (l : List (List Int)) (many : Int) (hl : l.length ≤ 4611686018427387904) (hs : ∀ g ∈ l, g.length ≤ 4611686018427387904) : Cm (fun k => spec_l6Groups.f k l many) (groups many l) := by
  unfold spec_l6Groups.f
  have := every_cm (L := fun k i => spec_l6Groups.l0 k l many l (l.length : Int) i) l (fun g => decide (g.length ≠ 0) && members many g) (fin := decide (l.length ≤ 40)) (no := false) ?_ ?_ ?_
  · refine cm_val this ?_
    unfold groups
    cases l.all fun g => decide (g.length ≠ 0) && members many g <;> simp
  · intro pre h t e hlt hp v hv
    have hg := hs h (by rw [← e]; simp)
    simp only [Bool.and_eq_true, decide_eq_true_eq] at hp
    refine cm_step (fun k => by rw [spec_l6Groups.l0]) ?_
    simp only [l1_at e, wrap_len hlt hl]
    repeat (first | assumption | exact cm_now (fun _ => rfl) | refine cm_bind (group_f _ _ hg) ?_ | refine cm_yes (by first | omega | assumption | (simp; done) | (simp; omega) | exact hp.2) ?_ | refine cm_no (by first | omega | assumption | (simp; done) | (simp; omega) | exact hp.2) ?_)
  · intro pre h t e hlt hp
    have hg := hs h (by rw [← e]; simp)
    refine cm_step (fun k => by rw [spec_l6Groups.l0]) ?_
    simp only [l1_at e, wrap_len hlt hl]
    refine cm_yes (by omega) (cm_yes (by omega) (cm_yes (by omega) ?_))
    refine cm_if (fun _ => cm_now fun _ => rfl) (fun c => cm_bind (group_f _ _ hg) (cm_no ?_ (cm_now fun _ => rfl)))
    have c2 : h.length ≠ 0 := by omega
    simpa [c2] using hp
  · intro _
    refine cm_step (fun k => by rw [spec_l6Groups.l0]) ?_
    refine cm_no (by omega) (cm_now fun _ => ?_)
    congr 1
    rw [decide_eq_decide]
    omega
theorem anyG_index (a : Int) (l : List (List Int)) (hl : l.length ≤ 4611686018427387904) (p : (List Int) → Bool) (hc : ∀ h ∈ l, Cm (fun k => impl_areGroups_1.f k h a) (p h)) :
    Cm (fun k => slices_IndexFunc_int_int_of_impl_areGroups_1.f k l a) (foundAt p (fun i _ => (i : Int)) (-1) 0 l) := by
  unfold slices_IndexFunc_int_int_of_impl_areGroups_1.f
  refine find_cm (L := fun k i => slices_IndexFunc_int_int_of_impl_areGroups_1.l0 k l (l.length : Int) i a) l p (fun i _ => (i : Int)) (none_ := (-1 : Int)) ?_ ?_ ?_
  · intro pre h t e hlt hp v hv
    refine cm_step (fun k => by rw [slices_IndexFunc_int_int_of_impl_areGroups_1.l0]) ?_
    simp only [l1_at e, wrap_len hlt hl]
    refine cm_yes (by omega) (cm_yes (by omega) (cm_yes (by omega) (cm_bind (hc h (by rw [← e]; simp)) ?_)))
    exact cm_no (by simpa using hp) hv
  · intro pre h t e hlt hp
    refine cm_step (fun k => by rw [slices_IndexFunc_int_int_of_impl_areGroups_1.l0]) ?_
    simp only [l1_at e, wrap_len hlt hl]
    refine cm_yes (by omega) (cm_yes (by omega) (cm_yes (by omega) (cm_bind (hc h (by rw [← e]; simp)) ?_)))
    exact cm_yes hp (cm_now fun _ => rfl)
  · refine cm_step (fun k => by rw [slices_IndexFunc_int_int_of_impl_areGroups_1.l0]) ?_
    exact cm_no (by omega) (cm_now fun _ => rfl)
theorem anyG (a : Int) (l : List (List Int)) (hl : l.length ≤ 4611686018427387904) (p : (List Int) → Bool) (hc : ∀ h ∈ l, Cm (fun k => impl_areGroups_1.f k h a) (p h)) : Cm (fun k => slices_ContainsFunc_int_int_of_impl_areGroups_1.f k l a) (l.any p) := by
  unfold slices_ContainsFunc_int_int_of_impl_areGroups_1.f
  refine cm_bind (anyG_index a l hl p hc) (cm_now fun _ => ?_)
  rw [found_any]
theorem areGroups_f (l : List (List Int)) (many : Int) (hl : l.length ≤ 4611686018427387904) (hs : ∀ g ∈ l, g.length ≤ 4611686018427387904) (hm : 0 ≤ many ∧ many ≤ 4611686018427387904) : Cm (fun k => impl_areGroups.f k l many) (groups many l) := by
  unfold impl_areGroups.f
  by_cases c : l.length ≤ 40
  · refine cm_yes (by omega) (cm_bind (anyG many l hl (fun g => !(decide (g.length ≠ 0) && members many g)) (fun g hg => ?_)) (cm_now fun _ => ?_))
    · unfold impl_areGroups_1.f
      by_cases c0 : g.length = 0
      · exact cm_yes (by omega) (cm_now fun _ => by simp [c0])
      · exact cm_no (by omega) (cm_bind (areMembers_f g many (hs g hg) hm) (cm_now fun _ => by simp [c0]))
    · rw [not_any _ (fun g => decide (g.length ≠ 0) && members many g) l (fun _ _ => rfl)]
      simp [groups, c]
  · refine cm_no (by omega) (cm_now fun _ => ?_)
    simp [groups, c]
end Go.Proofs.Ytjngkfepppejeaa.Qs
end
section
namespace Go.Proofs.Ytjngkfepppejeaa.Qs
open Go.RowKit Go.Proofs.Ytjngkfepppejeaa.P Go.Proofs.YtjngkfepppejeaaW.PrintWords Go.Proofs.YtjngkfepppejeaaW.PrintLast Go.Proofs.YtjngkfepppejeaaW.PrintMore
open Go.Proofs.Ytjngkfepppejeaa.Pl Go.Proofs.Ytjngkfepppejeaa.EvN Go.Proofs.Ytjngkfepppejeaa.Lp Go.Proofs.Ytjngkfepppejeaa.Sets Go.Proofs.Ytjngkfepppejeaa.Mem
set_option linter.unusedSimpArgs false
set_option linter.unusedVariables false
def Fits (l : List Int) : Prop := l.length ≤ 4611686018427387904 ∧ ∀ x ∈ l, 0 ≤ x ∧ x < 62
theorem Fits.pos {l : List Int} (h : Fits l) : ∀ x ∈ l, 0 ≤ x := fun x hx => (h.2 x hx).1
theorem Fits.lt {l : List Int} (h : Fits l) : maskN l < 9223372036854775808 := by
  have := mask_lt 62 l (fun x hx => by have := h.2 x hx; omega)
  omega
theorem maskOf_f (l : List Int) (h : Fits l) : Cm (fun k => impl_maskOf.f k l) ((maskN l : Nat) : Int) := by
  unfold impl_maskOf.f
  refine fold_cm (L := fun k i s => impl_maskOf.l0 k s l (l.length : Int) i) l (fun s m => ((s.toNat ||| 2 ^ m.toNat : Nat) : Int)) (fun pre s => s = ((maskN pre : Nat) : Int)) 0 rfl ?_ ?_
  · intro pre x t s e hlt hi
    have hx := h.2 x (by rw [← e]; simp)
    subst hi
    have hb : maskN pre < 2 ^ 62 := mask_lt 62 pre (fun y hy => by have := h.2 y (by rw [← e]; simp [hy]); omega)
    have hp : 2 ^ x.toNat < 2 ^ 62 := Nat.pow_lt_pow_right (by omega) (by omega)
    refine ⟨by simp [maskN], fun u hu => ?_⟩
    refine cm_step (fun k => by rw [impl_maskOf.l0]) ?_
    simp only [rd_at e, wrap_len hlt h.1, shl_one hx.1 hx.2]
    rw [or_i64 _ _ (by omega) (by omega)]
    repeat (first | assumption | exact cm_now (fun _ => rfl) | refine cm_yes (by first | omega | assumption | (simp; done) | (simp; omega)) ?_ | refine cm_no (by first | omega | assumption | (simp; done) | (simp; omega)) ?_)
  · intro hi
    rw [hi]
    refine cm_step (fun k => by rw [impl_maskOf.l0]) ?_
    repeat (first | assumption | exact cm_now (fun _ => rfl) | refine cm_yes (by first | omega | assumption | (simp; done) | (simp; omega)) ?_ | refine cm_no (by first | omega | assumption | (simp; done) | (simp; omega)) ?_)
end Go.Proofs.Ytjngkfepppejeaa.Qs
end
section
namespace Go.Proofs.Ytjngkfepppejeaa.Pick
open Go.RowKit Go.Proofs.YtjngkfepppejeaaW.PrintWords
open Go.Proofs.Ytjngkfepppejeaa.Pl Go.Proofs.Ytjngkfepppejeaa.EvN Go.Proofs.Ytjngkfepppejeaa.Lp
set_option linter.unusedVariables false
set_option linter.unusedSimpArgs false
theorem iter_cm {σ ρ : Type} {L : Nat → Int → σ → Option ρ} (n : Nat) (st : Nat → σ) {v : ρ} (hs : ∀ i, i < n → ∀ u, Cm (fun k => L k ((i + 1 : Nat) : Int) (st (i + 1))) u → Cm (fun k => L k (i : Int) (st i)) u)
    (he : Cm (fun k => L k (n : Int) (st n)) v) : Cm (fun k => L k 0 (st 0)) v := by
  have key : ∀ (d i : Nat), i + d = n → Cm (fun k => L k (i : Int) (st i)) v := by
    intro d
    induction d with
    | zero => intro i e; rw [Nat.add_zero] at e; subst e; exact he
    | succ d ih => intro i e; exact hs i (by omega) v (ih (i + 1) (by omega))
  exact key n 0 (by omega)
theorem wrap_n {i n : Nat} (h : i < n) (hn : n ≤ 4611686018427387904) : wrap64 ((i : Int) + 1) = ((i + 1 : Nat) : Int) := by
  rw [show ((i + 1 : Nat) : Int) = (i : Int) + 1 by omega]
  exact wrap_in (by omega) (by omega)
end Go.Proofs.Ytjngkfepppejeaa.Pick
end
section
namespace Go.Proofs.Ytjngkfepppejeaa.Qs
open Go.RowKit Go.Proofs.Ytjngkfepppejeaa.P Go.Proofs.YtjngkfepppejeaaW.PrintWords Go.Proofs.YtjngkfepppejeaaW.PrintLast Go.Proofs.YtjngkfepppejeaaW.PrintMore
open Go.Proofs.Ytjngkfepppejeaa.Pl Go.Proofs.Ytjngkfepppejeaa.EvN Go.Proofs.Ytjngkfepppejeaa.Lp Go.Proofs.Ytjngkfepppejeaa.Sets Go.Proofs.Ytjngkfepppejeaa.Mem Go.Proofs.Ytjngkfepppejeaa.Pick
set_option linter.unusedSimpArgs false
set_option linter.unusedVariables false
theorem iterf_cm {σ ρ : Type} {L : Nat → Int → σ → Option ρ} (s n : Nat) (hsn : s ≤ n) (st : Nat → σ) {v : ρ} (hs : ∀ i, s ≤ i → i < n → ∀ u, Cm (fun k => L k ((i + 1 : Nat) : Int) (st (i + 1))) u → Cm (fun k => L k (i : Int) (st i)) u)
    (he : Cm (fun k => L k (n : Int) (st n)) v) : Cm (fun k => L k (s : Int) (st s)) v := by
  have key : ∀ (d i : Nat), s ≤ i → i + d = n → Cm (fun k => L k (i : Int) (st i)) v := by
    intro d
    induction d with
    | zero => intro i _ e; rw [Nat.add_zero] at e; subst e; exact he
    | succ d ih => intro i h e; exact hs i h (by omega) v (ih (i + 1) (by omega) (by omega))
  exact key (n - s) s (Nat.le_refl _) (by omega)
def msN (n b : Nat) : List Int := ((List.range n).filter (fun m => b.testBit m)).map (fun (m : Nat) => (m : Int))
def ms (b : Nat) : List Int := msN 7 b
def off (b m : Nat) : Nat := b &&& (18446744073709551615 - 2 ^ m)
theorem off_le (b m : Nat) : off b m ≤ b := Nat.and_le_left
theorem msN_mem {n b : Nat} {x : Int} : x ∈ msN n b ↔ ∃ m, m < n ∧ b.testBit m = true ∧ (m : Int) = x := by
  simp [msN, and_assoc]
theorem bit_out {b n m : Nat} (hb : b < 2 ^ n) (h : n ≤ m) : b.testBit m = false := Nat.testBit_lt_two_pow (Nat.lt_of_lt_of_le hb (Nat.pow_le_pow_right (by omega) h))
theorem msN_more {n b : Nat} (hb : b < 2 ^ n) : ∀ d, msN (n + d) b = msN n b
  | 0 => rfl
  | d + 1 => by
    rw [← msN_more hb d]
    unfold msN
    rw [← Nat.add_assoc, List.range_succ, List.filter_append]
    simp [bit_out hb (show n ≤ n + d by omega)]
theorem ms_eq {n b : Nat} (hb : b < 2 ^ n) (hn : n ≤ 7) : ms b = msN n b := by
  have := msN_more hb (7 - n)
  rwa [show n + (7 - n) = 7 by omega] at this
theorem ms_in {n b : Nat} (hb : b < 2 ^ n) (hn : n ≤ 7) : ∀ x ∈ ms b, 0 ≤ x ∧ x < (n : Int) := by
  intro x hx
  rw [ms_eq hb hn, msN_mem] at hx
  obtain ⟨m, h1, _, rfl⟩ := hx
  omega
theorem ms_len (b : Nat) : (ms b).length ≤ 7 := by
  unfold ms msN
  rw [List.length_map]
  exact Nat.le_trans (List.length_filter_le _ _) (by simp)
theorem pow_le7 {n : Nat} (hn : n ≤ 7) : 2 ^ n ≤ 128 := Nat.pow_le_pow_right (n := 2) (by omega) (show n ≤ 7 from hn)
def lst (P : Nat → Bool) (n b : Nat) : Bool := P b && (List.range n).all (fun m => !b.testBit m || !P (off b m))
def lsts (P : Nat → Bool) (n i : Nat) : List (List Int) := ((List.range i).filter (lst P n)).map ms
theorem lsts_len (P : Nat → Bool) (n i : Nat) : (lsts P n i).length ≤ i := by
  unfold lsts
  rw [List.length_map]
  exact Nat.le_trans (List.length_filter_le _ _) (by simp)
theorem lsts_yes {P : Nat → Bool} {n i : Nat} (h : lst P n i = true) : lsts P n (i + 1) = lsts P n i ++ [ms i] := by
  unfold lsts
  rw [List.range_succ, List.filter_append]
  simp [h]
theorem lsts_no {P : Nat → Bool} {n i : Nat} (h : lst P n i = false) : lsts P n (i + 1) = lsts P n i := by
  unfold lsts
  rw [List.range_succ, List.filter_append]
  simp [h]
theorem lsts_mem {P : Nat → Bool} {n i : Nat} {y : List Int} (h : y ∈ lsts P n i) : ∃ b, b < i ∧ y = ms b := by
  simp only [lsts, List.mem_map, List.mem_filter, List.mem_range] at h
  obtain ⟨b, h1, rfl⟩ := h
  exact ⟨b, h1.1, rfl⟩
theorem lst_ms (P : Nat → Bool) {n b : Nat} (hb : b < 2 ^ n) (hn : n ≤ 7) : (P b && (ms b).all (fun x => !P (off b x.toNat))) = lst P n b := by
  unfold lst
  congr 1
  rw [ms_eq hb hn]
  simp only [msN, List.all_map, List.all_filter]
  congr 1
set_option maxRecDepth 100000 in
theorem list_all : ∀ b : Nat, b < 128 → spec_l6List.f 10 (b : Int) = some (ms b) := by decide +kernel
set_option maxRecDepth 100000 in
theorem members_all : ∀ b : Nat, b < 128 → impl_membersOf.f 10 (b : Int) = some (ms b) := by decide +kernel
set_option maxRecDepth 100000 in
theorem without_all : ∀ b : Nat, b < 128 → ∀ i : Nat, i < 7 → i < (ms b).length → spec_l6Without.f (ms b) (i : Int) = some (ms (off b ((ms b).getD i 0).toNat)) := by decide +kernel
set_option maxRecDepth 100000 in
theorem mask_all : ∀ b : Nat, b < 128 → maskN (ms b) = b := by decide +kernel
end Go.Proofs.Ytjngkfepppejeaa.Qs
end
section
namespace Go.Proofs.Ytjngkfepppejeaa.Least2
open Go.RowKit Go.Proofs.Ytjngkfepppejeaa.P Go.Proofs.YtjngkfepppejeaaW.PrintWords Go.Proofs.YtjngkfepppejeaaW.PrintLast Go.Proofs.YtjngkfepppejeaaW.PrintMore
open Go.Proofs.Ytjngkfepppejeaa.Pl Go.Proofs.Ytjngkfepppejeaa.EvN Go.Proofs.Ytjngkfepppejeaa.Lp Go.Proofs.Ytjngkfepppejeaa.Sets Go.Proofs.Ytjngkfepppejeaa.Mem Go.Proofs.Ytjngkfepppejeaa.Pick Go.Proofs.Ytjngkfepppejeaa.Qs
set_option linter.unusedSimpArgs false
set_option linter.unusedVariables false
theorem of_k {α : Type} {F : Nat → Option α} (hm : ∀ k, LeO (F k) (F (k + 1))) {n : Nat} {v : α} (h : F n = some v) : Cm F v := by
  refine ⟨n, fun k hk => ?_⟩
  obtain ⟨d, rfl⟩ := Nat.le.dest hk
  induction d with
  | zero => exact h
  | succ d ih => exact hm (n + d) v (ih (by omega))
theorem list_f {b : Nat} (hb : b < 128) : Cm (fun k => spec_l6List.f k (b : Int)) (ms b) := of_k (spec_l6List.mono _) (list_all b hb)
theorem members_f {b : Nat} (hb : b < 128) : Cm (fun k => impl_membersOf.f k (b : Int)) (ms b) := of_k (impl_membersOf.mono _) (members_all b hb)
theorem without_f {b : Nat} (hb : b < 128) {pre t : List Int} {x : Int} (e : pre ++ x :: t = ms b) : spec_l6Without.f (ms b) (pre.length : Int) = some (ms (off b x.toNat)) := by
  have h1 : pre.length < (ms b).length := by rw [← e]; simp
  have h2 := ms_len b
  have h3 : (ms b).getD pre.length 0 = x := by rw [← e]; simp
  rw [without_all b hb pre.length (by omega) h1, h3]
theorem u64_in {n : Nat} (h : n ≤ 7) : IntKind.u64.wrap (n : Int) = (n : Int) := by
  simp [IntKind.wrap, IntKind.bits, IntKind.signed]
  omega
theorem shl_n {n : Nat} (h : n ≤ 7) : shl .i64 1 (n : Int) = ((2 ^ n : Nat) : Int) := by
  have := shl_one (m := (n : Int)) (by omega) (by omega)
  rwa [Int.toNat_natCast] at this
theorem bit_n {b i : Nat} (hb : b < 128) (hi : i < 7) : Go.bits .and .i64 (shr .i64 (b : Int) (i : Int)) 1 = if b.testBit i = true then 1 else 0 := by
  have := bit_i64 b (m := (i : Int)) (by omega) (by omega) (by omega)
  rwa [Int.toNat_natCast] at this
theorem off_n {b i : Nat} (hb : b < 128) (hi : i < 7) : Go.bits .andNot .i64 (b : Int) (shl .i64 1 (i : Int)) = ((off b i : Nat) : Int) := by
  have hp : 2 ^ i ≤ 128 := Nat.pow_le_pow_right (n := 2) (by omega) (show i ≤ 7 by omega)
  rw [shl_n (by omega), andNot_i64 _ _ (by omega) (by omega)]
  rfl
theorem fold_and {α : Type} (f : α → Bool) : ∀ (l : List α) (q : Bool), l.foldl (fun s x => s && f x) q = (q && l.all f)
  | [], q => by simp
  | x :: t, q => by rw [List.foldl_cons, fold_and f t, List.all_cons, Bool.and_assoc]
def sumW (W l : List Int) : Int := l.foldl (fun s m => wrap64 (s + rd W m)) 0
def PV (W : List Int) (need : Int) (b : Nat) : Bool := decide (sumW W (ms b) ≥ need)
theorem PV_not (W : List Int) (need : Int) (b : Nat) : (!PV W need b) = decide (sumW W (ms b) < need) := by
  unfold PV
  rw [← decide_not]
  congr 1
  simp [Int.not_le]
theorem limpl_l1 (W : List Int) (need : Int) (P : Nat → Bool) (n : Nat) (hn : n ≤ 7) (hP : ∀ c : Nat, c < 2 ^ n → Cm (fun k => impl_LeastQuorums_1.f k (c : Int) W need) (P c)) (b : Nat) (hb : b < 2 ^ n) (s : List (List Int)) (hs : s.length ≤ 128) (u : List (List Int))
    (h : Cm (fun k => impl_leastSets_of_impl_LeastQuorums_1.l0 k (n : Int) (if lst P n b = true then s ++ [ms b] else s) ((2 ^ n : Nat) : Int) ((b + 1 : Nat) : Int) W need) u) :
    Cm (fun k => impl_leastSets_of_impl_LeastQuorums_1.l1 k (n : Int) s (b : Int) (P b) ((2 ^ n : Nat) : Int) (b : Int) (n : Int) 0 W need) u := by
  have hp := pow_le7 hn
  have key := iter_cm (L := fun k i q => impl_leastSets_of_impl_LeastQuorums_1.l1 k (n : Int) s (b : Int) q ((2 ^ n : Nat) : Int) (b : Int) (n : Int) i W need) n (fun i => P b && (List.range i).all (fun m => !b.testBit m || !P (off b m))) (v := u) ?_ ?_
  · simp only [List.range_zero, List.all_nil, Bool.and_true] at key
    exact key
  · intro i hi u hu
    have ho : off b i < 2 ^ n := Nat.lt_of_le_of_lt (off_le b i) hb
    rw [List.range_succ, List.all_append, ← Bool.and_assoc] at hu
    simp only [List.all_cons, List.all_nil, Bool.and_true] at hu
    generalize (P b && (List.range i).all (fun m => !b.testBit m || !P (off b m))) = q at hu ⊢
    refine cm_step (fun k => by rw [impl_leastSets_of_impl_LeastQuorums_1.l1]) ?_
    simp only [wrap_n hi (show n ≤ 4611686018427387904 by omega), bit_n (show b < 128 by omega) (show i < 7 by omega), off_n (show b < 128 by omega) (show i < 7 by omega)]
    refine cm_yes (by omega) ?_
    cases q with
    | false => exact cm_no (by simp) (by simpa using hu)
    | true =>
      refine cm_yes rfl (cm_yes (by omega) ?_)
      by_cases c : b.testBit i = true
      · exact cm_no (by simp [c]) (cm_bind (hP _ ho) (by simpa [c] using hu))
      · exact cm_yes (by simp [c]) (by simpa [c] using hu)
  · refine cm_step (fun k => by rw [impl_leastSets_of_impl_LeastQuorums_1.l1]) ?_
    simp only [wrap_n (n := 2 ^ n) hb (show 2 ^ n ≤ 4611686018427387904 by omega)]
    refine cm_no (by omega) ?_
    by_cases c : lst P n b = true
    · rw [if_pos c] at h
      exact cm_yes c (cm_bind (members_f (by omega)) (cm_yes (by omega) h))
    · rw [if_neg c] at h
      exact cm_no c h
theorem limpl_f (W : List Int) (need : Int) (P : Nat → Bool) (n : Nat) (hn : n ≤ 7) (hP : ∀ c : Nat, c < 2 ^ n → Cm (fun k => impl_LeastQuorums_1.f k (c : Int) W need) (P c)) :
    Cm (fun k => impl_leastSets_of_impl_LeastQuorums_1.f k (n : Int) W need) (lsts P n (2 ^ n)) := by
  have hp := pow_le7 hn
  unfold impl_leastSets_of_impl_LeastQuorums_1.f
  simp only [shl_n hn]
  refine cm_yes (by omega) ?_
  refine iter_cm (L := fun k i s => impl_leastSets_of_impl_LeastQuorums_1.l0 k (n : Int) s ((2 ^ n : Nat) : Int) i W need) (2 ^ n) (fun i => lsts P n i) ?_ ?_
  · intro b hb u hu
    refine cm_step (fun k => by rw [impl_leastSets_of_impl_LeastQuorums_1.l0]) ?_
    refine cm_yes (by omega) (cm_bind (hP b hb) ?_)
    refine limpl_l1 W need P n hn hP b hb (lsts P n b) (by have := lsts_len P n b; omega) u ?_
    by_cases c : lst P n b = true
    · rw [if_pos c, ← lsts_yes c]; exact hu
    · rw [if_neg c, ← lsts_no (by simpa using c)]; exact hu
  · refine cm_step (fun k => by rw [impl_leastSets_of_impl_LeastQuorums_1.l0]) ?_
    exact cm_no (by omega) (cm_now fun _ => rfl)
theorem lspec_l1 (n : Nat) (W : List Int) (need : Int) (hW : W.length = n) (hn : n ≤ 7) (hq : ∀ c : Nat, c < 2 ^ n → Cm (fun k => spec_l6Sum.f k W need (ms c)) (sumW W (ms c))) (b : Nat) (hb : b < 2 ^ n) (s : List (List Int)) (hs : s.length ≤ 128) (u : List (List Int) × Bool)
    (h : Cm (fun k => spec_LeastQuorums.l0 k (if lst (PV W need) n b = true then s ++ [ms b] else s) ((b + 1 : Nat) : Int) W need) u) :
    Cm (fun k => spec_LeastQuorums.l1 k s (b : Int) (ms b) (PV W need b) ((ms b).length : Int) 0 W need) u := by
  have hp := pow_le7 hn
  refine fold_cm (L := fun k i q => spec_LeastQuorums.l1 k s (b : Int) (ms b) q ((ms b).length : Int) i W need) (ms b) (fun q x => q && !PV W need (off b x.toNat)) (fun _ _ => True) (PV W need b) trivial ?_ ?_
  · intro pre x t q e hlt _
    refine ⟨trivial, fun u hu => ?_⟩
    have ho : off b x.toNat < 2 ^ n := Nat.lt_of_le_of_lt (off_le b _) hb
    have h7 := ms_len b
    refine cm_step (fun k => by rw [spec_LeastQuorums.l1]) ?_
    simp only [without_f (show b < 128 by omega) e, wrap_len hlt (show (ms b).length ≤ 4611686018427387904 by omega)]
    refine cm_yes (by omega) ?_
    cases q with
    | false => exact cm_no (by simp) (by simpa using hu)
    | true => exact cm_yes rfl (cm_bind (cm_now fun _ => rfl) (cm_bind (hq _ ho) (by simpa [PV_not] using hu)))
  · intro _
    rw [fold_and, lst_ms (PV W need) hb hn]
    refine cm_step (fun k => by rw [spec_LeastQuorums.l1]) ?_
    simp only [wrap_n (n := 2 ^ n) hb (show 2 ^ n ≤ 4611686018427387904 by omega)]
    refine cm_no (by omega) ?_
    by_cases c : lst (PV W need) n b = true
    · rw [if_pos c] at h
      exact cm_yes c (cm_yes (by omega) h)
    · rw [if_neg c] at h
      exact cm_no c h
theorem lspec_f (n : Nat) (W : List Int) (need : Int) (hW : W.length = n) (hn : n ≤ 7) (hq : ∀ c : Nat, c < 2 ^ n → Cm (fun k => spec_l6Sum.f k W need (ms c)) (sumW W (ms c))) (s : Nat) (hs : s ≤ 2 ^ n) :
    Cm (fun k => spec_LeastQuorums.l0 k (lsts (PV W need) n s) (s : Int) W need) (lsts (PV W need) n (2 ^ n), true) := by
  have hp := pow_le7 hn
  refine iterf_cm (L := fun k i s => spec_LeastQuorums.l0 k s i W need) s (2 ^ n) hs (fun i => lsts (PV W need) n i) ?_ ?_
  · intro b _ hb u hu
    refine cm_step (fun k => by rw [spec_LeastQuorums.l0]) ?_
    simp only [hW, u64_in hn, shl_n hn]
    refine cm_yes (by omega) (cm_yes (by omega) (cm_bind (list_f (by omega)) (cm_bind (hq b hb) ?_)))
    refine lspec_l1 n W need hW hn hq b hb (lsts (PV W need) n b) (by have := lsts_len (PV W need) n b; omega) u ?_
    by_cases c : lst (PV W need) n b = true
    · rw [if_pos c, ← lsts_yes c]; exact hu
    · rw [if_neg c, ← lsts_no (by simpa using c)]; exact hu
  · refine cm_step (fun k => by rw [spec_LeastQuorums.l0]) ?_
    simp only [hW, u64_in hn, shl_n hn]
    refine cm_yes (by omega) (cm_no (by omega) ?_)
    exact cm_now fun _ => rfl
end Go.Proofs.Ytjngkfepppejeaa.Least2
end
section
namespace Go.Proofs.Ytjngkfepppejeaa.Least3
open Go.RowKit Go.Proofs.Ytjngkfepppejeaa.P Go.Proofs.YtjngkfepppejeaaW.PrintWords Go.Proofs.YtjngkfepppejeaaW.PrintLast Go.Proofs.YtjngkfepppejeaaW.PrintMore
open Go.Proofs.Ytjngkfepppejeaa.Pl Go.Proofs.Ytjngkfepppejeaa.EvN Go.Proofs.Ytjngkfepppejeaa.Lp Go.Proofs.Ytjngkfepppejeaa.Sets Go.Proofs.Ytjngkfepppejeaa.Mem Go.Proofs.Ytjngkfepppejeaa.Pick Go.Proofs.Ytjngkfepppejeaa.Qs Go.Proofs.Ytjngkfepppejeaa.Least2
set_option linter.unusedSimpArgs false
set_option linter.unusedVariables false
def PB (l : List (List Int)) (b : Nat) : Bool := l.all (fun g => meet g (ms b))
theorem blocks_f (l : List (List Int)) (hl : l.length ≤ 4611686018427387904) (hs : ∀ g ∈ l, g.length ≤ 4611686018427387904) (c : Nat) : Cm (fun k => spec_l6Blocks.f k l (ms c)) (PB l c) := by
  unfold spec_l6Blocks.f
  have h7 := ms_len c
  have := every_cm (L := fun k i => spec_l6Blocks.l0 k (ms c) l (l.length : Int) i) l (fun g => meet g (ms c)) (fin := true) (no := false) ?_ ?_ ?_
  · refine cm_val this ?_
    unfold PB
    cases l.all fun g => meet g (ms c) <;> simp
  · intro pre g t e hlt hp v hv
    have hg := hs g (by rw [← e]; simp)
    refine cm_step (fun k => by rw [spec_l6Blocks.l0]) ?_
    simp only [l1_at e, wrap_len hlt hl]
    exact cm_yes (by omega) (cm_yes (by omega) (cm_yes (by omega) (cm_bind (meet_f _ _ hg (by omega)) (cm_yes hp hv))))
  · intro pre g t e hlt hp
    have hg := hs g (by rw [← e]; simp)
    refine cm_step (fun k => by rw [spec_l6Blocks.l0]) ?_
    simp only [l1_at e, wrap_len hlt hl]
    exact cm_yes (by omega) (cm_yes (by omega) (cm_yes (by omega) (cm_bind (meet_f _ _ hg (by omega)) (cm_no (by simpa using hp) (cm_now fun _ => rfl)))))
  · intro _
    refine cm_step (fun k => by rw [spec_l6Blocks.l0]) ?_
    exact cm_no (by omega) (cm_now fun _ => rfl)
theorem anyB_index (a : Int) (l : List (List Int)) (hl : l.length ≤ 4611686018427387904) (p : (List Int) → Bool) (hc : ∀ h ∈ l, Cm (fun k => impl_BlocksOf_1_1.f k h a) (p h)) :
    Cm (fun k => slices_IndexFunc_int_int_of_impl_BlocksOf_1_1.f k l a) (foundAt p (fun i _ => (i : Int)) (-1) 0 l) := by
  unfold slices_IndexFunc_int_int_of_impl_BlocksOf_1_1.f
  refine find_cm (L := fun k i => slices_IndexFunc_int_int_of_impl_BlocksOf_1_1.l0 k l (l.length : Int) i a) l p (fun i _ => (i : Int)) (none_ := (-1 : Int)) ?_ ?_ ?_
  · intro pre h t e hlt hp v hv
    refine cm_step (fun k => by rw [slices_IndexFunc_int_int_of_impl_BlocksOf_1_1.l0]) ?_
    simp only [l1_at e, wrap_len hlt hl]
    refine cm_yes (by omega) (cm_yes (by omega) (cm_yes (by omega) (cm_bind (hc h (by rw [← e]; simp)) ?_)))
    exact cm_no (by simpa using hp) hv
  · intro pre h t e hlt hp
    refine cm_step (fun k => by rw [slices_IndexFunc_int_int_of_impl_BlocksOf_1_1.l0]) ?_
    simp only [l1_at e, wrap_len hlt hl]
    refine cm_yes (by omega) (cm_yes (by omega) (cm_yes (by omega) (cm_bind (hc h (by rw [← e]; simp)) ?_)))
    exact cm_yes hp (cm_now fun _ => rfl)
  · refine cm_step (fun k => by rw [slices_IndexFunc_int_int_of_impl_BlocksOf_1_1.l0]) ?_
    exact cm_no (by omega) (cm_now fun _ => rfl)
theorem anyB (a : Int) (l : List (List Int)) (hl : l.length ≤ 4611686018427387904) (p : (List Int) → Bool) (hc : ∀ h ∈ l, Cm (fun k => impl_BlocksOf_1_1.f k h a) (p h)) : Cm (fun k => slices_ContainsFunc_int_int_of_impl_BlocksOf_1_1.f k l a) (l.any p) := by
  unfold slices_ContainsFunc_int_int_of_impl_BlocksOf_1_1.f
  refine cm_bind (anyB_index a l hl p hc) (cm_now fun _ => ?_)
  rw [found_any]
theorem isb_f (l : List (List Int)) (hl : l.length ≤ 4611686018427387904) (hf : ∀ g ∈ l, Fits g) {n : Nat} (hn : n ≤ 7) : ∀ c : Nat, c < 2 ^ n → Cm (fun k => impl_BlocksOf_1.f k (c : Int) l) (PB l c) := by
  intro c hc
  have hp := pow_le7 hn
  unfold impl_BlocksOf_1.f
  refine cm_bind (anyB (c : Int) l hl (fun g => !meet g (ms c)) (fun g hg => ?_)) (cm_now fun _ => ?_)
  · have h2 := hf g hg
    unfold impl_BlocksOf_1_1.f
    refine cm_bind (maskOf_f g h2) (cm_now fun _ => ?_)
    have hm := meet_mask g (ms c) h2.pos (fun x hx => (ms_in hc hn x hx).1)
    rw [mask_all c (by omega)] at hm
    rw [and_i64 _ _ h2.lt (by omega)]
    by_cases h : maskN g &&& c = 0
    · have h3 : meet g (ms c) = false := by
        cases hq : meet g (ms c) with
        | false => rfl
        | true => exact absurd h (hm.1 hq)
      rw [h3, h]
      rfl
    · rw [hm.2 h]
      simp [h]
  · rw [not_any _ (fun g => meet g (ms c)) l (fun _ _ => rfl)]
    rfl
theorem limpl_l1 (l : List (List Int)) (P : Nat → Bool) (n : Nat) (hn : n ≤ 7) (hP : ∀ c : Nat, c < 2 ^ n → Cm (fun k => impl_BlocksOf_1.f k (c : Int) l) (P c)) (b : Nat) (hb : b < 2 ^ n) (s : List (List Int)) (hs : s.length ≤ 128) (u : List (List Int))
    (h : Cm (fun k => impl_leastSets_of_impl_BlocksOf_1.l0 k (n : Int) (if lst P n b = true then s ++ [ms b] else s) ((2 ^ n : Nat) : Int) ((b + 1 : Nat) : Int) l) u) :
    Cm (fun k => impl_leastSets_of_impl_BlocksOf_1.l1 k (n : Int) s (b : Int) (P b) ((2 ^ n : Nat) : Int) (b : Int) (n : Int) 0 l) u := by
  have hp := pow_le7 hn
  have key := iter_cm (L := fun k i q => impl_leastSets_of_impl_BlocksOf_1.l1 k (n : Int) s (b : Int) q ((2 ^ n : Nat) : Int) (b : Int) (n : Int) i l) n (fun i => P b && (List.range i).all (fun m => !b.testBit m || !P (off b m))) (v := u) ?_ ?_
  · simp only [List.range_zero, List.all_nil, Bool.and_true] at key
    exact key
  · intro i hi u hu
    have ho : off b i < 2 ^ n := Nat.lt_of_le_of_lt (off_le b i) hb
    rw [List.range_succ, List.all_append, ← Bool.and_assoc] at hu
    simp only [List.all_cons, List.all_nil, Bool.and_true] at hu
    generalize (P b && (List.range i).all (fun m => !b.testBit m || !P (off b m))) = q at hu ⊢
    refine cm_step (fun k => by rw [impl_leastSets_of_impl_BlocksOf_1.l1]) ?_
    simp only [wrap_n hi (show n ≤ 4611686018427387904 by omega), bit_n (show b < 128 by omega) (show i < 7 by omega), off_n (show b < 128 by omega) (show i < 7 by omega)]
    refine cm_yes (by omega) ?_
    cases q with
    | false => exact cm_no (by simp) (by simpa using hu)
    | true =>
      refine cm_yes rfl (cm_yes (by omega) ?_)
      by_cases c : b.testBit i = true
      · exact cm_no (by simp [c]) (cm_bind (hP _ ho) (by simpa [c] using hu))
      · exact cm_yes (by simp [c]) (by simpa [c] using hu)
  · refine cm_step (fun k => by rw [impl_leastSets_of_impl_BlocksOf_1.l1]) ?_
    simp only [wrap_n (n := 2 ^ n) hb (show 2 ^ n ≤ 4611686018427387904 by omega)]
    refine cm_no (by omega) ?_
    by_cases c : lst P n b = true
    · rw [if_pos c] at h
      exact cm_yes c (cm_bind (members_f (by omega)) (cm_yes (by omega) h))
    · rw [if_neg c] at h
      exact cm_no c h
theorem limpl_f (l : List (List Int)) (P : Nat → Bool) (n : Nat) (hn : n ≤ 7) (hP : ∀ c : Nat, c < 2 ^ n → Cm (fun k => impl_BlocksOf_1.f k (c : Int) l) (P c)) :
    Cm (fun k => impl_leastSets_of_impl_BlocksOf_1.f k (n : Int) l) (lsts P n (2 ^ n)) := by
  have hp := pow_le7 hn
  unfold impl_leastSets_of_impl_BlocksOf_1.f
  simp only [shl_n hn]
  refine cm_yes (by omega) ?_
  refine iter_cm (L := fun k i s => impl_leastSets_of_impl_BlocksOf_1.l0 k (n : Int) s ((2 ^ n : Nat) : Int) i l) (2 ^ n) (fun i => lsts P n i) ?_ ?_
  · intro b hb u hu
    refine cm_step (fun k => by rw [impl_leastSets_of_impl_BlocksOf_1.l0]) ?_
    refine cm_yes (by omega) (cm_bind (hP b hb) ?_)
    refine limpl_l1 l P n hn hP b hb (lsts P n b) (by have := lsts_len P n b; omega) u ?_
    by_cases c : lst P n b = true
    · rw [if_pos c, ← lsts_yes c]; exact hu
    · rw [if_neg c, ← lsts_no (by simpa using c)]; exact hu
  · refine cm_step (fun k => by rw [impl_leastSets_of_impl_BlocksOf_1.l0]) ?_
    exact cm_no (by omega) (cm_now fun _ => rfl)
theorem lspec_l1 (n : Nat) (l : List (List Int)) (P : Nat → Bool) (hn : n ≤ 7) (hq : ∀ c : Nat, c < 2 ^ n → Cm (fun k => spec_l6Blocks.f k l (ms c)) (P c)) (b : Nat) (hb : b < 2 ^ n) (s : List (List Int)) (hs : s.length ≤ 128) (u : List (List Int) × Bool)
    (h : Cm (fun k => spec_BlocksOf.l0 k (n : Int) l (if lst P n b = true then s ++ [ms b] else s) ((b + 1 : Nat) : Int)) u) :
    Cm (fun k => spec_BlocksOf.l1 k (n : Int) l s (b : Int) (ms b) (P b) ((ms b).length : Int) 0) u := by
  have hp := pow_le7 hn
  refine fold_cm (L := fun k i q => spec_BlocksOf.l1 k (n : Int) l s (b : Int) (ms b) q ((ms b).length : Int) i) (ms b) (fun q x => q && !P (off b x.toNat)) (fun _ _ => True) (P b) trivial ?_ ?_
  · intro pre x t q e hlt _
    refine ⟨trivial, fun u hu => ?_⟩
    have ho : off b x.toNat < 2 ^ n := Nat.lt_of_le_of_lt (off_le b _) hb
    have h7 := ms_len b
    refine cm_step (fun k => by rw [spec_BlocksOf.l1]) ?_
    simp only [without_f (show b < 128 by omega) e, wrap_len hlt (show (ms b).length ≤ 4611686018427387904 by omega)]
    refine cm_yes (by omega) ?_
    cases q with
    | false => exact cm_no (by simp) (by simpa using hu)
    | true => exact cm_yes rfl (cm_bind (cm_now fun _ => rfl) (cm_bind (hq _ ho) (by simpa [Bool.true_and] using hu)))
  · intro _
    rw [fold_and, lst_ms P hb hn]
    refine cm_step (fun k => by rw [spec_BlocksOf.l1]) ?_
    simp only [wrap_n (n := 2 ^ n) hb (show 2 ^ n ≤ 4611686018427387904 by omega)]
    refine cm_no (by omega) ?_
    by_cases c : lst P n b = true
    · rw [if_pos c] at h
      exact cm_yes c (cm_yes (by omega) h)
    · rw [if_neg c] at h
      exact cm_no c h
theorem lspec_f (n : Nat) (l : List (List Int)) (P : Nat → Bool) (hn : n ≤ 7) (hq : ∀ c : Nat, c < 2 ^ n → Cm (fun k => spec_l6Blocks.f k l (ms c)) (P c)) (s : Nat) (hs : s ≤ 2 ^ n) :
    Cm (fun k => spec_BlocksOf.l0 k (n : Int) l (lsts P n s) (s : Int)) (if (lsts P n (2 ^ n)).length > 40 then ([], false) else (lsts P n (2 ^ n), true)) := by
  have hp := pow_le7 hn
  refine iterf_cm (L := fun k i s => spec_BlocksOf.l0 k (n : Int) l s i) s (2 ^ n) hs (fun i => lsts P n i) ?_ ?_
  · intro b _ hb u hu
    refine cm_step (fun k => by rw [spec_BlocksOf.l0]) ?_
    simp only [u64_in hn, shl_n hn]
    refine cm_yes (by omega) (cm_yes (by omega) (cm_bind (list_f (by omega)) (cm_bind (hq b hb) ?_)))
    refine lspec_l1 n l P hn hq b hb (lsts P n b) (by have := lsts_len P n b; omega) u ?_
    by_cases c : lst P n b = true
    · rw [if_pos c, ← lsts_yes c]; exact hu
    · rw [if_neg c, ← lsts_no (by simpa using c)]; exact hu
  · refine cm_step (fun k => by rw [spec_BlocksOf.l0]) ?_
    simp only [u64_in hn, shl_n hn]
    refine cm_yes (by omega) (cm_no (by omega) ?_)
    by_cases c : (lsts P n (2 ^ n)).length > 40
    · exact cm_yes (by omega) (cm_now fun _ => by rw [if_pos c])
    · exact cm_no (by omega) (cm_now fun _ => by rw [if_neg c])
theorem fits_of {many : Int} {l : List (List Int)} (h7 : many ≤ 7) (hs : ∀ g ∈ l, g.length ≤ 4611686018427387904) (h : groups many l = true) : ∀ g ∈ l, Fits g := by
  intro g hg
  have h2 := ((groups_iff.1 h).1 g hg).2
  exact ⟨hs g hg, fun x hx => by have := members_in h2 x hx; omega⟩
theorem blocks_both (a : Int) (l : List (List Int)) (hl : l.length ≤ 4611686018427387904) (hs : ∀ g ∈ l, g.length ≤ 4611686018427387904) :
    ∃ r1 r2, Cm (fun k => spec_BlocksOf.f k a l) (r1, r2) ∧ Cm (fun k => impl_BlocksOf.f k a l) (r1, r2) ∧ (r1.length ≤ 128 ∧ ∀ y ∈ r1, y.length ≤ 7) := by
  unfold spec_BlocksOf.f impl_BlocksOf.f
  simp only [l1In_f, in_f]
  have hbad1 : Cm (fun k => spec_BlocksOf.j0 k a l true) (([] : List (List Int)), false) := by
    refine cm_step (fun k => by rw [spec_BlocksOf.j0]) ?_
    exact cm_yes rfl (cm_now fun _ => rfl)
  have hbad2 : Cm (fun k => impl_BlocksOf.j0 k a true l) (([] : List (List Int)), false) := by
    refine cm_step (fun k => by rw [impl_BlocksOf.j0]) ?_
    exact cm_yes rfl (cm_now fun _ => rfl)
  by_cases c : 1 ≤ a ∧ a ≤ 7
  · by_cases g : groups a l = true
    · obtain ⟨n, rfl⟩ := Int.eq_ofNat_of_zero_le (show 0 ≤ a by omega)
      have hn : n ≤ 7 := by omega
      have hp := pow_le7 hn
      have hf := fits_of (by omega) hs g
      have h1 := lspec_f n l (PB l) hn (fun c _ => blocks_f l hl hs c) 0 (Nat.zero_le _)
      have h2 := limpl_f l (PB l) n hn (isb_f l hl hf hn)
      have hlen := lsts_len (PB l) n (2 ^ n)
      by_cases c40 : (lsts (PB l) n (2 ^ n)).length > 40
      · rw [if_pos c40] at h1
        refine ⟨[], false, cm_bind (cm_now fun _ => rfl) (cm_yes (by simpa using c) (cm_bind (groups_f l n hl hs) ?_)), cm_bind (cm_now fun _ => rfl) (cm_yes (by simpa using c) (cm_bind (areGroups_f l n hl hs (by omega)) ?_)), by simp, by simp⟩
        · refine cm_step (fun k => by rw [spec_BlocksOf.j0]) ?_
          exact cm_no (by simp [g]) h1
        · refine cm_step (fun k => by rw [impl_BlocksOf.j0]) ?_
          exact cm_no (by simp [g]) (cm_bind h2 (cm_yes (by omega) (cm_now fun _ => rfl)))
      · rw [if_neg c40] at h1
        refine ⟨lsts (PB l) n (2 ^ n), true, cm_bind (cm_now fun _ => rfl) (cm_yes (by simpa using c) (cm_bind (groups_f l n hl hs) ?_)), cm_bind (cm_now fun _ => rfl) (cm_yes (by simpa using c) (cm_bind (areGroups_f l n hl hs (by omega)) ?_)), by omega, fun y hy => ?_⟩
        · refine cm_step (fun k => by rw [spec_BlocksOf.j0]) ?_
          exact cm_no (by simp [g]) h1
        · refine cm_step (fun k => by rw [impl_BlocksOf.j0]) ?_
          exact cm_no (by simp [g]) (cm_bind h2 (cm_no (by omega) (cm_now fun _ => rfl)))
        · obtain ⟨b, _, rfl⟩ := lsts_mem hy
          exact ms_len b
    · have g2 : groups a l = false := by simpa using g
      refine ⟨[], false, cm_bind (cm_now fun _ => rfl) (cm_yes (by simpa using c) (cm_bind (groups_f l a hl hs) ?_)), cm_bind (cm_now fun _ => rfl) (cm_yes (by simpa using c) (cm_bind (areGroups_f l a hl hs (by omega)) ?_)), by simp, by simp⟩
      · rw [g2]; exact hbad1
      · rw [g2]; exact hbad2
  · exact ⟨[], false, cm_bind (cm_now fun _ => rfl) (cm_no (by simpa using c) hbad1), cm_bind (cm_now fun _ => rfl) (cm_no (by simpa using c) hbad2), by simp, by simp⟩
end Go.Proofs.Ytjngkfepppejeaa.Least3
end
section
namespace Go.Proofs.Ytjngkfepppejeaa.Pure
open Go.RowKit Go.Proofs.Ytjngkfepppejeaa.P Go.Proofs.YtjngkfepppejeaaW.PrintWords Go.Proofs.YtjngkfepppejeaaW.PrintLast Go.Proofs.YtjngkfepppejeaaW.PrintMore
open Go.Proofs.Ytjngkfepppejeaa.Pl Go.Proofs.Ytjngkfepppejeaa.EvN Go.Proofs.Ytjngkfepppejeaa.Lp Go.Proofs.Ytjngkfepppejeaa.Hs Go.Proofs.Ytjngkfepppejeaa.Sz Go.Proofs.Ytjngkfepppejeaa.Least3
set_option linter.unusedVariables false
theorem FnExactBlocksOf : Mk.FnExactBlocksOf_Pure := by
  intro a0 l1 b0 b1
  obtain ⟨z1, cz1, dz1⟩ := szIntSS_wt l1 (by have := b1.2.1; omega) (fun y hy => by have := (b1.2.2 y hy).2.1; omega) 1048576 (by omega) (by omega)
  by_cases nz1 : z1 < 0
  · obtain ⟨Kz1, jz1⟩ := cz1; exact ⟨Kz1, z1, jz1 (Kz1) (by omega), .inl nz1⟩
  obtain ⟨r10, r11, hspec, himpl, n1, n2⟩ := blocks_both a0 l1 (by have := b1.2.1; omega) (fun g hg => by have := (b1.2.2 g hg).2.1; omega)
  obtain ⟨K0, j0⟩ := toIntSS_f l1 (by have := b1.2.1; omega) (fun y hy => by have := (b1.2.2 y hy).2.1; omega)
  obtain ⟨K1, j1⟩ := hspec
  obtain ⟨K2, j2⟩ := himpl
  obtain ⟨K3, j3⟩ := eqIntSS_same r10 (by omega) (fun y hy => by have := n2 y hy; omega)
  obtain ⟨K4, j4⟩ := eqIntSS_same l1 (by have := b1.2.1; omega) (fun y hy => by have := (b1.2.2 y hy).2.1; omega)
  obtain ⟨Kz1, jz1⟩ := cz1
  exact ⟨K0 + K1 + K2 + K3 + K4 + Kz1, z1, jz1 (K0 + K1 + K2 + K3 + K4 + Kz1) (by omega), .inr ⟨nz1, l1, r10, r11, j0 (K0 + K1 + K2 + K3 + K4 + Kz1) (by omega), j1 (K0 + K1 + K2 + K3 + K4 + Kz1) (by omega), j2 (K0 + K1 + K2 + K3 + K4 + Kz1) (by omega), j3 (K0 + K1 + K2 + K3 + K4 + Kz1) (by omega), j4 (K0 + K1 + K2 + K3 + K4 + Kz1) (by omega), (by rw [tot_tot]; unfold wIntSS at dz1; omega), (by have := tot_le (fun y => Mk.tot (fun _ => 1) y) 7 r10 (fun y hy => by show Mk.tot _ y ≤ 7; rw [Mk.tot_one]; exact n2 y hy); omega), (fun _ _ _ _ => trivial)⟩⟩
end Go.Proofs.Ytjngkfepppejeaa.Pure
end
