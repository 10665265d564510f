-- Written by programs of this session (wip/prune.py, wip/xp.py), out of the translation and the printed words; what the law does not reach is left out. Not trusted: Lean checks it.
import Derived.Laws.World
import Derived.Test.YtomdjipejoafgaaZXNewElectionPx0
import Derived.Test.YtomdjipejoafgaaZXNewElectionW0
import Derived.Test.YtomdjipejoafgaaZXNewElectionPx25
import Derived.Test.YtomdjipejoafgaaZXNewElectionPx26
import Derived.Test.YtomdjipejoafgaaZXNewElectionPx27
import Derived.Test.YtomdjipejoafgaaZXNewElectionPx28
import Derived.Test.YtomdjipejoafgaaZXNewElectionO0
import Derived.Test.YtomdjipejoafgaaZXNewElectionPx3
import Derived.Test.YtomdjipejoafgaaZXNewElectionPx5
import Derived.Test.YtomdjipejoafgaaZXNewElectionPx2
import Derived.Test.YtomdjipejoafgaaZXNewElectionPx22
import Derived.Test.YtomdjipejoafgaaZXNewElectionPx23
import Derived.Test.YtomdjipejoafgaaZXNewElectionPx24
import Derived.Laws.BitsAllLaws
import Derived.Test.YtomdjipejoafgaaZXNewElectionPx1
import Derived.Test.YtomdjipejoafgaaZXNewElectionPx12
section
namespace Go.Proofs.Ytomdjipejoafgaa.Mk
open Go.RowKit Go.Proofs.YtomdjipejoafgaaW.PrintWords Go.Proofs.YtomdjipejoafgaaW.PrintLast
set_option linter.unusedVariables false
set_option linter.unusedSimpArgs false
abbrev Pl := Nat × Nat × Bool
def adr (p : Pl) : Addr := ⟨p.1, p.2.1, none⟩
def three (k : Int) : Bool := k % 3 == 0
def mkv (t : Bool) (k : Int) : Value := if t = true then .bool (three k) else .int .i64 k
def plain : Bool → Value → Prop
  | true, u => ∃ z, u = .bool z
  | false, u => ∃ z : Int, u = .int .i64 z
theorem plain_mkv (t : Bool) (k : Int) : plain t (mkv t k) := by cases t <;> exact ⟨_, rfl⟩
theorem plain_one {s t : Bool} {u : Value} (h : plain s u) (h2 : plain t u) : s = t := by
  cases s <;> cases t <;> obtain ⟨a, rfl⟩ := h <;> obtain ⟨b, hb⟩ := h2 <;> first | rfl | cases hb
def puts : World → List Pl → Int → World
  | w, [], _ => w
  | w, p :: l, k => puts (w.setCell (adr p) (mkv p.2.2 k)) l (k + 1)
theorem set_size (w : World) (a : Addr) (u : Value) : (w.setCell a u).heap.size = w.heap.size := by simp [World.setCell]
theorem puts_size : ∀ (l : List Pl) (w : World) (k : Int), (puts w l k).heap.size = w.heap.size
  | [], _, _ => rfl
  | p :: l, w, k => by rw [puts, puts_size l, set_size]
theorem set_cong {w1 w2 : World} {i : Nat} (h : w1.heap[i]? = w2.heap[i]?) (a : Addr) (u : Value) : (w1.setCell a u).heap[i]? = (w2.setCell a u).heap[i]? := by
  simp only [World.setCell, Array.getElem?_modify, h]
theorem puts_cong {i : Nat} : ∀ (l : List Pl) {w1 w2 : World} (k : Int), w1.heap[i]? = w2.heap[i]? → (puts w1 l k).heap[i]? = (puts w2 l k).heap[i]?
  | [], _, _, _, h => h
  | p :: l, _, _, k, h => puts_cong l (k + 1) (set_cong h _ _)
theorem puts_app : ∀ (l m : List Pl) (w : World) (k : Int), puts w (l ++ m) k = puts (puts w l k) m (k + (l.length : Int))
  | [], m, w, k => by simp [puts]
  | p :: l, m, w, k => by
    rw [List.cons_append, puts, puts_app l m, puts]
    congr 1
    simp only [List.length_cons]
    omega
theorem puts_far {i : Nat} : ∀ (l : List Pl) (w : World) (k : Int), (∀ p ∈ l, p.1 ≠ i) → (puts w l k).heap[i]? = w.heap[i]?
  | [], _, _, _ => rfl
  | p :: l, w, k, h => by
    rw [puts, puts_far l _ _ (fun q hq => h q (List.mem_cons_of_mem _ hq))]
    exact Below.heap_setCell w _ _ _ (fun e => h p List.mem_cons_self e.symm)
structure Wr (w w' : World) (ps : List Pl) (k : Int) : Prop where
  os : w'.os = w.os
  tape : w'.tape = w.tape
  output : w'.output = w.output
  size : w.heap.size ≤ w'.heap.size
  block : ∀ i, i < w.heap.size → w'.heap[i]? = (puts w ps k).heap[i]?
theorem Wr.refl (w : World) (k : Int) : Wr w w [] k := ⟨rfl, rfl, rfl, Nat.le_refl _, fun _ _ => rfl⟩
theorem Wr.below {w w1 w2 : World} {ps : List Pl} {k : Int} (h : Wr w w1 ps k) (hb : Below w1.heap.size w1 w2) : Wr w w2 ps k :=
  ⟨hb.os.trans h.os, hb.tape.trans h.tape, hb.output.trans h.output, Nat.le_trans h.size hb.size, fun i hi => (hb.block i (Nat.lt_of_lt_of_le hi h.size)).trans (h.block i hi)⟩
theorem Wr.trans {w w1 w2 : World} {ps bs : List Pl} {k j : Int} (h : Wr w w1 ps k) (g : Wr w1 w2 bs j) (hj : j = k + (ps.length : Int)) : Wr w w2 (ps ++ bs) k := by
  subst hj
  refine ⟨g.os.trans h.os, g.tape.trans h.tape, g.output.trans h.output, Nat.le_trans h.size g.size, fun i hi => ?_⟩
  rw [g.block i (Nat.lt_of_lt_of_le hi h.size), puts_app]
  exact puts_cong bs _ (h.block i hi)
theorem Wr.one (w : World) (p : Pl) (k : Int) : Wr w (w.setCell (adr p) (mkv p.2.2 k)) [p] k :=
  ⟨rfl, rfl, rfl, Nat.le_of_eq (set_size w _ _).symm, fun _ _ => rfl⟩
theorem Wr.put {w w1 : World} {ps : List Pl} {k j : Int} (h : Wr w w1 ps k) (p : Pl) (hj : j = k + (ps.length : Int)) : Wr w (w1.setCell (adr p) (mkv p.2.2 j)) (ps ++ [p]) k :=
  h.trans (Wr.one w1 p j) hj
theorem Wr.kept {w w' : World} {ps : List Pl} {k : Int} {S : Nat → Prop} (h : Wr w w' ps k) (hS : ∀ p ∈ ps, S p.1) : Kept w w' S :=
  ⟨h.size, fun i hi hn => (h.block i hi).trans (puts_far ps w k (fun p hp e => hn (e ▸ hS p hp)))⟩
theorem Wr.under {w0 w w' : World} {ps : List Pl} {k : Int} (h : Wr w w' ps k) (hb : Below w0.heap.size w0 w) (ha : ∀ p ∈ ps, w0.heap.size ≤ p.1) : Below w0.heap.size w0 w' :=
  ⟨h.os.trans hb.os, h.tape.trans hb.tape, h.output.trans hb.output, Nat.le_trans hb.size h.size, fun i hi =>
    ((h.block i (Nat.lt_of_lt_of_le hi hb.size)).trans (puts_far ps w k (fun p hp e => by have := ha p hp; omega))).trans (hb.block i hi)⟩
def okc (w : World) (p : Pl) : Prop := (∃ u, w.cell? (adr p) = some u ∧ plain p.2.2 u) ∧ w.frozen? (adr p) = false
def okh (w : World) (q : (Nat × Nat) × Value) : Prop := w.cell? ⟨q.1.1, q.1.2, none⟩ = some q.2 ∧ ∃ A n c, q.2 = .slice A n c
theorem adr_ne {p q : Pl} (h : ¬ (p.1 = q.1 ∧ p.2.1 = q.2.1)) : adr p ≠ adr q := by
  intro e
  injection e with e1 e2
  exact h ⟨e1, e2⟩
theorem okc_set {w : World} {p q : Pl} (hp : okc w p) (hq : okc w q) (k : Int) : okc (w.setCell (adr p) (mkv p.2.2 k)) q := by
  refine ⟨?_, by rw [World.frozen?_setCell]; exact hq.2⟩
  obtain ⟨⟨u, hu, hpu⟩, _⟩ := hp
  obtain ⟨⟨v, hv, hpv⟩, _⟩ := hq
  by_cases c : p.1 = q.1 ∧ p.2.1 = q.2.1
  · have e : adr p = adr q := by unfold adr; rw [c.1, c.2]
    rw [e] at hu ⊢
    rw [hu] at hv
    cases hv
    exact ⟨_, World.cell?_setCell_same _ _ _ hu, by rw [plain_one hpv hpu]; exact plain_mkv _ _⟩
  · exact ⟨v, by rw [World.cell?_setCell_other (h := adr_ne c)]; exact hv, hpv⟩
theorem okh_set {w : World} {p : Pl} {q : (Nat × Nat) × Value} (hp : okc w p) (hq : okh w q) (k : Int) : okh (w.setCell (adr p) (mkv p.2.2 k)) q := by
  obtain ⟨⟨u, hu, hpu⟩, _⟩ := hp
  obtain ⟨hv, A, n, c, he⟩ := hq
  refine ⟨?_, A, n, c, he⟩
  rw [World.cell?_setCell_other]
  · exact hv
  · intro e
    rw [e, hv, he] at hu
    cases hu
    cases hb : p.2.2 <;> rw [hb] at hpu <;> obtain ⟨z, hz⟩ := hpu <;> cases hz
structure Pt (w : World) (hs : List ((Nat × Nat) × Value)) (ps : List Pl) : Prop where
  h : ∀ q ∈ hs, okh w q
  a : ∀ p ∈ ps, okc w p
theorem Pt.nil (w : World) : Pt w [] [] := ⟨fun _ h => by simp at h, fun _ h => by simp at h⟩
theorem Pt.app {w : World} {h1 h2 : List ((Nat × Nat) × Value)} {a1 a2 : List Pl} (x : Pt w h1 a1) (y : Pt w h2 a2) : Pt w (h1 ++ h2) (a1 ++ a2) :=
  ⟨fun q hq => (List.mem_append.1 hq).elim (x.h q) (y.h q), fun p hp => (List.mem_append.1 hp).elim (x.a p) (y.a p)⟩
theorem Pt.left {w : World} {h1 h2 : List ((Nat × Nat) × Value)} {a1 a2 : List Pl} (x : Pt w (h1 ++ h2) (a1 ++ a2)) : Pt w h1 a1 :=
  ⟨fun q hq => x.h q (List.mem_append_left _ hq), fun p hp => x.a p (List.mem_append_left _ hp)⟩
theorem Pt.right {w : World} {h1 h2 : List ((Nat × Nat) × Value)} {a1 a2 : List Pl} (x : Pt w (h1 ++ h2) (a1 ++ a2)) : Pt w h2 a2 :=
  ⟨fun q hq => x.h q (List.mem_append_right _ hq), fun p hp => x.a p (List.mem_append_right _ hp)⟩
theorem Pt.puts {hs : List ((Nat × Nat) × Value)} {ps : List Pl} : ∀ (bs : List Pl) {w : World} (k : Int), Pt w hs ps → (∀ p ∈ bs, okc w p) → Pt (puts w bs k) hs ps
  | [], _, _, h, _ => h
  | p :: bs, w, k, h, hb => by
    have hp := hb p List.mem_cons_self
    exact Pt.puts bs (k + 1) ⟨fun q hq => okh_set hp (h.h q hq) k, fun q hq => okc_set hp (h.a q hq) k⟩ (fun q hq => okc_set hp (hb q (List.mem_cons_of_mem _ hq)) k)
theorem okc_block {w w' : World} {p : Pl} (h : okc w p) (hb : ∀ i, i < w.heap.size → w'.heap[i]? = w.heap[i]?) : okc w' p := by
  obtain ⟨⟨u, hu, hp⟩, hf⟩ := h
  have := hb _ (World.block_lt_of_cell? _ _ hu)
  exact ⟨⟨u, by rw [World.cell?_of_block this]; exact hu, hp⟩, by rw [World.frozen?_of_block this]; exact hf⟩
theorem okh_block {w w' : World} {q : (Nat × Nat) × Value} (h : okh w q) (hb : ∀ i, i < w.heap.size → w'.heap[i]? = w.heap[i]?) : okh w' q :=
  ⟨by rw [World.cell?_of_block (hb _ (World.block_lt_of_cell? _ _ h.1))]; exact h.1, h.2⟩
theorem Pt.block {w w' : World} {hs : List ((Nat × Nat) × Value)} {ps : List Pl} (h : Pt w hs ps) (hb : ∀ i, i < w.heap.size → w'.heap[i]? = w.heap[i]?) : Pt w' hs ps :=
  ⟨fun q hq => okh_block (h.h q hq) hb, fun p hp => okc_block (h.a p hp) hb⟩
theorem Pt.below {w w' : World} {hs : List ((Nat × Nat) × Value)} {ps : List Pl} (h : Pt w hs ps) (hb : Below w.heap.size w w') : Pt w' hs ps := h.block hb.block
theorem Pt.wr {w w' : World} {hs : List ((Nat × Nat) × Value)} {ps bs : List Pl} {k : Int} (h : Pt w hs ps) (hw : Wr w w' bs k) (hb : ∀ p ∈ bs, okc w p) : Pt w' hs ps :=
  (h.puts bs k hb).block (fun i hi => hw.block i (by rwa [puts_size] at hi))
theorem Pt.set {w : World} {hs : List ((Nat × Nat) × Value)} {ps : List Pl} (h : Pt w hs ps) {p : Pl} (hp : okc w p) (k : Int) : Pt (w.setCell (adr p) (mkv p.2.2 k)) hs ps :=
  ⟨fun q hq => okh_set hp (h.h q hq) k, fun q hq => okc_set hp (h.a q hq) k⟩
def Hs (w : World) (ps : List Pl) (k : Int) : Prop := ∀ (i : Nat) (p : Pl), ps[i]? = some p → w.cell? (adr p) = some (mkv p.2.2 (k + (i : Int)))
theorem Hs.block {w w' : World} {ps : List Pl} {k : Int} (h : Hs w ps k) (hb : ∀ i, i < w.heap.size → w'.heap[i]? = w.heap[i]?) : Hs w' ps k :=
  fun i p hp => by rw [World.cell?_of_block (hb _ (World.block_lt_of_cell? _ _ (h i p hp)))]; exact h i p hp
theorem Hs.below {w w' : World} {ps : List Pl} {k : Int} (h : Hs w ps k) (hb : Below w.heap.size w w') : Hs w' ps k := h.block hb.block
theorem Hs.head {w : World} {p : Pl} {ps : List Pl} {k : Int} (h : Hs w (p :: ps) k) : w.cell? (adr p) = some (mkv p.2.2 k) := by
  have := h 0 p rfl
  simpa using this
theorem Hs.left {w : World} {ps bs : List Pl} {k : Int} (h : Hs w (ps ++ bs) k) : Hs w ps k := fun i p hp => h i p (by
  rw [List.getElem?_append_left (List.getElem?_eq_some_iff.1 hp).1]; exact hp)
theorem Hs.right {w : World} {ps bs : List Pl} {k : Int} (h : Hs w (ps ++ bs) k) : Hs w bs (k + (ps.length : Int)) := fun i p hp => by
  have := h (ps.length + i) p (by rw [List.getElem?_append_right (by omega), Nat.add_sub_cancel_left]; exact hp)
  rw [this]
  congr 2
  omega
def apart (ps : List Pl) : Prop := (ps.map fun p => (p.1, p.2.1)).Nodup
theorem puts_cell : ∀ (l : List Pl) (w : World) (k : Int) (q : Pl), (∀ p ∈ l, ¬ (p.1 = q.1 ∧ p.2.1 = q.2.1)) → (puts w l k).cell? (adr q) = w.cell? (adr q)
  | [], _, _, _, _ => rfl
  | p :: l, w, k, q, h => by
    rw [puts, puts_cell l _ _ q (fun r hr => h r (List.mem_cons_of_mem _ hr)), World.cell?_setCell_other (h := adr_ne (h p List.mem_cons_self))]
theorem hs_puts : ∀ (ps : List Pl) {w : World} (k : Int), apart ps → (∀ p ∈ ps, okc w p) → Hs (puts w ps k) ps k
  | [], _, _, _, _ => fun i p h => by simp at h
  | q :: ps, w, k, hn, ho => by
    have hq := ho q List.mem_cons_self
    unfold apart at hn
    rw [List.map_cons, List.nodup_cons] at hn
    have ih := hs_puts ps (w := w.setCell (adr q) (mkv q.2.2 k)) (k + 1) hn.2 (fun p hp => okc_set hq (ho p (List.mem_cons_of_mem _ hp)) k)
    intro i p hp
    cases i with
    | zero =>
      simp only [List.getElem?_cons_zero, Option.some.injEq] at hp
      subst hp
      rw [puts, puts_cell ps _ _ q (fun r hr e => hn.1 (List.mem_map.2 ⟨r, hr, by rw [e.1, e.2]⟩))]
      obtain ⟨⟨u, hu, _⟩, _⟩ := hq
      rw [World.cell?_setCell_same _ _ _ hu]
      congr 2
      omega
    | succ i =>
      simp only [List.getElem?_cons_succ] at hp
      rw [puts, ih i p hp]
      congr 2
      omega
theorem Wr.hs {w w' : World} {ps : List Pl} {k : Int} (h : Wr w w' ps k) (hn : apart ps) (ho : ∀ p ∈ ps, okc w p) : Hs w' ps k :=
  (hs_puts ps k hn ho).block (fun i hi => h.block i (by rwa [puts_size] at hi))
structure Md where
  sz : Nat
  Sh : Nat → Nat → List ((Nat × Nat) × Value) → List Pl → Prop
namespace Md
def int : Md := ⟨1, fun g o hs ps => hs = [] ∧ ps = [(g, o, false)]⟩
def bool : Md := ⟨1, fun g o hs ps => hs = [] ∧ ps = [(g, o, true)]⟩
def pair (a b : Md) : Md := ⟨a.sz + b.sz, fun g o hs ps => ∃ h1 a1 h2 a2, a.Sh g o h1 a1 ∧ b.Sh g (o + a.sz) h2 a2 ∧ hs = h1 ++ h2 ∧ ps = a1 ++ a2⟩
def N (d : Md) (g : Nat) : Nat → Nat → List ((Nat × Nat) × Value) → List Pl → Prop
  | _, 0, hs, ps => hs = [] ∧ ps = []
  | j, n + 1, hs, ps => ∃ h1 a1 h2 a2, d.Sh g (j * d.sz) h1 a1 ∧ N d g (j + 1) n h2 a2 ∧ hs = h1 ++ h2 ∧ ps = a1 ++ a2
def Row (d : Md) (v : Value) (hs : List ((Nat × Nat) × Value)) (ps : List Pl) : Prop :=
  ∃ A n c, v = .slice A n c ∧ n ≤ c ∧ n ≤ 9223372036854775807 ∧ ((n = 0 ∧ hs = [] ∧ ps = []) ∨ ∃ g, A = some ⟨g, 0, none⟩ ∧ d.N g 0 n hs ps)
def Nr (d : Md) (A : Option Addr) (j n : Nat) (hs : List ((Nat × Nat) × Value)) (ps : List Pl) : Prop := (n = 0 ∧ hs = [] ∧ ps = []) ∨ ∃ g, A = some ⟨g, 0, none⟩ ∧ d.N g j n hs ps
theorem Nr_nil {d : Md} {A : Option Addr} {j : Nat} {hs : List ((Nat × Nat) × Value)} {ps : List Pl} (h : d.Nr A j 0 hs ps) : ps = [] := by
  rcases h with ⟨_, _, h⟩ | ⟨g, _, h⟩
  · exact h
  · exact h.2
theorem Nr_cons {d : Md} {A : Option Addr} {j n : Nat} {hs : List ((Nat × Nat) × Value)} {ps : List Pl} (h : d.Nr A j (n + 1) hs ps) :
    ∃ g, A = some ⟨g, 0, none⟩ ∧ ∃ h1 a1 h2 a2, d.Sh g (j * d.sz) h1 a1 ∧ d.Nr A (j + 1) n h2 a2 ∧ hs = h1 ++ h2 ∧ ps = a1 ++ a2 := by
  rcases h with ⟨h, _⟩ | ⟨g, hA, h1, a1, h2, a2, x, y, z⟩
  · cases h
  · exact ⟨g, hA, h1, a1, h2, a2, x, .inr ⟨g, hA, y⟩, z⟩
def slice (d : Md) : Md := ⟨1, fun g o hs ps => ∃ v h1, d.Row v h1 ps ∧ hs = ((g, o), v) :: h1⟩
end Md
end Go.Proofs.Ytomdjipejoafgaa.Mk
end
section
namespace Go.Proofs.Ytomdjipejoafgaa.Mk
open Go.RowKit Go.Proofs.YtomdjipejoafgaaW.PrintWords Go.Proofs.YtomdjipejoafgaaW.PrintLast
set_option linter.unusedVariables false
set_option linter.unusedSimpArgs false
theorem apart_nil : apart [] := List.nodup_nil
theorem apart_app {a b : List Pl} (ha : apart a) (hb : apart b) (h : ∀ p ∈ a, ∀ q ∈ b, ¬ (p.1 = q.1 ∧ p.2.1 = q.2.1)) : apart (a ++ b) := by
  unfold apart at *
  rw [List.map_append, List.nodup_append]
  refine ⟨ha, hb, fun x hx y hy e => ?_⟩
  obtain ⟨p, hp, rfl⟩ := List.mem_map.1 hx
  obtain ⟨q, hq, rfl⟩ := List.mem_map.1 hy
  injection e with e1 e2
  exact h p hp q hq ⟨e1, e2⟩
structure Br {α : Type} (d : Kd α) (m : Md) (c inn : α → Nat) (ex : α → Prop) : Prop where
  sz : m.sz = d.sz
  el : ∀ {w : World} {base : Nat} {ok : Nat → Prop} {x : α} {cs : List Value} {g o : Nat}, d.M w base ok x cs → (∀ k, ok k → k ≠ g) → (∀ j u, cs[j]? = some u → w.cell? ⟨g, o + j, none⟩ = some u) → (∀ j, w.frozen? ⟨g, o + j, none⟩ = false) →
    ∃ hs ps, m.Sh g o hs ps ∧ Pt w hs ps ∧ ps.length = c x ∧ (ex x → apart ps) ∧ (∀ p ∈ ps, (p.1 = g ∧ o ≤ p.2.1 ∧ p.2.1 < o + m.sz) ∨ (ok p.1 ∧ inn x ≠ 0)) ∧ ∀ q ∈ hs, q.1.1 = g ∨ ok q.1.1
namespace Br
variable {α β : Type}
theorem int : Br (Kd.int .i64) Md.int (fun _ => 1) (fun _ => 0) (fun _ => True) where
  sz := rfl
  el := by
    intro w base ok x cs g o h _ hc hf
    obtain rfl : cs = [.int .i64 x] := h
    refine ⟨[], [(g, o, false)], ⟨rfl, rfl⟩, ⟨fun _ h => by simp at h, fun p hp => ?_⟩, rfl, fun _ => by simp [apart], fun p hp => ?_, fun _ h => by simp at h⟩
    · obtain rfl := List.mem_singleton.1 hp
      exact ⟨⟨_, hc 0 _ rfl, x, rfl⟩, hf 0⟩
    · obtain rfl := List.mem_singleton.1 hp
      exact .inl ⟨rfl, Nat.le_refl _, Nat.lt_succ_self _⟩
theorem bool : Br Kd.bool Md.bool (fun _ => 1) (fun _ => 0) (fun _ => True) where
  sz := rfl
  el := by
    intro w base ok x cs g o h _ hc hf
    obtain rfl : cs = [.bool x] := h
    refine ⟨[], [(g, o, true)], ⟨rfl, rfl⟩, ⟨fun _ h => by simp at h, fun p hp => ?_⟩, rfl, fun _ => by simp [apart], fun p hp => ?_, fun _ h => by simp at h⟩
    · obtain rfl := List.mem_singleton.1 hp
      exact ⟨⟨_, hc 0 _ rfl, x, rfl⟩, hf 0⟩
    · obtain rfl := List.mem_singleton.1 hp
      exact .inl ⟨rfl, Nat.le_refl _, Nat.lt_succ_self _⟩
theorem pair {d1 : Kd α} {d2 : Kd β} {m1 m2 : Md} {c1 i1 : α → Nat} {c2 i2 : β → Nat} {e1 : α → Prop} {e2 : β → Prop} (h1 : Br d1 m1 c1 i1 e1) (h2 : Br d2 m2 c2 i2 e2) :
    Br (Kd.pair d1 d2) (Md.pair m1 m2) (fun x => c1 x.1 + c2 x.2) (fun x => i1 x.1 + i2 x.2) (fun x => e1 x.1 ∧ e2 x.2 ∧ (i1 x.1 = 0 ∨ i2 x.2 = 0)) where
  sz := by show m1.sz + m2.sz = d1.sz + d2.sz; rw [h1.sz, h2.sz]
  el := by
    rintro w base ok x cs g o ⟨u0, u1, rfl, hM1, hM2⟩ hg hc hf
    have hl := d1.K_len (d1.K_of_M hM1)
    obtain ⟨s1, a1, sh1, p1, l1, x1, b1, q1⟩ := h1.el (g := g) (o := o) hM1 hg (fun j u hu => hc j u (by rw [List.getElem?_append_left (List.getElem?_eq_some_iff.1 hu).1]; exact hu)) hf
    obtain ⟨s2, a2, sh2, p2, l2, x2, b2, q2⟩ := h2.el (g := g) (o := o + m1.sz) hM2 hg (fun j u hu => by
      have := hc (m1.sz + j) u (by rw [List.getElem?_append_right (by rw [hl, h1.sz]; omega), hl, h1.sz, Nat.add_sub_cancel_left]; exact hu)
      rw [← Nat.add_assoc] at this
      exact this) (fun j => by have := hf (m1.sz + j); rw [← Nat.add_assoc] at this; exact this)
    refine ⟨s1 ++ s2, a1 ++ a2, ⟨s1, a1, s2, a2, sh1, sh2, rfl, rfl⟩, p1.app p2, by rw [List.length_append, l1, l2], ?_, ?_, fun q hq => (List.mem_append.1 hq).elim (q1 q) (q2 q)⟩
    · rintro ⟨y1, y2, y3⟩
      refine apart_app (x1 y1) (x2 y2) (fun p hp q hq e => ?_)
      rcases b1 p hp with hp' | ⟨hp', hp2⟩
      · rcases b2 q hq with hq' | ⟨hq', _⟩
        · omega
        · exact hg _ hq' (by rw [← e.1]; exact hp'.1)
      · rcases b2 q hq with hq' | ⟨_, hq2⟩
        · exact hg _ hp' (by rw [e.1]; exact hq'.1)
        · exact y3.elim hp2 hq2
    · intro p hp
      show (p.1 = g ∧ o ≤ p.2.1 ∧ p.2.1 < o + (m1.sz + m2.sz)) ∨ _
      rcases List.mem_append.1 hp with hp | hp
      · rcases b1 p hp with hp' | hp'
        · exact .inl ⟨hp'.1, by omega, by omega⟩
        · exact .inr ⟨hp'.1, by have := hp'.2; omega⟩
      · rcases b2 p hp with hp' | hp'
        · exact .inl ⟨hp'.1, by omega, by omega⟩
        · exact .inr ⟨hp'.1, by have := hp'.2; omega⟩
theorem iso {d : Kd α} {m : Md} {c i : α → Nat} {e : α → Prop} (h : Br d m c i e) (f : β → α) : Br (Kd.iso d f) m (fun x => c (f x)) (fun x => i (f x)) (fun x => e (f x)) where
  sz := h.sz
  el := fun hM => h.el hM
end Br
section
variable {α : Type} {d : Kd α} {m : Md} {c inn : α → Nat} {ex : α → Prop}
def tot (c : α → Nat) (xs : List α) : Nat := (xs.map c).sum
theorem tot_one (xs : List α) : tot (fun _ => 1) xs = xs.length := by
  induction xs with
  | nil => rfl
  | cons x xs ih =>
    unfold tot at *
    rw [List.map_cons, List.sum_cons, ih, List.length_cons, Nat.add_comm]
theorem tot_drop (c : α → Nat) (xs : List α) (j : Nat) (h : j < xs.length) : tot c (xs.drop j) = c xs[j] + tot c (xs.drop (j + 1)) := by
  unfold tot
  rw [List.drop_eq_getElem_cons h, List.map_cons, List.sum_cons]
theorem row_n (hb : Br d m c inn ex) {w : World} {base g : Nat} {ok : Nat → Prop} {Q : Nat → Nat → Prop} (xs : List α)
    (E : ∀ i (h : i < xs.length), ∃ cs, d.M w base (fun k => ok k ∧ k ≠ g ∧ Q i k) xs[i] cs ∧ (∀ j u, cs[j]? = some u → w.cell? ⟨g, i * m.sz + j, none⟩ = some u) ∧ ∀ j, w.frozen? ⟨g, i * m.sz + j, none⟩ = false) :
    ∀ n j, j + n = xs.length → ∃ hs ps, m.N g j n hs ps ∧ Pt w hs ps ∧ ps.length = tot c (xs.drop j) ∧ (∀ q ∈ hs, q.1.1 = g ∨ ok q.1.1) ∧
      (∀ p ∈ ps, (p.1 = g ∧ j * m.sz ≤ p.2.1) ∨ (ok p.1 ∧ p.1 ≠ g ∧ ∃ i, j ≤ i ∧ Q i p.1 ∧ ∃ h : i < xs.length, inn xs[i] ≠ 0)) ∧
      ((∀ x ∈ xs, ex x) → ((∀ i i' k, Q i k → Q i' k → i = i') ∨ ∀ x ∈ xs, inn x = 0) → apart ps)
  | 0, j, e => ⟨[], [], ⟨rfl, rfl⟩, Pt.nil w, by
      rw [List.drop_eq_nil_of_le (by omega)]
      rfl, fun q hq => by simp at hq, fun p hp => by simp at hp, fun _ _ => apart_nil⟩
  | n + 1, j, e => by
    have hj : j < xs.length := by omega
    obtain ⟨cs, hM, hc, hf⟩ := E j hj
    obtain ⟨s1, a1, sh1, p1, l1, x1, b1, q1⟩ := hb.el (g := g) (o := j * m.sz) hM (fun k hk => hk.2.1) hc hf
    obtain ⟨s2, a2, sh2, p2, l2, q2, b2, x2⟩ := row_n hb xs E n (j + 1) (by omega)
    have hmul : (j + 1) * m.sz = j * m.sz + m.sz := Nat.succ_mul _ _
    refine ⟨s1 ++ s2, a1 ++ a2, ⟨s1, a1, s2, a2, sh1, sh2, rfl, rfl⟩, p1.app p2, by rw [List.length_append, l1, l2, tot_drop c xs j hj], fun q hq => (List.mem_append.1 hq).elim (fun h => (q1 q h).imp_right (·.1)) (q2 q), ?_, ?_⟩
    · intro p hp
      rcases List.mem_append.1 hp with hp | hp
      · rcases b1 p hp with hp' | hp'
        · exact .inl ⟨hp'.1, hp'.2.1⟩
        · exact .inr ⟨hp'.1.1, hp'.1.2.1, j, Nat.le_refl _, hp'.1.2.2, hj, hp'.2⟩
      · rcases b2 p hp with hp' | ⟨h1, h2, i, hi, hq, hl, hn⟩
        · exact .inl ⟨hp'.1, by omega⟩
        · exact .inr ⟨h1, h2, i, by omega, hq, hl, hn⟩
    · intro y1 y2
      refine apart_app (x1 (y1 _ (List.getElem_mem hj))) (x2 y1 y2) (fun p hp q hq e => ?_)
      rcases b1 p hp with hp' | hp'
      · rcases b2 q hq with hq' | hq'
        · omega
        · exact hq'.2.1 (by rw [← e.1]; exact hp'.1)
      · rcases b2 q hq with hq' | ⟨_, _, i, hi, hqi, hl, hn⟩
        · exact hp'.1.2.1 (by rw [e.1]; exact hq'.1)
        · rcases y2 with y2 | y2
          · have := y2 j i p.1 hp'.1.2.2 (by rw [e.1]; exact hqi)
            omega
          · exact hn (y2 _ (List.getElem_mem hl))
theorem row_R (hb : Br d m c inn ex) {e base : Nat} {w : World} {ok : Nat → Prop} {v : Value} {xs : List α} (h : d.R e w base ok v xs) :
    ∃ hs ps, m.Row v hs ps ∧ Pt w hs ps ∧ ps.length = tot c xs ∧ (∀ q ∈ hs, ok q.1.1) ∧ (∀ p ∈ ps, ok p.1 ∧ (some p.1 = v.ownBlock ∨ ∃ x ∈ xs, inn x ≠ 0)) ∧ ((∀ x ∈ xs, ex x) → (∀ x ∈ xs, inn x = 0) → apart ps) := by
  obtain ⟨A, cp, rfl, hle, hC⟩ := Kd.R_reads h
  have hmax : xs.length ≤ 9223372036854775807 := hC.2.1
  by_cases hp : 0 < xs.length
  · obtain ⟨g, cap, he, _, _, _⟩ := Kd.R_form h hp
    injection he with h1 h2 h3
    subst h1
    obtain ⟨z⟩ : Nonempty α := ⟨xs[0]⟩
    obtain ⟨hs, ps, hN, hPt, hl, hq0, hbk, hx⟩ := row_n hb (g := g) (ok := ok) (Q := fun _ _ => True) (base := base) (w := w) xs (fun i hi => by
      obtain ⟨cs, _, hM, hc, hf⟩ := Kd.R_elem h z (i : Int) (by omega) (by omega)
      rw [Int.toNat_natCast] at hM hc hf
      rw [List.getD_eq_getElem?_getD, List.getElem?_eq_getElem hi, Option.getD_some] at hM
      rw [← hb.sz] at hc hf
      exact ⟨cs, d.M_mono (fun k hk => ⟨hk.1, hk.2, trivial⟩) hM, hc, hf⟩) xs.length 0 (by omega)
    refine ⟨hs, ps, ⟨_, _, _, rfl, hle, hmax, .inr ⟨g, rfl, hN⟩⟩, hPt, by rw [hl, List.drop_zero], fun q hq => (hq0 q hq).elim (fun e => by rw [e]; exact h.1 g rfl) id, fun p hp => ?_, fun y1 y2 => hx y1 (.inr y2)⟩
    rcases hbk p hp with hp' | ⟨hp', _, i, _, _, hl, hn⟩
    · exact ⟨by rw [hp'.1]; exact h.1 g rfl, .inl (by rw [hp'.1]; rfl)⟩
    · exact ⟨hp', .inr ⟨_, List.getElem_mem hl, hn⟩⟩
  · have h0 : xs = [] := List.eq_nil_of_length_eq_zero (by omega)
    subst h0
    exact ⟨[], [], ⟨_, _, _, rfl, hle, hmax, .inl ⟨rfl, rfl, rfl⟩⟩, Pt.nil w, rfl, fun q hq => by simp at hq, fun p hp => by simp at hp, fun _ _ => apart_nil⟩
theorem row_S (hb : Br d m c inn ex) {e base : Nat} {w : World} {ok : Nat → Prop} {v : Value} {xs : List α} (h : Kd.S d e w base ok v xs) :
    ∃ hs ps, m.Row v hs ps ∧ Pt w hs ps ∧ ps.length = tot c xs ∧ (∀ q ∈ hs, ok q.1.1) ∧ (∀ p ∈ ps, ok p.1 ∧ (some p.1 = v.ownBlock ∨ ∃ x ∈ xs, inn x ≠ 0)) ∧ ((∀ x ∈ xs, ex x) → apart ps) := by
  have hR := Kd.S_R h
  obtain ⟨A, cp, rfl, hle, hC⟩ := Kd.R_reads hR
  have hmax : xs.length ≤ 9223372036854775807 := hC.2.1
  obtain ⟨f, hf_⟩ := h
  by_cases hp : 0 < xs.length
  · obtain ⟨g, cap, he, _, _, _⟩ := Kd.R_form hR hp
    injection he with h1 h2 h3
    subst h1
    obtain ⟨z⟩ : Nonempty α := ⟨xs[0]⟩
    obtain ⟨hs, ps, hN, hPt, hl, hq0, hbk, hx⟩ := row_n hb (g := g) (ok := ok) (Q := fun i k => f k = i) (base := base) (w := w) xs (fun i hi => by
      obtain ⟨cs, _, hM, hc, hf⟩ := Kd.R_elem hf_ (z, 0) (i : Int) (by omega) (by omega)
      rw [Int.toNat_natCast] at hM hc hf
      rw [List.getD_eq_getElem?_getD, Kd.zip_at (List.getElem?_eq_getElem hi), Option.getD_some] at hM
      rw [show (Kd.tag f d).sz = m.sz from hb.sz.symm] at hc hf
      exact ⟨cs, d.M_mono (fun k hk => ⟨hk.1.1, hk.1.2, hk.2⟩) hM, hc, hf⟩) xs.length 0 (by omega)
    refine ⟨hs, ps, ⟨_, _, _, rfl, hle, hmax, .inr ⟨g, rfl, hN⟩⟩, hPt, by rw [hl, List.drop_zero], fun q hq => (hq0 q hq).elim (fun e => by rw [e]; exact hR.1 g rfl) id, fun p hp => ?_, fun y1 => hx y1 (.inl fun i i' k h1 h2 => h1.symm.trans h2)⟩
    rcases hbk p hp with hp' | ⟨hp', _, i, _, _, hl, hn⟩
    · exact ⟨by rw [hp'.1]; exact hR.1 g rfl, .inl (by rw [hp'.1]; rfl)⟩
    · exact ⟨hp', .inr ⟨_, List.getElem_mem hl, hn⟩⟩
  · have h0 : xs = [] := List.eq_nil_of_length_eq_zero (by omega)
    subst h0
    exact ⟨[], [], ⟨_, _, _, rfl, hle, hmax, .inl ⟨rfl, rfl, rfl⟩⟩, Pt.nil w, rfl, fun q hq => by simp at hq, fun p hp => by simp at hp, fun _ => apart_nil⟩
theorem Br.slice (hb : Br d m c inn ex) (e : Nat) (h0 : ∀ x, inn x = 0) : Br (Kd.slice e d) (Md.slice m) (fun xs => tot c xs) (fun xs => tot c xs) (fun xs => ∀ x ∈ xs, ex x) where
  sz := rfl
  el := by
    rintro w base ok x cs g o ⟨v, rfl, hR⟩ hg hc hf
    obtain ⟨hs, ps, hr, hPt, hl, hq0, hbk, hx⟩ := row_R hb hR
    obtain ⟨A, n, cp, hv, _⟩ := hr
    refine ⟨((g, o), v) :: hs, ps, ⟨v, hs, ⟨A, n, cp, hv, by assumption⟩, rfl⟩, ⟨fun q hq => ?_, hPt.a⟩, hl, fun y => hx y (fun x _ => h0 x), fun p hp => .inr ⟨(hbk p hp).1, ?_⟩, fun q hq => ?_⟩
    · rcases List.mem_cons.1 hq with rfl | hq
      · exact ⟨hc 0 _ rfl, A, n, cp, hv⟩
      · exact hPt.h q hq
    · show tot c x ≠ 0
      have := List.length_pos_of_mem hp
      omega
    · rcases List.mem_cons.1 hq with rfl | hq
      · exact .inl rfl
      · exact .inr (hq0 q hq)
end
structure Sg (w : World) (k : Int) (wr : World) (pre : List Pl) (hs : List ((Nat × Nat) × Value)) (ps : List Pl) (kk : Int) : Prop where
  ek : kk = k + (pre.length : Int)
  pt : Pt wr hs ps
  wr : Wr w wr pre k
theorem Pt.sub {w : World} {hs h1 : List ((Nat × Nat) × Value)} {ps a1 : List Pl} (h : Pt w hs ps) (x : ∀ q ∈ h1, q ∈ hs) (y : ∀ q ∈ a1, q ∈ ps) : Pt w h1 a1 := ⟨fun q hq => h.h q (x q hq), fun q hq => h.a q (y q hq)⟩
namespace Sg
variable {w wr w2 : World} {k kk : Int} {pre ps qs a1 a2 : List Pl} {hs h1 h2 : List ((Nat × Nat) × Value)}
theorem start (h : Pt w hs ps) (k : Int) : Sg w k w [] hs ps k := ⟨by simp, h, Wr.refl w k⟩
theorem put (h : Sg w k wr pre hs ps kk) {b o : Nat} {t : Bool} (hm : (b, o, t) ∈ ps) {v : Value} (hv : v = mkv t kk) : Sg w k (wr.setCell ⟨b, o, none⟩ v) (pre ++ [(b, o, t)]) hs ps (kk + 1) := by
  subst hv
  refine ⟨by rw [h.ek, List.length_append, List.length_singleton]; omega, h.pt.set (p := (b, o, t)) (h.pt.a _ hm) kk, h.wr.put (b, o, t) h.ek⟩
theorem call (h : Sg w k wr pre hs ps kk) (hw : Wr wr w2 qs kk) (hq : ∀ q ∈ qs, q ∈ ps) : Sg w k w2 (pre ++ qs) hs ps (kk + (qs.length : Int)) :=
  ⟨by rw [h.ek, List.length_append]; omega, h.pt.wr hw (fun p hp => h.pt.a p (hq p hp)), h.wr.trans hw h.ek⟩
theorem below (h : Sg w k wr pre hs ps kk) (hb : Below wr.heap.size wr w2) : Sg w k w2 pre hs ps kk := ⟨h.ek, h.pt.below hb, h.wr.below hb⟩
theorem rest (h : Sg w k wr pre (h1 ++ h2) (a1 ++ a2) kk) : Sg w k wr pre h2 a2 kk := ⟨h.ek, h.pt.right, h.wr⟩
theorem cell (h : Sg w k wr pre hs ps kk) {b o : Nat} {t : Bool} (hm : (b, o, t) ∈ ps) : ∃ u, wr.cell? ⟨b, o, none⟩ = some u ∧ wr.frozen? ⟨b, o, none⟩ = false := by
  obtain ⟨⟨u, hu, _⟩, hf⟩ := h.pt.a _ hm
  exact ⟨u, hu, hf⟩
theorem head (h : Sg w k wr pre hs ps kk) {b o : Nat} {v : Value} (hm : ((b, o), v) ∈ hs) : wr.cell? ⟨b, o, none⟩ = some v := (h.pt.h _ hm).1
theorem sub (h : Sg w k wr pre hs ps kk) (x : ∀ q ∈ h1, q ∈ hs) (y : ∀ q ∈ a1, q ∈ ps) : Pt wr h1 a1 := h.pt.sub x y
theorem narrow (h : Sg w k wr pre hs ps kk) (x : ∀ q ∈ h1, q ∈ hs) (y : ∀ q ∈ a1, q ∈ ps) : Sg w k wr pre h1 a1 kk := ⟨h.ek, h.pt.sub x y, h.wr⟩
end Sg
theorem Wr.after {w wb w2 : World} {ps : List Pl} {k : Int} (hb : Below w.heap.size w wb) (h : Wr wb w2 ps k) : Wr w w2 ps k :=
  ⟨h.os.trans hb.os, h.tape.trans hb.tape, h.output.trans hb.output, Nat.le_trans hb.size h.size, fun i hi =>
    (h.block i (Nat.lt_of_lt_of_le hi hb.size)).trans (puts_cong ps k (hb.block i hi))⟩
theorem Md.Row_slice {d : Md} {v : Value} {hs : List ((Nat × Nat) × Value)} {ps : List Pl} (h : d.Row v hs ps) : ∃ A n c, v = .slice A n c := by
  obtain ⟨A, n, c, e, _⟩ := h
  exact ⟨A, n, c, e⟩
structure Sq (w : World) (k : Int) (wr : World) (pre : List Pl) (hs : List ((Nat × Nat) × Value)) (ps : List Pl) (kk : Int) : Prop where
  ek : kk = k + (pre.length : Int)
  pt : Pt wr hs ps
  hd : Hs wr ps kk
  bl : Below w.heap.size w wr
theorem Hs.tail {w : World} {p : Pl} {ps : List Pl} {k : Int} (h : Hs w (p :: ps) k) : Hs w ps (k + 1) := by
  have := Hs.right (ps := [p]) (bs := ps) h
  simpa using this
namespace Sq
variable {w wr w2 : World} {k kk : Int} {pre ps qs a1 a2 : List Pl} {hs h1 h2 : List ((Nat × Nat) × Value)} {p : Pl}
theorem start (h : Pt w hs ps) (g : Hs w ps k) : Sq w k w [] hs ps k := ⟨by simp, h, g, Below.refl _ _⟩
theorem cell {b o : Nat} {t : Bool} (h : Sq w k wr pre hs ((b, o, t) :: ps) kk) : wr.cell? ⟨b, o, none⟩ = some (mkv t kk) := h.hd.head (p := (b, o, t))
theorem tail (h : Sq w k wr pre hs (p :: ps) kk) : Sq w k wr (pre ++ [p]) hs ps (kk + 1) :=
  ⟨by rw [h.ek, List.length_append, List.length_singleton]; omega, ⟨h.pt.h, fun q hq => h.pt.a q (List.mem_cons_of_mem _ hq)⟩, h.hd.tail, h.bl⟩
theorem call (h : Sq w k wr pre hs (a1 ++ a2) kk) (hb : Below wr.heap.size wr w2) : Sq w k w2 (pre ++ a1) hs a2 (kk + (a1.length : Int)) :=
  ⟨by rw [h.ek, List.length_append]; omega, ⟨(h.pt.below hb).h, fun q hq => (h.pt.below hb).a q (List.mem_append_right _ hq)⟩, h.hd.right.below hb, h.bl.trans (hb.mono h.bl.size)⟩
theorem head (h : Sq w k wr pre hs ps kk) {b o : Nat} {v : Value} (hm : ((b, o), v) ∈ hs) : wr.cell? ⟨b, o, none⟩ = some v := (h.pt.h _ hm).1
theorem narrow (h : Sq w k wr pre hs ps kk) (x : ∀ q ∈ h1, q ∈ hs) : Sq w k wr pre h1 ps kk := ⟨h.ek, h.pt.sub x (fun _ hq => hq), h.hd, h.bl⟩
end Sq
end Go.Proofs.Ytomdjipejoafgaa.Mk
end
section
namespace Go.Proofs.Ytomdjipejoafgaa.Mk
open Go.RowKit Go.Proofs.YtomdjipejoafgaaW.PrintWords Go.Proofs.YtomdjipejoafgaaW.PrintLast
set_option linter.unusedVariables false
set_option linter.unusedSimpArgs false
def Bt (lo hi : Nat) (q : Nat) : Prop := lo ≤ q ∧ q < hi
abbrev Item := Nat × Nat × (World → Prop)
def Chn (n0 : Nat) (W : World) : List Item → Prop
  | [] => True
  | (lo, hi, P) :: L => n0 ≤ lo ∧ lo ≤ hi ∧ hi ≤ W.heap.size ∧ Foot P W (Bt lo hi) ∧ (∀ y ∈ L, y.2.1 ≤ lo) ∧ Chn n0 W L
theorem Chn.step {n0 : Nat} {W W' : World} {S : Nat → Prop} (hk : Kept W W' S) : ∀ {L : List Item}, (∀ y ∈ L, ∀ q, Bt y.1 y.2.1 q → ¬ S q) → Chn n0 W L → Chn n0 W' L
  | [], _, _ => trivial
  | (lo, hi, P) :: L, hd, ⟨h1, h2, h3, h4, h5, h6⟩ =>
    ⟨h1, h2, Nat.le_trans h3 hk.1, h4.step (fun k hk' hlt => hk.2 k hlt (hd _ List.mem_cons_self k hk')), h5, Chn.step hk (fun y hy => hd y (List.mem_cons_of_mem _ hy)) h6⟩
theorem Chn.lt {n0 : Nat} {W : World} : ∀ {L : List Item}, Chn n0 W L → ∀ y ∈ L, n0 ≤ y.1 ∧ y.1 ≤ y.2.1 ∧ y.2.1 ≤ W.heap.size
  | [], _, y, hy => by simp at hy
  | (lo, hi, P) :: L, ⟨h1, h2, h3, _, _, h6⟩, y, hy => by
    rcases List.mem_cons.1 hy with rfl | hy
    · exact ⟨h1, h2, h3⟩
    · exact Chn.lt h6 y hy
structure Ch (w W : World) (L : List Item) : Prop where
  b : Below w.heap.size w W
  c : Chn w.heap.size W L
namespace Ch
variable {w W W' : World} {L L1 L2 : List Item} {lo hi : Nat} {P P' : World → Prop}
theorem start (w : World) : Ch w w [] := ⟨Below.refl _ _, trivial⟩
theorem below (h : Ch w W L) (hb : Below W.heap.size W W') : Ch w W' L := ⟨below_step h.b hb, Chn.step (Kept.of_below hb (fun _ => False)) (fun _ _ _ _ h => h) h.c⟩
theorem drawn (h : Ch w W L) (hd : Drawn0 W W') : Ch w W' L := by
  obtain ⟨n, rfl⟩ := hd.out
  exact h.below (pw_below_drewN (Below.refl _ _) n)
theorem push (h : Ch w W L) (hb : Below W.heap.size W W') {Q : Nat → Nat → World → Prop} (hQ : Foot (Q W.heap.size W'.heap.size) W' (Bt W.heap.size W'.heap.size)) : ∃ lo hi, Ch w W' ((lo, hi, Q lo hi) :: L) :=
  ⟨W.heap.size, W'.heap.size, (h.below hb).b, h.b.size, hb.size, Nat.le_refl _, hQ, fun y hy => (h.c.lt y hy).2.2, (h.below hb).c⟩
theorem get (h : Ch w W L) : ∀ (i : Nat), L[i]? = some (lo, hi, P) → P W ∧ Foot P W (Bt lo hi) := by
  have key : ∀ {L : List Item}, Chn w.heap.size W L → ∀ (i : Nat), L[i]? = some (lo, hi, P) → P W ∧ Foot P W (Bt lo hi) := by
    intro L
    induction L with
    | nil => intro _ i e; simp at e
    | cons y L ih =>
      intro hc i e
      obtain ⟨a, b, Q⟩ := y
      cases i with
      | zero =>
        simp only [List.getElem?_cons_zero, Option.some.injEq, Prod.mk.injEq] at e
        obtain ⟨rfl, rfl, rfl⟩ := e
        exact ⟨hc.2.2.2.1.now, hc.2.2.2.1⟩
      | succ i => exact ih hc.2.2.2.2.2 i (by simpa using e)
  exact key h.c
theorem at_ (h : Ch w W L) (i : Nat) (e : L[i]? = some (lo, hi, P)) : P W := (h.get i e).1
theorem mark (h : Ch w W (L1 ++ (lo, hi, P) :: L2)) (hk : Kept W W' (Bt lo hi)) (hb : Below w.heap.size w W') (hP : Foot P' W' (Bt lo hi)) : Ch w W' (L1 ++ (lo, hi, P') :: L2) := by
  refine ⟨hb, ?_⟩
  have key : ∀ {L1 : List Item}, Chn w.heap.size W (L1 ++ (lo, hi, P) :: L2) → Chn w.heap.size W' (L1 ++ (lo, hi, P') :: L2) := by
    intro L1
    induction L1 with
    | nil =>
      rintro ⟨h1, h2, h3, h4, h5, h6⟩
      exact ⟨h1, h2, Nat.le_trans h3 hk.1, hP, h5, Chn.step hk (fun y hy q hq hq2 => by have := h5 y hy; have := hq.2; have := hq2.1; omega) h6⟩
    | cons y L1 ih =>
      obtain ⟨a, b, Q⟩ := y
      rintro ⟨h1, h2, h3, h4, h5, h6⟩
      refine ⟨h1, h2, Nat.le_trans h3 hk.1, h4.step (fun k hk' hlt => hk.2 k hlt (fun hq => ?_)), ?_, ih h6⟩
      · have := h5 (lo, hi, P) (List.mem_append_right _ List.mem_cons_self)
        have := hk'.1
        have := hq.2
        simp only at *
        omega
      · intro y hy
        rcases List.mem_append.1 hy with hy | hy
        · exact h5 y (List.mem_append_left _ hy)
        · rcases List.mem_cons.1 hy with rfl | hy
          · exact h5 (lo, hi, P) (List.mem_append_right _ List.mem_cons_self)
          · exact h5 y (List.mem_append_right _ (List.mem_cons_of_mem _ hy))
  exact key h.c
theorem lt_ (h : Ch w W (L1 ++ (lo, hi, P) :: L2)) : w.heap.size ≤ lo := (h.c.lt (lo, hi, P) (List.mem_append_right _ List.mem_cons_self)).1
theorem wr {ps : List Pl} {k : Int} (h : Ch w W (L1 ++ (lo, hi, P) :: L2)) (hw : Wr W W' ps k) (hp : ∀ p ∈ ps, Bt lo hi p.1) (hP : Foot P' W' (Bt lo hi)) : Ch w W' (L1 ++ (lo, hi, P') :: L2) :=
  h.mark (hw.kept hp) (hw.under h.b (fun p hq => Nat.le_trans h.lt_ (hp p hq).1)) hP
theorem wr0 {ps : List Pl} {k : Int} (h : Ch w W (L1 ++ (lo, hi, P) :: L2)) (hw : Wr W W' ps k) (hp : ∀ p ∈ ps, Bt lo hi p.1) : Ch w W' (L1 ++ (lo, hi, fun _ => True) :: L2) :=
  h.wr hw hp (fun _ _ => trivial)
end Ch
section
variable {α : Type} {d : Kd α} {e : Nat} {W W' : World} {lo hi : Nat} {v : Value} {xs : List α}
theorem foot_R (h : d.R e W lo (Bt lo hi) v xs) : Foot (fun U => d.R e U lo (Bt lo hi) v xs) W (Bt lo hi) := fun _ hW => Kd.R_step h hW
theorem foot_S (h : Kd.S d e W lo (Bt lo hi) v xs) : Foot (fun U => Kd.S d e U lo (Bt lo hi) v xs) W (Bt lo hi) := fun _ hW => Kd.S_step h hW
theorem in_R {ok : Nat → Prop} (h : d.R e W' W.heap.size ok v xs) : d.R e W' W.heap.size (Bt W.heap.size W'.heap.size) v xs := Kd.R_mono (Kd.R_bound h) (fun _ hk => ⟨hk.2.1, hk.2.2.1⟩)
theorem in_S {ok : Nat → Prop} (h : Kd.S d e W' W.heap.size ok v xs) : Kd.S d e W' W.heap.size (Bt W.heap.size W'.heap.size) v xs := Kd.S_mono (Kd.S_bound h) (fun _ hk => ⟨hk.2.1, hk.2.2.1⟩)
theorem foot_and {P Q : World → Prop} {ok : Nat → Prop} (h : Foot P W ok) (g : Foot Q W ok) : Foot (fun U => P U ∧ Q U) W ok := fun U hU => ⟨h U hU, g U hU⟩
end
theorem foot_blk {W : World} {g : Nat} {o : Obj} {lo hi : Nat} (h : W.heap[g]? = some o) (hg : Bt lo hi g) : Foot (fun U => U.heap[g]? = some o) W (Bt lo hi) := fun _ hU => (hU g hg (blk_lt h)).trans h
theorem foot_pt {W : World} {hs : List ((Nat × Nat) × Value)} {ps : List Pl} {ok : Nat → Prop} (h : Pt W hs ps) (h1 : ∀ q ∈ hs, ok q.1.1) (h2 : ∀ p ∈ ps, ok p.1) : Foot (fun U => Pt U hs ps) W ok := fun U hU => by
  refine ⟨fun q hq => ?_, fun p hp => ?_⟩
  · have a := h.h q hq
    exact ⟨by rw [World.cell?_of_block (hU _ (h1 q hq) (World.block_lt_of_cell? _ _ a.1))]; exact a.1, a.2⟩
  · obtain ⟨⟨u, hu, hpu⟩, hf⟩ := h.a p hp
    have e := hU _ (h2 p hp) (World.block_lt_of_cell? _ _ hu)
    exact ⟨⟨u, by rw [World.cell?_of_block e]; exact hu, hpu⟩, by rw [World.frozen?_of_block e]; exact hf⟩
theorem foot_hs {W : World} {ps : List Pl} {k : Int} {ok : Nat → Prop} (h : Hs W ps k) (h2 : ∀ p ∈ ps, ok p.1) : Foot (fun U => Hs U ps k) W ok := fun U hU i p hp => by
  rw [World.cell?_of_block (hU _ (h2 p (List.mem_of_getElem? hp)) (World.block_lt_of_cell? _ _ (h i p hp)))]
  exact h i p hp
theorem foot_R' {α : Type} {d : Kd α} {e : Nat} {W : World} {lo hi : Nat} {v : Value} {xs : List α} {ok : Nat → Prop} (h : d.R e W lo (fun q => Bt lo hi q ∧ ok q) v xs) : Foot (fun U => d.R e U lo (fun q => Bt lo hi q ∧ ok q) v xs) W (Bt lo hi) := fun _ hW => Kd.R_step h (fun k hk hlt => hW k hk.1 hlt)
theorem foot_S' {α : Type} {d : Kd α} {e : Nat} {W : World} {lo hi : Nat} {v : Value} {xs : List α} {ok : Nat → Prop} (h : Kd.S d e W lo (fun q => Bt lo hi q ∧ ok q) v xs) : Foot (fun U => Kd.S d e U lo (fun q => Bt lo hi q ∧ ok q) v xs) W (Bt lo hi) := fun _ hW => Kd.S_step h (fun k hk hlt => hW k hk.1 hlt)
theorem in_R' {α : Type} {d : Kd α} {e : Nat} {W W' : World} {v : Value} {xs : List α} {ok ok' : Nat → Prop} (h : d.R e W' W.heap.size ok v xs) (h2 : ∀ q, ok q → ok' q) : d.R e W' W.heap.size (fun q => Bt W.heap.size W'.heap.size q ∧ ok' q) v xs := Kd.R_mono (Kd.R_bound h) (fun q hk => ⟨⟨hk.2.1, hk.2.2.1⟩, h2 q hk.1⟩)
theorem in_S' {α : Type} {d : Kd α} {e : Nat} {W W' : World} {v : Value} {xs : List α} {ok ok' : Nat → Prop} (h : Kd.S d e W' W.heap.size ok v xs) (h2 : ∀ q, ok q → ok' q) : Kd.S d e W' W.heap.size (fun q => Bt W.heap.size W'.heap.size q ∧ ok' q) v xs := Kd.S_mono (Kd.S_bound h) (fun q hk => ⟨⟨hk.2.1, hk.2.2.1⟩, h2 q hk.1⟩)
theorem pair_no {vB : Value} {p q : Pl} (hA : some p.1 ≠ vB.ownBlock) (hB : some q.1 = vB.ownBlock) : ¬ (p.1 = q.1 ∧ p.2.1 = q.2.1) := fun e => hA (by rw [e.1]; exact hB)
theorem own_of {α : Type} {inn : α → Nat} {xs : List α} {v : Value} {q : Pl} (h : some q.1 = v.ownBlock ∨ ∃ x ∈ xs, inn x ≠ 0) (h0 : ∀ x ∈ xs, inn x = 0) : some q.1 = v.ownBlock := h.elim id (fun ⟨x, hx, hn⟩ => absurd (h0 x hx) hn)
theorem Ch.box {w W : World} {L : List Item} (h : Ch w W L) (o : Obj) : Ch w (W.alloc o) ((W.heap.size, W.heap.size + 1, fun U => U.heap[W.heap.size]? = some o) :: L) := by
  have hb := below_alloc (Below.refl W.heap.size W) o
  refine ⟨(h.below hb).b, h.b.size, Nat.le_succ _, by simp, foot_blk (blk_new W o) ⟨Nat.le_refl _, Nat.lt_succ_self _⟩, fun y hy => (h.c.lt y hy).2.2, (h.below hb).c⟩
end Go.Proofs.Ytomdjipejoafgaa.Mk
end
section
namespace Go.Proofs.Ytomdjipejoafgaa.Mk
open Go.RowKit Go.Proofs.Ytomdjipejoafgaa.P Go.Proofs.YtomdjipejoafgaaW.PrintWords Go.Proofs.YtomdjipejoafgaaW.PrintLast Go.Proofs.YtomdjipejoafgaaW.PrintMore
set_option linter.unusedVariables false
set_option linter.unusedSimpArgs false
def mdServer : Md := Md.pair Md.int (Md.pair Md.int (Md.pair Md.bool (Md.pair Md.bool (Md.pair (Md.slice Md.int) ((Md.slice Md.int))))))
def pcServer (x : S108) : Nat := 1 + (1 + (1 + (1 + (tot (fun _ => 1) x.f4 + (tot (fun _ => 1) x.f5)))))
def piServer (x : S108) : Nat := 0 + (0 + (0 + (0 + (tot (fun _ => 1) x.f4 + (tot (fun _ => 1) x.f5)))))
def peServer (x : S108) : Prop := True ∧ (True ∧ (True ∧ (True ∧ ((∀ y ∈ x.f4, True) ∧ ((∀ y ∈ x.f5, True)) ∧ (tot (fun _ => 1) x.f4 = 0 ∨ tot (fun _ => 1) x.f5 = 0)) ∧ (0 = 0 ∨ tot (fun _ => 1) x.f4 + (tot (fun _ => 1) x.f5) = 0)) ∧ (0 = 0 ∨ 0 + (tot (fun _ => 1) x.f4 + (tot (fun _ => 1) x.f5)) = 0)) ∧ (0 = 0 ∨ 0 + (0 + (tot (fun _ => 1) x.f4 + (tot (fun _ => 1) x.f5))) = 0)) ∧ (0 = 0 ∨ 0 + (0 + (0 + (tot (fun _ => 1) x.f4 + (tot (fun _ => 1) x.f5)))) = 0)
theorem brServer : Br k108 mdServer pcServer piServer peServer := (Br.pair Br.int (Br.pair Br.int (Br.pair Br.bool (Br.pair Br.bool (Br.pair (Br.slice Br.int 3 (fun _ => rfl)) ((Br.slice Br.int 3 (fun _ => rfl)))))))).iso (fun x : S108 => (x.f0, x.f1, x.f2, x.f3, x.f4, x.f5))
theorem mdServer_open {g o : Nat} {hs : List ((Nat × Nat) × Value)} {ps : List Pl} (h : mdServer.Sh g o hs ps) : ∃ v4 h4 b4 v5 h5 b5, Md.int.Row v4 h4 b4 ∧ Md.int.Row v5 h5 b5 ∧ hs = (((g, o + 4), v4) :: h4) ++ (((g, o + 5), v5) :: h5) ∧ ps = [(g, o, false)] ++ [(g, o + 1, false)] ++ [(g, o + 2, true)] ++ [(g, o + 3, true)] ++ b4 ++ b5 := by
  obtain ⟨_, _, _, _, ⟨rfl, rfl⟩, ⟨_, _, _, _, ⟨rfl, rfl⟩, ⟨_, _, _, _, ⟨rfl, rfl⟩, ⟨_, _, _, _, ⟨rfl, rfl⟩, ⟨_, b4, _, b5, ⟨v4, h4, r4, rfl⟩, ⟨v5, h5, r5, rfl⟩, rfl, rfl⟩, rfl, rfl⟩, rfl, rfl⟩, rfl, rfl⟩, rfl, rfl⟩ := h
  exact ⟨v4, h4, b4, v5, h5, b5, r4, r5, by simp [mdServer, Md.pair, Md.int, Md.bool, Md.slice, Nat.add_assoc], by simp [mdServer, Md.pair, Md.int, Md.bool, Md.slice, Nat.add_assoc]⟩
set_option maxHeartbeats 4000000 in
set_option maxRecDepth 100000 in
theorem markIntS_ok (v : Value) (hs : List ((Nat × Nat) × Value)) (ps : List Pl) (k : Int) (w : World) (hr : Md.Row (Md.int) v hs ps) (hp : Pt w hs ps) (h0 : 0 ≤ k) (h1 : k + (ps.length : Int) ≤ 1000000000) :
    Calls Try.prog 54 #[v, .int .i64 k] w fun e w' => e = .returned (.int .i64 (k + (ps.length : Int))) ∧ Wr w w' ps k := by
  obtain ⟨A, n, c, rfl, hnc, hmax, hN0⟩ := hr
  have HN : Aside0 (Md.Nr (Md.int) A 0 n hs ps) := ⟨hN0⟩
  have HG := Aside0.mk (Sg.start hp k)
  clear hN0 hp hnc
  go_enter Try.func54, Try.ntmps54
  go_wp2
  go_loopg [1, 5] n (fun kq v1 v5 w' => ∃ (j : Nat) (kk : Int) (pre : List Pl) (hs1 : List ((Nat × Nat) × Value)) (ps1 : List Pl), v1 = .int .i64 kk ∧ v5 = .int .i64 (j : Int) ∧ Aside0 (j + kq = n) ∧ Aside0 (ps = pre ++ ps1) ∧ Aside0 (Md.Nr (Md.int) A j kq hs1 ps1) ∧ Aside0 (Sg w k w' pre hs1 ps1 kk))
  case atStart => exact ⟨0, k, [], hs, ps, rfl, rfl, ⟨by omega⟩, ⟨rfl⟩, HN, HG⟩
  case round =>
    clear HN HG
    obtain ⟨j, kk, pre, hs1, ps1, rfl, rfl, HJ, HS, HN, HG⟩ := hrel
    cases gk with
    | zero =>
      have hd : decide ((j : Int) < (n : Int)) = false := decide_eq_false (by have := HJ.out; omega)
      have hd2 : decide (j < n) = false := decide_eq_false (by have := HJ.out; omega)
      go_wp2
      go_ret
      have e0 := Md.Nr_nil HN.out
      have e1 := HS.out
      subst e0
      rw [List.append_nil] at e1
      subst e1
      exact ⟨by rw [HG.out.ek]; rfl, HG.out.wr⟩
    | succ m =>
      have hd : decide ((j : Int) < (n : Int)) = true := decide_eq_true (by have := HJ.out; omega)
      have hd2 : decide (j < n) = true := decide_eq_true (by have := HJ.out; omega)
      have hlt : j < n := by have := HJ.out; omega
      have hlt2 : (j : Int) < (n : Int) := by omega
      obtain ⟨g, rfl, s1, a1, s2, a2, hsh, hn2, rfl, rfl⟩ := Md.Nr_cons HN.out
      clear HN
      have HN2 := Aside0.mk hn2
      clear hn2
      obtain ⟨rfl, rfl⟩ := (show (Md.int).Sh g (j * 1) s1 a1 from hsh)
      simp only [Nat.mul_one] at HG HS
      have hk0 : 0 ≤ kk := by have := HG.out.ek; omega
      have hk1 : kk ≤ 1000000000 := by have := HG.out.ek; have := HS.out; subst this; simp only [List.length_append] at h1; omega
      obtain ⟨u0_0, x0_0, f0_0⟩ := HG.out.cell (b := g) (o := j) (t := false) (by simp)
      go_wp2
      go_roundg m
      case measure => omega
      case rel =>
        have HZ := (Sg.put HG.out (b := g) (o := j) (t := false) (by simp) rfl).narrow (h1 := s2) (a1 := a2) (by intro q_ hq_; simp [hq_]) (by intro q_ hq_; simp [hq_])
        exact ⟨j + 1, _, _, s2, a2, rfl, by go_num, ⟨by have := HJ.out; omega⟩, ⟨by rw [HS.out]; simp⟩, HN2, ⟨HZ⟩⟩
set_option maxHeartbeats 4000000 in
set_option maxRecDepth 100000 in
theorem markServerS_ok (v : Value) (hs : List ((Nat × Nat) × Value)) (ps : List Pl) (k : Int) (w : World) (hr : Md.Row (mdServer) v hs ps) (hp : Pt w hs ps) (h0 : 0 ≤ k) (h1 : k + (ps.length : Int) ≤ 1000000000) :
    Calls Try.prog 104 #[v, .int .i64 k] w fun e w' => e = .returned (.int .i64 (k + (ps.length : Int))) ∧ Wr w w' ps k := by
  obtain ⟨A, n, c, rfl, hnc, hmax, hN0⟩ := hr
  have HN : Aside0 (Md.Nr (mdServer) A 0 n hs ps) := ⟨hN0⟩
  have HG := Aside0.mk (Sg.start hp k)
  clear hN0 hp hnc
  go_enter Try.func104, Try.ntmps104
  go_wp2
  go_loopg [1, 5] n (fun kq v1 v5 w' => ∃ (j : Nat) (kk : Int) (pre : List Pl) (hs1 : List ((Nat × Nat) × Value)) (ps1 : List Pl), v1 = .int .i64 kk ∧ v5 = .int .i64 (j : Int) ∧ Aside0 (j + kq = n) ∧ Aside0 (ps = pre ++ ps1) ∧ Aside0 (Md.Nr (mdServer) A j kq hs1 ps1) ∧ Aside0 (Sg w k w' pre hs1 ps1 kk))
  case atStart => exact ⟨0, k, [], hs, ps, rfl, rfl, ⟨by omega⟩, ⟨rfl⟩, HN, HG⟩
  case round =>
    clear HN HG
    obtain ⟨j, kk, pre, hs1, ps1, rfl, rfl, HJ, HS, HN, HG⟩ := hrel
    cases gk with
    | zero =>
      have hd : decide ((j : Int) < (n : Int)) = false := decide_eq_false (by have := HJ.out; omega)
      have hd2 : decide (j < n) = false := decide_eq_false (by have := HJ.out; omega)
      go_wp2
      go_ret
      have e0 := Md.Nr_nil HN.out
      have e1 := HS.out
      subst e0
      rw [List.append_nil] at e1
      subst e1
      exact ⟨by rw [HG.out.ek]; rfl, HG.out.wr⟩
    | succ m =>
      have hd : decide ((j : Int) < (n : Int)) = true := decide_eq_true (by have := HJ.out; omega)
      have hd2 : decide (j < n) = true := decide_eq_true (by have := HJ.out; omega)
      have hlt : j < n := by have := HJ.out; omega
      have hlt2 : (j : Int) < (n : Int) := by omega
      obtain ⟨g, rfl, s1, a1, s2, a2, hsh, hn2, rfl, rfl⟩ := Md.Nr_cons HN.out
      clear HN
      have HN2 := Aside0.mk hn2
      clear hn2
      obtain ⟨v4, h4, b4, v5, h5, b5, r4, r5, rfl, rfl⟩ := mdServer_open (show mdServer.Sh g (j * 6) s1 a1 from hsh)
      obtain ⟨A4, n4, c4, rfl⟩ := Md.Row_slice r4
      have R4 := Aside0.mk r4
      clear r4
      obtain ⟨A5, n5, c5, rfl⟩ := Md.Row_slice r5
      have R5 := Aside0.mk r5
      clear r5
      have hk0 : 0 ≤ kk := by have := HG.out.ek; omega
      have hk1 : kk ≤ 1000000000 := by have := HG.out.ek; have := HS.out; subst this; simp only [List.length_append] at h1; omega
      obtain ⟨u0_0, x0_0, f0_0⟩ := HG.out.cell (b := g) (o := j * 6) (t := false) (by simp)
      obtain ⟨u0_1, x0_1, f0_1⟩ := HG.out.cell (b := g) (o := j * 6 + 1) (t := false) (by simp)
      obtain ⟨u0_2, x0_2, f0_2⟩ := HG.out.cell (b := g) (o := j * 6 + 2) (t := true) (by simp)
      obtain ⟨u0_3, x0_3, f0_3⟩ := HG.out.cell (b := g) (o := j * 6 + 3) (t := true) (by simp)
      have x0_4 : wr.cell? ⟨g, j * 6 + 4, none⟩ = some (.slice A4 n4 c4) := HG.out.head (by simp)
      have x0_5 : wr.cell? ⟨g, j * 6 + 5, none⟩ = some (.slice A5 n5 c5) := HG.out.head (by simp)
      go_wp2_with fail
      have HG1 := Aside0.mk (Sg.put (Sg.put (Sg.put (Sg.put HG.out (b := g) (o := j * 6) (t := false) (by simp) rfl) (b := g) (o := j * 6 + 1) (t := false) (by simp) rfl) (b := g) (o := j * 6 + 2) (t := true) (by simp) rfl) (b := g) (o := j * 6 + 3) (t := true) (by simp) rfl)
      (try simp only [List.append_assoc, List.singleton_append, List.cons_append, List.nil_append] at HG1)
      refine (markIntS_ok _ h4 b4 _ _ R4.out (HG1.out.sub (by intro q_ hq_; simp [hq_]) (by intro q_ hq_; simp [hq_])) (by omega) (by have := HG1.out.ek; have := HS.out; subst this; simp only [List.length_append, List.length_cons, List.length_nil] at *; omega)).mono ?_
      rintro e w1 ⟨rfl, hw⟩
      have HC1 := Aside0.mk (HG1.out.call hw (by intro q_ hq_; simp [hq_]))
      obtain ⟨kq1, hkq⟩ : ∃ kq_ : Int, kq_ = kk + 1 + 1 + 1 + 1 + (b4.length : Int) := ⟨_, rfl⟩
      rw [← hkq] at HC1 ⊢
      have hq0_1 : 0 ≤ kq1 := by omega
      have hq1_1 : kq1 ≤ 1000000000 := by have := HC1.out.ek; have := HS.out; subst this; simp only [List.length_append, List.length_cons, List.length_nil] at *; omega
      clear hkq hw
      clear x0_0 f0_0 x0_1 f0_1 x0_2 f0_2 x0_3 f0_3 x0_4 x0_5
      obtain ⟨u1_0, x1_0, f1_0⟩ := HC1.out.cell (b := g) (o := j * 6) (t := false) (by simp)
      obtain ⟨u1_1, x1_1, f1_1⟩ := HC1.out.cell (b := g) (o := j * 6 + 1) (t := false) (by simp)
      obtain ⟨u1_2, x1_2, f1_2⟩ := HC1.out.cell (b := g) (o := j * 6 + 2) (t := true) (by simp)
      obtain ⟨u1_3, x1_3, f1_3⟩ := HC1.out.cell (b := g) (o := j * 6 + 3) (t := true) (by simp)
      have x1_4 : w1.cell? ⟨g, j * 6 + 4, none⟩ = some (.slice A4 n4 c4) := HC1.out.head (by simp)
      have x1_5 : w1.cell? ⟨g, j * 6 + 5, none⟩ = some (.slice A5 n5 c5) := HC1.out.head (by simp)
      go_wp2_with fail
      have HG2 := Aside0.mk HC1.out
      refine (markIntS_ok _ h5 b5 _ _ R5.out (HG2.out.sub (by intro q_ hq_; simp [hq_]) (by intro q_ hq_; simp [hq_])) (by omega) (by have := HG2.out.ek; have := HS.out; subst this; simp only [List.length_append, List.length_cons, List.length_nil] at *; omega)).mono ?_
      rintro e w2 ⟨rfl, hw⟩
      have HC2 := Aside0.mk (HG2.out.call hw (by intro q_ hq_; simp [hq_]))
      obtain ⟨kq2, hkq⟩ : ∃ kq_ : Int, kq_ = kq1 + (b5.length : Int) := ⟨_, rfl⟩
      rw [← hkq] at HC2 ⊢
      have hq0_2 : 0 ≤ kq2 := by omega
      have hq1_2 : kq2 ≤ 1000000000 := by have := HC2.out.ek; have := HS.out; subst this; simp only [List.length_append, List.length_cons, List.length_nil] at *; omega
      clear hkq hw
      clear x1_0 f1_0 x1_1 f1_1 x1_2 f1_2 x1_3 f1_3 x1_4 x1_5
      obtain ⟨u2_0, x2_0, f2_0⟩ := HC2.out.cell (b := g) (o := j * 6) (t := false) (by simp)
      obtain ⟨u2_1, x2_1, f2_1⟩ := HC2.out.cell (b := g) (o := j * 6 + 1) (t := false) (by simp)
      obtain ⟨u2_2, x2_2, f2_2⟩ := HC2.out.cell (b := g) (o := j * 6 + 2) (t := true) (by simp)
      obtain ⟨u2_3, x2_3, f2_3⟩ := HC2.out.cell (b := g) (o := j * 6 + 3) (t := true) (by simp)
      have x2_4 : w2.cell? ⟨g, j * 6 + 4, none⟩ = some (.slice A4 n4 c4) := HC2.out.head (by simp)
      have x2_5 : w2.cell? ⟨g, j * 6 + 5, none⟩ = some (.slice A5 n5 c5) := HC2.out.head (by simp)
      go_wp2
      go_roundg m
      case measure => omega
      case rel =>
        have HZ := HC2.out.narrow (h1 := s2) (a1 := a2) (by intro q_ hq_; simp [hq_]) (by intro q_ hq_; simp [hq_])
        exact ⟨j + 1, _, _, s2, a2, rfl, by go_num, ⟨by have := HJ.out; omega⟩, ⟨by rw [HS.out]; simp⟩, HN2, ⟨HZ⟩⟩
def mdLetter : Md := Md.pair Md.int (Md.pair Md.int (Md.pair Md.int (Md.pair Md.bool (Md.pair Md.int (Md.pair Md.int (Md.bool))))))
def pcLetter (x : S111) : Nat := 1 + (1 + (1 + (1 + (1 + (1 + (1))))))
def piLetter (x : S111) : Nat := 0 + (0 + (0 + (0 + (0 + (0 + (0))))))
def peLetter (x : S111) : Prop := True ∧ (True ∧ (True ∧ (True ∧ (True ∧ (True ∧ (True) ∧ (0 = 0 ∨ 0 = 0)) ∧ (0 = 0 ∨ 0 + (0) = 0)) ∧ (0 = 0 ∨ 0 + (0 + (0)) = 0)) ∧ (0 = 0 ∨ 0 + (0 + (0 + (0))) = 0)) ∧ (0 = 0 ∨ 0 + (0 + (0 + (0 + (0)))) = 0)) ∧ (0 = 0 ∨ 0 + (0 + (0 + (0 + (0 + (0))))) = 0)
theorem brLetter : Br k111 mdLetter pcLetter piLetter peLetter := (Br.pair Br.int (Br.pair Br.int (Br.pair Br.int (Br.pair Br.bool (Br.pair Br.int (Br.pair Br.int (Br.bool))))))).iso (fun x : S111 => (x.f0, x.f1, x.f2, x.f3, x.f4, x.f5, x.f6))
theorem mdLetter_open {g o : Nat} {hs : List ((Nat × Nat) × Value)} {ps : List Pl} (h : mdLetter.Sh g o hs ps) : hs = [] ∧ ps = [(g, o, false)] ++ [(g, o + 1, false)] ++ [(g, o + 2, false)] ++ [(g, o + 3, true)] ++ [(g, o + 4, false)] ++ [(g, o + 5, false)] ++ [(g, o + 6, true)] := by
  obtain ⟨_, _, _, _, ⟨rfl, rfl⟩, ⟨_, _, _, _, ⟨rfl, rfl⟩, ⟨_, _, _, _, ⟨rfl, rfl⟩, ⟨_, _, _, _, ⟨rfl, rfl⟩, ⟨_, _, _, _, ⟨rfl, rfl⟩, ⟨_, _, _, _, ⟨rfl, rfl⟩, ⟨rfl, rfl⟩, rfl, rfl⟩, rfl, rfl⟩, rfl, rfl⟩, rfl, rfl⟩, rfl, rfl⟩, rfl, rfl⟩ := h
  exact ⟨by simp [mdLetter, Md.pair, Md.int, Md.bool, Md.slice, Nat.add_assoc], by simp [mdLetter, Md.pair, Md.int, Md.bool, Md.slice, Nat.add_assoc]⟩
set_option maxHeartbeats 4000000 in
set_option maxRecDepth 100000 in
theorem markLetterS_ok (v : Value) (hs : List ((Nat × Nat) × Value)) (ps : List Pl) (k : Int) (w : World) (hr : Md.Row (mdLetter) v hs ps) (hp : Pt w hs ps) (h0 : 0 ≤ k) (h1 : k + (ps.length : Int) ≤ 1000000000) :
    Calls Try.prog 105 #[v, .int .i64 k] w fun e w' => e = .returned (.int .i64 (k + (ps.length : Int))) ∧ Wr w w' ps k := by
  obtain ⟨A, n, c, rfl, hnc, hmax, hN0⟩ := hr
  have HN : Aside0 (Md.Nr (mdLetter) A 0 n hs ps) := ⟨hN0⟩
  have HG := Aside0.mk (Sg.start hp k)
  clear hN0 hp hnc
  go_enter Try.func105, Try.ntmps105
  go_wp2
  go_loopg [1, 5] n (fun kq v1 v5 w' => ∃ (j : Nat) (kk : Int) (pre : List Pl) (hs1 : List ((Nat × Nat) × Value)) (ps1 : List Pl), v1 = .int .i64 kk ∧ v5 = .int .i64 (j : Int) ∧ Aside0 (j + kq = n) ∧ Aside0 (ps = pre ++ ps1) ∧ Aside0 (Md.Nr (mdLetter) A j kq hs1 ps1) ∧ Aside0 (Sg w k w' pre hs1 ps1 kk))
  case atStart => exact ⟨0, k, [], hs, ps, rfl, rfl, ⟨by omega⟩, ⟨rfl⟩, HN, HG⟩
  case round =>
    clear HN HG
    obtain ⟨j, kk, pre, hs1, ps1, rfl, rfl, HJ, HS, HN, HG⟩ := hrel
    cases gk with
    | zero =>
      have hd : decide ((j : Int) < (n : Int)) = false := decide_eq_false (by have := HJ.out; omega)
      have hd2 : decide (j < n) = false := decide_eq_false (by have := HJ.out; omega)
      go_wp2
      go_ret
      have e0 := Md.Nr_nil HN.out
      have e1 := HS.out
      subst e0
      rw [List.append_nil] at e1
      subst e1
      exact ⟨by rw [HG.out.ek]; rfl, HG.out.wr⟩
    | succ m =>
      have hd : decide ((j : Int) < (n : Int)) = true := decide_eq_true (by have := HJ.out; omega)
      have hd2 : decide (j < n) = true := decide_eq_true (by have := HJ.out; omega)
      have hlt : j < n := by have := HJ.out; omega
      have hlt2 : (j : Int) < (n : Int) := by omega
      obtain ⟨g, rfl, s1, a1, s2, a2, hsh, hn2, rfl, rfl⟩ := Md.Nr_cons HN.out
      clear HN
      have HN2 := Aside0.mk hn2
      clear hn2
      obtain ⟨rfl, rfl⟩ := mdLetter_open (show mdLetter.Sh g (j * 7) s1 a1 from hsh)
      have hk0 : 0 ≤ kk := by have := HG.out.ek; omega
      have hk1 : kk ≤ 1000000000 := by have := HG.out.ek; have := HS.out; subst this; simp only [List.length_append] at h1; omega
      obtain ⟨u0_0, x0_0, f0_0⟩ := HG.out.cell (b := g) (o := j * 7) (t := false) (by simp)
      obtain ⟨u0_1, x0_1, f0_1⟩ := HG.out.cell (b := g) (o := j * 7 + 1) (t := false) (by simp)
      obtain ⟨u0_2, x0_2, f0_2⟩ := HG.out.cell (b := g) (o := j * 7 + 2) (t := false) (by simp)
      obtain ⟨u0_3, x0_3, f0_3⟩ := HG.out.cell (b := g) (o := j * 7 + 3) (t := true) (by simp)
      obtain ⟨u0_4, x0_4, f0_4⟩ := HG.out.cell (b := g) (o := j * 7 + 4) (t := false) (by simp)
      obtain ⟨u0_5, x0_5, f0_5⟩ := HG.out.cell (b := g) (o := j * 7 + 5) (t := false) (by simp)
      obtain ⟨u0_6, x0_6, f0_6⟩ := HG.out.cell (b := g) (o := j * 7 + 6) (t := true) (by simp)
      go_wp2
      go_roundg m
      case measure => omega
      case rel =>
        have HZ := (Sg.put (Sg.put (Sg.put (Sg.put (Sg.put (Sg.put (Sg.put HG.out (b := g) (o := j * 7) (t := false) (by simp) rfl) (b := g) (o := j * 7 + 1) (t := false) (by simp) rfl) (b := g) (o := j * 7 + 2) (t := false) (by simp) rfl) (b := g) (o := j * 7 + 3) (t := true) (by simp) rfl) (b := g) (o := j * 7 + 4) (t := false) (by simp) rfl) (b := g) (o := j * 7 + 5) (t := false) (by simp) rfl) (b := g) (o := j * 7 + 6) (t := true) (by simp) rfl).narrow (h1 := s2) (a1 := a2) (by intro q_ hq_; simp [hq_]) (by intro q_ hq_; simp [hq_])
        exact ⟨j + 1, _, _, s2, a2, rfl, by go_num, ⟨by have := HJ.out; omega⟩, ⟨by rw [HS.out]; simp⟩, HN2, ⟨HZ⟩⟩
def mdVote : Md := Md.pair Md.int (Md.int)
def pcVote (x : S114) : Nat := 1 + (1)
def piVote (x : S114) : Nat := 0 + (0)
def peVote (x : S114) : Prop := True ∧ (True) ∧ (0 = 0 ∨ 0 = 0)
theorem brVote : Br k114 mdVote pcVote piVote peVote := (Br.pair Br.int (Br.int)).iso (fun x : S114 => (x.f0, x.f1))
theorem mdVote_open {g o : Nat} {hs : List ((Nat × Nat) × Value)} {ps : List Pl} (h : mdVote.Sh g o hs ps) : hs = [] ∧ ps = [(g, o, false)] ++ [(g, o + 1, false)] := by
  obtain ⟨_, _, _, _, ⟨rfl, rfl⟩, ⟨rfl, rfl⟩, rfl, rfl⟩ := h
  exact ⟨by simp [mdVote, Md.pair, Md.int, Md.bool, Md.slice, Nat.add_assoc], by simp [mdVote, Md.pair, Md.int, Md.bool, Md.slice, Nat.add_assoc]⟩
set_option maxHeartbeats 4000000 in
set_option maxRecDepth 100000 in
theorem markVoteS_ok (v : Value) (hs : List ((Nat × Nat) × Value)) (ps : List Pl) (k : Int) (w : World) (hr : Md.Row (mdVote) v hs ps) (hp : Pt w hs ps) (h0 : 0 ≤ k) (h1 : k + (ps.length : Int) ≤ 1000000000) :
    Calls Try.prog 106 #[v, .int .i64 k] w fun e w' => e = .returned (.int .i64 (k + (ps.length : Int))) ∧ Wr w w' ps k := by
  obtain ⟨A, n, c, rfl, hnc, hmax, hN0⟩ := hr
  have HN : Aside0 (Md.Nr (mdVote) A 0 n hs ps) := ⟨hN0⟩
  have HG := Aside0.mk (Sg.start hp k)
  clear hN0 hp hnc
  go_enter Try.func106, Try.ntmps106
  go_wp2
  go_loopg [1, 5] n (fun kq v1 v5 w' => ∃ (j : Nat) (kk : Int) (pre : List Pl) (hs1 : List ((Nat × Nat) × Value)) (ps1 : List Pl), v1 = .int .i64 kk ∧ v5 = .int .i64 (j : Int) ∧ Aside0 (j + kq = n) ∧ Aside0 (ps = pre ++ ps1) ∧ Aside0 (Md.Nr (mdVote) A j kq hs1 ps1) ∧ Aside0 (Sg w k w' pre hs1 ps1 kk))
  case atStart => exact ⟨0, k, [], hs, ps, rfl, rfl, ⟨by omega⟩, ⟨rfl⟩, HN, HG⟩
  case round =>
    clear HN HG
    obtain ⟨j, kk, pre, hs1, ps1, rfl, rfl, HJ, HS, HN, HG⟩ := hrel
    cases gk with
    | zero =>
      have hd : decide ((j : Int) < (n : Int)) = false := decide_eq_false (by have := HJ.out; omega)
      have hd2 : decide (j < n) = false := decide_eq_false (by have := HJ.out; omega)
      go_wp2
      go_ret
      have e0 := Md.Nr_nil HN.out
      have e1 := HS.out
      subst e0
      rw [List.append_nil] at e1
      subst e1
      exact ⟨by rw [HG.out.ek]; rfl, HG.out.wr⟩
    | succ m =>
      have hd : decide ((j : Int) < (n : Int)) = true := decide_eq_true (by have := HJ.out; omega)
      have hd2 : decide (j < n) = true := decide_eq_true (by have := HJ.out; omega)
      have hlt : j < n := by have := HJ.out; omega
      have hlt2 : (j : Int) < (n : Int) := by omega
      obtain ⟨g, rfl, s1, a1, s2, a2, hsh, hn2, rfl, rfl⟩ := Md.Nr_cons HN.out
      clear HN
      have HN2 := Aside0.mk hn2
      clear hn2
      obtain ⟨rfl, rfl⟩ := mdVote_open (show mdVote.Sh g (j * 2) s1 a1 from hsh)
      have hk0 : 0 ≤ kk := by have := HG.out.ek; omega
      have hk1 : kk ≤ 1000000000 := by have := HG.out.ek; have := HS.out; subst this; simp only [List.length_append] at h1; omega
      obtain ⟨u0_0, x0_0, f0_0⟩ := HG.out.cell (b := g) (o := j * 2) (t := false) (by simp)
      obtain ⟨u0_1, x0_1, f0_1⟩ := HG.out.cell (b := g) (o := j * 2 + 1) (t := false) (by simp)
      go_wp2
      go_roundg m
      case measure => omega
      case rel =>
        have HZ := (Sg.put (Sg.put HG.out (b := g) (o := j * 2) (t := false) (by simp) rfl) (b := g) (o := j * 2 + 1) (t := false) (by simp) rfl).narrow (h1 := s2) (a1 := a2) (by intro q_ hq_; simp [hq_]) (by intro q_ hq_; simp [hq_])
        exact ⟨j + 1, _, _, s2, a2, rfl, by go_num, ⟨by have := HJ.out; omega⟩, ⟨by rw [HS.out]; simp⟩, HN2, ⟨HZ⟩⟩
set_option maxHeartbeats 4000000 in
set_option maxRecDepth 100000 in
theorem markElection_ok (v0 : Value) (s0 : List ((Nat × Nat) × Value)) (b0 : List Pl) (v1 : Value) (s1 : List ((Nat × Nat) × Value)) (b1 : List Pl) (v2 : Value) (s2 : List ((Nat × Nat) × Value)) (b2 : List Pl) (k : Int) (w : World) (r0 : Md.Row (mdServer) v0 s0 b0) (r1 : Md.Row (mdLetter) v1 s1 b1) (r2 : Md.Row (mdVote) v2 s2 b2) (p0 : Pt w s0 b0) (p1 : Pt w s1 b1) (p2 : Pt w s2 b2) (h0 : 0 ≤ k) (h1 : k + ((b0 ++ b1 ++ b2).length : Int) ≤ 1000000000) :
    Calls Try.prog 48 #[.agg #[v0, v1, v2], .int .i64 k] w fun e w' => e = .returned (.int .i64 (k + ((b0 ++ b1 ++ b2).length : Int))) ∧ Wr w w' (b0 ++ b1 ++ b2) k := by
  obtain ⟨A0, n0, c0, rfl⟩ := Md.Row_slice r0
  have R0 := Aside0.mk r0
  clear r0
  obtain ⟨A1, n1, c1, rfl⟩ := Md.Row_slice r1
  have R1 := Aside0.mk r1
  clear r1
  obtain ⟨A2, n2, c2, rfl⟩ := Md.Row_slice r2
  have R2 := Aside0.mk r2
  clear r2
  have hb := below_alloc (Below.refl w.heap.size w) (.cells #[.slice A0 n0 c0, .slice A1 n1 c1, .slice A2 n2 c2] 54)
  have hx : Pt (w.alloc (.cells #[.slice A0 n0 c0, .slice A1 n1 c1, .slice A2 n2 c2] 54)) ([((w.heap.size, 0), Value.slice A0 n0 c0), ((w.heap.size, 1), Value.slice A1 n1 c1), ((w.heap.size, 2), Value.slice A2 n2 c2)] ++ (s0 ++ (s1 ++ (s2)))) (b0 ++ (b1 ++ (b2))) := ⟨fun q hq => (List.mem_append.1 hq).elim (fun hq => ?_) (((p0.app (p1.app p2)).below hb).h q), ((p0.app (p1.app p2)).below hb).a⟩
  rotate_left
  · simp only [List.mem_cons, List.not_mem_nil, or_false] at hq
    rcases hq with rfl | rfl | rfl
    all_goals exact ⟨by rw [World.cell?_alloc_new]; rfl, _, _, _, rfl⟩
  have HG0 := Aside0.mk (Sg.start hx k)
  have HB := Aside0.mk hb
  clear hx hb p0 p1 p2
  go_enter Try.func48, Try.ntmps48
  try simp only [List.append_assoc] at h1
  try simp only [List.append_assoc]
  go_wp2_with fail
  refine (markServerS_ok _ s0 b0 _ _ R0.out (HG0.out.sub (by intro q_ hq_; simp [hq_]) (by intro q_ hq_; simp [hq_])) (by omega) (by have := HG0.out.ek; simp only [List.length_append, List.length_cons, List.length_nil] at *; omega)).mono ?_
  rintro e w1 ⟨rfl, hw⟩
  have HG1 := Aside0.mk (HG0.out.call hw (by intro q_ hq_; simp [hq_]))
  obtain ⟨kq1, hkq⟩ : ∃ kq_ : Int, kq_ = k + (b0.length : Int) := ⟨_, rfl⟩
  rw [← hkq] at HG1 ⊢
  have hq0_1 : 0 ≤ kq1 := by omega
  have hq1_1 : kq1 ≤ 1000000000 := by have := HG1.out.ek; simp only [List.length_append, List.length_cons, List.length_nil] at *; omega
  clear hkq hw
  have x1_1 : w1.cell? ⟨w.heap.size, 1, none⟩ = some (.slice A1 n1 c1) := HG1.out.head (by simp)
  have x1_2 : w1.cell? ⟨w.heap.size, 2, none⟩ = some (.slice A2 n2 c2) := HG1.out.head (by simp)
  go_wp2_with fail
  refine (markLetterS_ok _ s1 b1 _ _ R1.out (HG1.out.sub (by intro q_ hq_; simp [hq_]) (by intro q_ hq_; simp [hq_])) (by omega) (by have := HG1.out.ek; simp only [List.length_append, List.length_cons, List.length_nil] at *; omega)).mono ?_
  rintro e w2 ⟨rfl, hw⟩
  have HG2 := Aside0.mk (HG1.out.call hw (by intro q_ hq_; simp [hq_]))
  obtain ⟨kq2, hkq⟩ : ∃ kq_ : Int, kq_ = kq1 + (b1.length : Int) := ⟨_, rfl⟩
  rw [← hkq] at HG2 ⊢
  have hq0_2 : 0 ≤ kq2 := by omega
  have hq1_2 : kq2 ≤ 1000000000 := by have := HG2.out.ek; simp only [List.length_append, List.length_cons, List.length_nil] at *; omega
  clear hkq hw
  clear x1_1 x1_2
  have x2_2 : w2.cell? ⟨w.heap.size, 2, none⟩ = some (.slice A2 n2 c2) := HG2.out.head (by simp)
  go_wp2_with fail
  refine (markVoteS_ok _ s2 b2 _ _ R2.out (HG2.out.sub (by intro q_ hq_; simp [hq_]) (by intro q_ hq_; simp [hq_])) (by omega) (by have := HG2.out.ek; simp only [List.length_append, List.length_cons, List.length_nil] at *; omega)).mono ?_
  rintro e w3 ⟨rfl, hw⟩
  have HG3 := Aside0.mk (HG2.out.call hw (by intro q_ hq_; simp [hq_]))
  obtain ⟨kq3, hkq⟩ : ∃ kq_ : Int, kq_ = kq2 + (b2.length : Int) := ⟨_, rfl⟩
  rw [← hkq] at HG3 ⊢
  have hq0_3 : 0 ≤ kq3 := by omega
  have hq1_3 : kq3 ≤ 1000000000 := by have := HG3.out.ek; simp only [List.length_append, List.length_cons, List.length_nil] at *; omega
  clear hkq hw
  clear x2_2
  go_wp2
  go_ret
  have HZ := HG3.out
  (try simp only [List.nil_append, List.append_assoc] at HZ)
  exact ⟨by rw [HZ.ek]; rfl, Wr.after HB.out HZ.wr⟩
set_option maxHeartbeats 4000000 in
set_option maxRecDepth 100000 in
theorem heldIntS_ok (v : Value) (hs : List ((Nat × Nat) × Value)) (ps : List Pl) (k : Int) (w : World) (hr : Md.Row (Md.int) v hs ps) (hp : Pt w hs ps) (hh : Hs w ps k) (h0 : 0 ≤ k) (h1 : k + (ps.length : Int) ≤ 1000000000) :
    Calls Try.prog 55 #[v, .int .i64 k] w fun e w' => e = .returned (.int .i64 (k + (ps.length : Int))) ∧ Below w.heap.size w w' := by
  obtain ⟨A, n, c, rfl, hnc, hmax, hN0⟩ := hr
  have HN : Aside0 (Md.Nr (Md.int) A 0 n hs ps) := ⟨hN0⟩
  have HG := Aside0.mk (Sq.start hp hh)
  clear hN0 hp hnc hh
  go_enter Try.func55, Try.ntmps55
  go_wp2
  go_loopg [1, 5] n (fun kq v1 v5 w' => ∃ (j : Nat) (kk : Int) (pre : List Pl) (hs1 : List ((Nat × Nat) × Value)) (ps1 : List Pl), v1 = .int .i64 kk ∧ v5 = .int .i64 (j : Int) ∧ Aside0 (j + kq = n) ∧ Aside0 (ps = pre ++ ps1) ∧ Aside0 (Md.Nr (Md.int) A j kq hs1 ps1) ∧ Aside0 (Sq w k w' pre hs1 ps1 kk))
  case atStart => exact ⟨0, k, [], hs, ps, rfl, rfl, ⟨by omega⟩, ⟨rfl⟩, HN, HG⟩
  case round =>
    clear HN HG
    obtain ⟨j, kk, pre, hs1, ps1, rfl, rfl, HJ, HS, HN, HG⟩ := hrel
    cases gk with
    | zero =>
      have hd : decide ((j : Int) < (n : Int)) = false := decide_eq_false (by have := HJ.out; omega)
      have hd2 : decide (j < n) = false := decide_eq_false (by have := HJ.out; omega)
      go_wp2
      go_ret
      have e0 := Md.Nr_nil HN.out
      have e1 := HS.out
      subst e0
      rw [List.append_nil] at e1
      subst e1
      exact ⟨by rw [HG.out.ek]; rfl, HG.out.bl⟩
    | succ m =>
      have hd : decide ((j : Int) < (n : Int)) = true := decide_eq_true (by have := HJ.out; omega)
      have hd2 : decide (j < n) = true := decide_eq_true (by have := HJ.out; omega)
      have hlt : j < n := by have := HJ.out; omega
      have hlt2 : (j : Int) < (n : Int) := by omega
      obtain ⟨g, rfl, s1, a1, s2, a2, hsh, hn2, rfl, rfl⟩ := Md.Nr_cons HN.out
      clear HN
      have HN2 := Aside0.mk hn2
      clear hn2
      obtain ⟨rfl, rfl⟩ := (show (Md.int).Sh g (j * 1) s1 a1 from hsh)
      simp only [Nat.mul_one] at HG HS
      have hk0 : 0 ≤ kk := by have := HG.out.ek; omega
      have hk1 : kk ≤ 1000000000 := by have := HG.out.ek; have := HS.out; subst this; simp only [List.length_append] at h1; omega
      simp only [List.append_assoc, List.singleton_append, List.cons_append, List.nil_append] at HG
      have HG0 := HG
      clear HG
      have x0_0 : wr.cell? ⟨g, j, none⟩ = some (.int .i64 kk) := HG0.out.cell
      have HG1 := Aside0.mk HG0.out.tail
      clear HG0
      go_wp2
      go_roundg m
      case measure => omega
      case rel =>
        have HZ := HG1.out.narrow (h1 := s2) (by intro q_ hq_; simp [hq_])
        exact ⟨j + 1, _, _, s2, a2, rfl, by go_num, ⟨by have := HJ.out; omega⟩, ⟨by rw [HS.out]; simp⟩, HN2, ⟨HZ⟩⟩
set_option maxHeartbeats 4000000 in
set_option maxRecDepth 100000 in
theorem heldServerS_ok (v : Value) (hs : List ((Nat × Nat) × Value)) (ps : List Pl) (k : Int) (w : World) (hr : Md.Row (mdServer) v hs ps) (hp : Pt w hs ps) (hh : Hs w ps k) (h0 : 0 ≤ k) (h1 : k + (ps.length : Int) ≤ 1000000000) :
    Calls Try.prog 107 #[v, .int .i64 k] w fun e w' => e = .returned (.int .i64 (k + (ps.length : Int))) ∧ Below w.heap.size w w' := by
  obtain ⟨A, n, c, rfl, hnc, hmax, hN0⟩ := hr
  have HN : Aside0 (Md.Nr (mdServer) A 0 n hs ps) := ⟨hN0⟩
  have HG := Aside0.mk (Sq.start hp hh)
  clear hN0 hp hnc hh
  go_enter Try.func107, Try.ntmps107
  go_wp2
  go_loopg [1, 5] n (fun kq v1 v5 w' => ∃ (j : Nat) (kk : Int) (pre : List Pl) (hs1 : List ((Nat × Nat) × Value)) (ps1 : List Pl), v1 = .int .i64 kk ∧ v5 = .int .i64 (j : Int) ∧ Aside0 (j + kq = n) ∧ Aside0 (ps = pre ++ ps1) ∧ Aside0 (Md.Nr (mdServer) A j kq hs1 ps1) ∧ Aside0 (Sq w k w' pre hs1 ps1 kk))
  case atStart => exact ⟨0, k, [], hs, ps, rfl, rfl, ⟨by omega⟩, ⟨rfl⟩, HN, HG⟩
  case round =>
    clear HN HG
    obtain ⟨j, kk, pre, hs1, ps1, rfl, rfl, HJ, HS, HN, HG⟩ := hrel
    cases gk with
    | zero =>
      have hd : decide ((j : Int) < (n : Int)) = false := decide_eq_false (by have := HJ.out; omega)
      have hd2 : decide (j < n) = false := decide_eq_false (by have := HJ.out; omega)
      go_wp2
      go_ret
      have e0 := Md.Nr_nil HN.out
      have e1 := HS.out
      subst e0
      rw [List.append_nil] at e1
      subst e1
      exact ⟨by rw [HG.out.ek]; rfl, HG.out.bl⟩
    | succ m =>
      have hd : decide ((j : Int) < (n : Int)) = true := decide_eq_true (by have := HJ.out; omega)
      have hd2 : decide (j < n) = true := decide_eq_true (by have := HJ.out; omega)
      have hlt : j < n := by have := HJ.out; omega
      have hlt2 : (j : Int) < (n : Int) := by omega
      obtain ⟨g, rfl, s1, a1, s2, a2, hsh, hn2, rfl, rfl⟩ := Md.Nr_cons HN.out
      clear HN
      have HN2 := Aside0.mk hn2
      clear hn2
      obtain ⟨v4, h4, b4, v5, h5, b5, r4, r5, rfl, rfl⟩ := mdServer_open (show mdServer.Sh g (j * 6) s1 a1 from hsh)
      obtain ⟨A4, n4, c4, rfl⟩ := Md.Row_slice r4
      have R4 := Aside0.mk r4
      clear r4
      obtain ⟨A5, n5, c5, rfl⟩ := Md.Row_slice r5
      have R5 := Aside0.mk r5
      clear r5
      have hk0 : 0 ≤ kk := by have := HG.out.ek; omega
      have hk1 : kk ≤ 1000000000 := by have := HG.out.ek; have := HS.out; subst this; simp only [List.length_append] at h1; omega
      simp only [List.append_assoc, List.singleton_append, List.cons_append, List.nil_append] at HG
      have HG0 := HG
      clear HG
      have x0_4 : wr.cell? ⟨g, j * 6 + 4, none⟩ = some (.slice A4 n4 c4) := HG0.out.head (by simp)
      have x0_0 : wr.cell? ⟨g, j * 6, none⟩ = some (.int .i64 kk) := HG0.out.cell
      have HG1 := Aside0.mk HG0.out.tail
      clear HG0
      have x0_1 : wr.cell? ⟨g, j * 6 + 1, none⟩ = some (.int .i64 (kk + 1)) := HG1.out.cell
      have HG2 := Aside0.mk HG1.out.tail
      clear HG1
      have x0_2 : wr.cell? ⟨g, j * 6 + 2, none⟩ = some (.bool ((kk + 1 + 1) % 3 == 0)) := HG2.out.cell
      have HG3 := Aside0.mk HG2.out.tail
      clear HG2
      have x0_3 : wr.cell? ⟨g, j * 6 + 3, none⟩ = some (.bool ((kk + 1 + 1 + 1) % 3 == 0)) := HG3.out.cell
      have HG4 := Aside0.mk HG3.out.tail
      clear HG3
      go_wp2_with fail
      have hb_ := HG4.out.bl
      refine (heldIntS_ok _ h4 b4 _ _ R4.out (HG4.out.pt.sub (by intro q_ hq_; simp [hq_]) (by intro q_ hq_; simp [hq_])) HG4.out.hd.left (by omega) (by have := HG4.out.ek; have := HS.out; subst this; simp only [List.length_append, List.length_cons, List.length_nil] at *; omega)).mono ?_
      rintro e w1 ⟨rfl, hw⟩
      have HG5 := Aside0.mk (HG4.out.call hw)
      clear HG4 hb_
      obtain ⟨kq1, hkq⟩ : ∃ kq_ : Int, kq_ = kk + 1 + 1 + 1 + 1 + (b4.length : Int) := ⟨_, rfl⟩
      rw [← hkq] at HG5 ⊢
      have hq0_1 : 0 ≤ kq1 := by omega
      have hq1_1 : kq1 ≤ 1000000000 := by have := HG5.out.ek; have := HS.out; subst this; simp only [List.length_append, List.length_cons, List.length_nil] at *; omega
      have hq2_1 : decide (kq1 < 0) = false := decide_eq_false (by omega)
      clear hkq hw
      clear x0_0 x0_1 x0_2 x0_3 x0_4
      have x1_5 : w1.cell? ⟨g, j * 6 + 5, none⟩ = some (.slice A5 n5 c5) := HG5.out.head (by simp)
      go_wp2_with fail
      have hb_ := HG5.out.bl
      refine (heldIntS_ok _ h5 b5 _ _ R5.out (HG5.out.pt.sub (by intro q_ hq_; simp [hq_]) (by intro q_ hq_; simp [hq_])) HG5.out.hd.left (by omega) (by have := HG5.out.ek; have := HS.out; subst this; simp only [List.length_append, List.length_cons, List.length_nil] at *; omega)).mono ?_
      rintro e w2 ⟨rfl, hw⟩
      have HG6 := Aside0.mk (HG5.out.call hw)
      clear HG5 hb_
      obtain ⟨kq2, hkq⟩ : ∃ kq_ : Int, kq_ = kq1 + (b5.length : Int) := ⟨_, rfl⟩
      rw [← hkq] at HG6 ⊢
      have hq0_2 : 0 ≤ kq2 := by omega
      have hq1_2 : kq2 ≤ 1000000000 := by have := HG6.out.ek; have := HS.out; subst this; simp only [List.length_append, List.length_cons, List.length_nil] at *; omega
      have hq2_2 : decide (kq2 < 0) = false := decide_eq_false (by omega)
      clear hkq hw
      clear x1_5
      go_wp2
      go_roundg m
      case measure => omega
      case rel =>
        have HZ := HG6.out.narrow (h1 := s2) (by intro q_ hq_; simp [hq_])
        exact ⟨j + 1, _, _, s2, a2, rfl, by go_num, ⟨by have := HJ.out; omega⟩, ⟨by rw [HS.out]; simp⟩, HN2, ⟨HZ⟩⟩
set_option maxHeartbeats 4000000 in
set_option maxRecDepth 100000 in
theorem heldLetterS_ok (v : Value) (hs : List ((Nat × Nat) × Value)) (ps : List Pl) (k : Int) (w : World) (hr : Md.Row (mdLetter) v hs ps) (hp : Pt w hs ps) (hh : Hs w ps k) (h0 : 0 ≤ k) (h1 : k + (ps.length : Int) ≤ 1000000000) :
    Calls Try.prog 108 #[v, .int .i64 k] w fun e w' => e = .returned (.int .i64 (k + (ps.length : Int))) ∧ Below w.heap.size w w' := by
  obtain ⟨A, n, c, rfl, hnc, hmax, hN0⟩ := hr
  have HN : Aside0 (Md.Nr (mdLetter) A 0 n hs ps) := ⟨hN0⟩
  have HG := Aside0.mk (Sq.start hp hh)
  clear hN0 hp hnc hh
  go_enter Try.func108, Try.ntmps108
  go_wp2
  go_loopg [1, 5] n (fun kq v1 v5 w' => ∃ (j : Nat) (kk : Int) (pre : List Pl) (hs1 : List ((Nat × Nat) × Value)) (ps1 : List Pl), v1 = .int .i64 kk ∧ v5 = .int .i64 (j : Int) ∧ Aside0 (j + kq = n) ∧ Aside0 (ps = pre ++ ps1) ∧ Aside0 (Md.Nr (mdLetter) A j kq hs1 ps1) ∧ Aside0 (Sq w k w' pre hs1 ps1 kk))
  case atStart => exact ⟨0, k, [], hs, ps, rfl, rfl, ⟨by omega⟩, ⟨rfl⟩, HN, HG⟩
  case round =>
    clear HN HG
    obtain ⟨j, kk, pre, hs1, ps1, rfl, rfl, HJ, HS, HN, HG⟩ := hrel
    cases gk with
    | zero =>
      have hd : decide ((j : Int) < (n : Int)) = false := decide_eq_false (by have := HJ.out; omega)
      have hd2 : decide (j < n) = false := decide_eq_false (by have := HJ.out; omega)
      go_wp2
      go_ret
      have e0 := Md.Nr_nil HN.out
      have e1 := HS.out
      subst e0
      rw [List.append_nil] at e1
      subst e1
      exact ⟨by rw [HG.out.ek]; rfl, HG.out.bl⟩
    | succ m =>
      have hd : decide ((j : Int) < (n : Int)) = true := decide_eq_true (by have := HJ.out; omega)
      have hd2 : decide (j < n) = true := decide_eq_true (by have := HJ.out; omega)
      have hlt : j < n := by have := HJ.out; omega
      have hlt2 : (j : Int) < (n : Int) := by omega
      obtain ⟨g, rfl, s1, a1, s2, a2, hsh, hn2, rfl, rfl⟩ := Md.Nr_cons HN.out
      clear HN
      have HN2 := Aside0.mk hn2
      clear hn2
      obtain ⟨rfl, rfl⟩ := mdLetter_open (show mdLetter.Sh g (j * 7) s1 a1 from hsh)
      have hk0 : 0 ≤ kk := by have := HG.out.ek; omega
      have hk1 : kk ≤ 1000000000 := by have := HG.out.ek; have := HS.out; subst this; simp only [List.length_append] at h1; omega
      simp only [List.append_assoc, List.singleton_append, List.cons_append, List.nil_append] at HG
      have HG0 := HG
      clear HG
      have x0_0 : wr.cell? ⟨g, j * 7, none⟩ = some (.int .i64 kk) := HG0.out.cell
      have HG1 := Aside0.mk HG0.out.tail
      clear HG0
      have x0_1 : wr.cell? ⟨g, j * 7 + 1, none⟩ = some (.int .i64 (kk + 1)) := HG1.out.cell
      have HG2 := Aside0.mk HG1.out.tail
      clear HG1
      have x0_2 : wr.cell? ⟨g, j * 7 + 2, none⟩ = some (.int .i64 (kk + 1 + 1)) := HG2.out.cell
      have HG3 := Aside0.mk HG2.out.tail
      clear HG2
      have x0_3 : wr.cell? ⟨g, j * 7 + 3, none⟩ = some (.bool ((kk + 1 + 1 + 1) % 3 == 0)) := HG3.out.cell
      have HG4 := Aside0.mk HG3.out.tail
      clear HG3
      have x0_4 : wr.cell? ⟨g, j * 7 + 4, none⟩ = some (.int .i64 (kk + 1 + 1 + 1 + 1)) := HG4.out.cell
      have HG5 := Aside0.mk HG4.out.tail
      clear HG4
      have x0_5 : wr.cell? ⟨g, j * 7 + 5, none⟩ = some (.int .i64 (kk + 1 + 1 + 1 + 1 + 1)) := HG5.out.cell
      have HG6 := Aside0.mk HG5.out.tail
      clear HG5
      have x0_6 : wr.cell? ⟨g, j * 7 + 6, none⟩ = some (.bool ((kk + 1 + 1 + 1 + 1 + 1 + 1) % 3 == 0)) := HG6.out.cell
      have HG7 := Aside0.mk HG6.out.tail
      clear HG6
      go_wp2
      go_roundg m
      case measure => omega
      case rel =>
        have HZ := HG7.out.narrow (h1 := s2) (by intro q_ hq_; simp [hq_])
        exact ⟨j + 1, _, _, s2, a2, rfl, by go_num, ⟨by have := HJ.out; omega⟩, ⟨by rw [HS.out]; simp⟩, HN2, ⟨HZ⟩⟩
set_option maxHeartbeats 4000000 in
set_option maxRecDepth 100000 in
theorem heldVoteS_ok (v : Value) (hs : List ((Nat × Nat) × Value)) (ps : List Pl) (k : Int) (w : World) (hr : Md.Row (mdVote) v hs ps) (hp : Pt w hs ps) (hh : Hs w ps k) (h0 : 0 ≤ k) (h1 : k + (ps.length : Int) ≤ 1000000000) :
    Calls Try.prog 109 #[v, .int .i64 k] w fun e w' => e = .returned (.int .i64 (k + (ps.length : Int))) ∧ Below w.heap.size w w' := by
  obtain ⟨A, n, c, rfl, hnc, hmax, hN0⟩ := hr
  have HN : Aside0 (Md.Nr (mdVote) A 0 n hs ps) := ⟨hN0⟩
  have HG := Aside0.mk (Sq.start hp hh)
  clear hN0 hp hnc hh
  go_enter Try.func109, Try.ntmps109
  go_wp2
  go_loopg [1, 5] n (fun kq v1 v5 w' => ∃ (j : Nat) (kk : Int) (pre : List Pl) (hs1 : List ((Nat × Nat) × Value)) (ps1 : List Pl), v1 = .int .i64 kk ∧ v5 = .int .i64 (j : Int) ∧ Aside0 (j + kq = n) ∧ Aside0 (ps = pre ++ ps1) ∧ Aside0 (Md.Nr (mdVote) A j kq hs1 ps1) ∧ Aside0 (Sq w k w' pre hs1 ps1 kk))
  case atStart => exact ⟨0, k, [], hs, ps, rfl, rfl, ⟨by omega⟩, ⟨rfl⟩, HN, HG⟩
  case round =>
    clear HN HG
    obtain ⟨j, kk, pre, hs1, ps1, rfl, rfl, HJ, HS, HN, HG⟩ := hrel
    cases gk with
    | zero =>
      have hd : decide ((j : Int) < (n : Int)) = false := decide_eq_false (by have := HJ.out; omega)
      have hd2 : decide (j < n) = false := decide_eq_false (by have := HJ.out; omega)
      go_wp2
      go_ret
      have e0 := Md.Nr_nil HN.out
      have e1 := HS.out
      subst e0
      rw [List.append_nil] at e1
      subst e1
      exact ⟨by rw [HG.out.ek]; rfl, HG.out.bl⟩
    | succ m =>
      have hd : decide ((j : Int) < (n : Int)) = true := decide_eq_true (by have := HJ.out; omega)
      have hd2 : decide (j < n) = true := decide_eq_true (by have := HJ.out; omega)
      have hlt : j < n := by have := HJ.out; omega
      have hlt2 : (j : Int) < (n : Int) := by omega
      obtain ⟨g, rfl, s1, a1, s2, a2, hsh, hn2, rfl, rfl⟩ := Md.Nr_cons HN.out
      clear HN
      have HN2 := Aside0.mk hn2
      clear hn2
      obtain ⟨rfl, rfl⟩ := mdVote_open (show mdVote.Sh g (j * 2) s1 a1 from hsh)
      have hk0 : 0 ≤ kk := by have := HG.out.ek; omega
      have hk1 : kk ≤ 1000000000 := by have := HG.out.ek; have := HS.out; subst this; simp only [List.length_append] at h1; omega
      simp only [List.append_assoc, List.singleton_append, List.cons_append, List.nil_append] at HG
      have HG0 := HG
      clear HG
      have x0_0 : wr.cell? ⟨g, j * 2, none⟩ = some (.int .i64 kk) := HG0.out.cell
      have HG1 := Aside0.mk HG0.out.tail
      clear HG0
      have x0_1 : wr.cell? ⟨g, j * 2 + 1, none⟩ = some (.int .i64 (kk + 1)) := HG1.out.cell
      have HG2 := Aside0.mk HG1.out.tail
      clear HG1
      go_wp2
      go_roundg m
      case measure => omega
      case rel =>
        have HZ := HG2.out.narrow (h1 := s2) (by intro q_ hq_; simp [hq_])
        exact ⟨j + 1, _, _, s2, a2, rfl, by go_num, ⟨by have := HJ.out; omega⟩, ⟨by rw [HS.out]; simp⟩, HN2, ⟨HZ⟩⟩
set_option maxHeartbeats 4000000 in
set_option maxRecDepth 100000 in
theorem heldElection_ok (v0 : Value) (s0 : List ((Nat × Nat) × Value)) (b0 : List Pl) (v1 : Value) (s1 : List ((Nat × Nat) × Value)) (b1 : List Pl) (v2 : Value) (s2 : List ((Nat × Nat) × Value)) (b2 : List Pl) (k : Int) (w : World) (r0 : Md.Row (mdServer) v0 s0 b0) (r1 : Md.Row (mdLetter) v1 s1 b1) (r2 : Md.Row (mdVote) v2 s2 b2) (p0 : Pt w s0 b0) (p1 : Pt w s1 b1) (p2 : Pt w s2 b2) (hh : Hs w (b0 ++ (b1 ++ (b2))) k) (h0 : 0 ≤ k) (h1 : k + ((b0 ++ (b1 ++ (b2))).length : Int) ≤ 1000000000) :
    Calls Try.prog 49 #[.agg #[v0, v1, v2], .int .i64 k] w fun e w' => e = .returned (.int .i64 (k + ((b0 ++ (b1 ++ (b2))).length : Int))) ∧ Below w.heap.size w w' := by
  obtain ⟨A0, n0, c0, rfl⟩ := Md.Row_slice r0
  have R0 := Aside0.mk r0
  clear r0
  obtain ⟨A1, n1, c1, rfl⟩ := Md.Row_slice r1
  have R1 := Aside0.mk r1
  clear r1
  obtain ⟨A2, n2, c2, rfl⟩ := Md.Row_slice r2
  have R2 := Aside0.mk r2
  clear r2
  have hb := below_alloc (Below.refl w.heap.size w) (.cells #[.slice A0 n0 c0, .slice A1 n1 c1, .slice A2 n2 c2] 54)
  have hx : Pt (w.alloc (.cells #[.slice A0 n0 c0, .slice A1 n1 c1, .slice A2 n2 c2] 54)) ([((w.heap.size, 0), Value.slice A0 n0 c0), ((w.heap.size, 1), Value.slice A1 n1 c1), ((w.heap.size, 2), Value.slice A2 n2 c2)] ++ (s0 ++ (s1 ++ (s2)))) (b0 ++ (b1 ++ (b2))) := ⟨fun q hq => (List.mem_append.1 hq).elim (fun hq => ?_) (((p0.app (p1.app p2)).below hb).h q), ((p0.app (p1.app p2)).below hb).a⟩
  rotate_left
  · simp only [List.mem_cons, List.not_mem_nil, or_false] at hq
    rcases hq with rfl | rfl | rfl
    all_goals exact ⟨by rw [World.cell?_alloc_new]; rfl, _, _, _, rfl⟩
  have HG0 := Aside0.mk (Sq.start hx (hh.below hb))
  have HB := Aside0.mk hb
  clear hx hb hh p0 p1 p2
  go_enter Try.func49, Try.ntmps49
  go_wp2_with fail
  refine (heldServerS_ok _ s0 b0 _ _ R0.out (HG0.out.pt.sub (by intro q_ hq_; simp [hq_]) (by intro q_ hq_; simp [hq_])) HG0.out.hd.left (by omega) (by have := HG0.out.ek; simp only [List.length_append, List.length_cons, List.length_nil] at *; omega)).mono ?_
  rintro e w1 ⟨rfl, hw⟩
  have HG1 := Aside0.mk (Sq.call HG0.out hw)
  obtain ⟨kq1, hkq⟩ : ∃ kq_ : Int, kq_ = k + (b0.length : Int) := ⟨_, rfl⟩
  rw [← hkq] at HG1 ⊢
  have hq0_1 : 0 ≤ kq1 := by omega
  have hq1_1 : kq1 ≤ 1000000000 := by have := HG1.out.ek; simp only [List.length_append, List.length_cons, List.length_nil] at *; omega
  have hq2_1 : decide (kq1 < 0) = false := decide_eq_false (by omega)
  clear hkq hw
  have x1_1 : w1.cell? ⟨w.heap.size, 1, none⟩ = some (.slice A1 n1 c1) := HG1.out.head (by simp)
  have x1_2 : w1.cell? ⟨w.heap.size, 2, none⟩ = some (.slice A2 n2 c2) := HG1.out.head (by simp)
  go_wp2_with fail
  refine (heldLetterS_ok _ s1 b1 _ _ R1.out (HG1.out.pt.sub (by intro q_ hq_; simp [hq_]) (by intro q_ hq_; simp [hq_])) HG1.out.hd.left (by omega) (by have := HG1.out.ek; simp only [List.length_append, List.length_cons, List.length_nil] at *; omega)).mono ?_
  rintro e w2 ⟨rfl, hw⟩
  have HG2 := Aside0.mk (Sq.call HG1.out hw)
  obtain ⟨kq2, hkq⟩ : ∃ kq_ : Int, kq_ = kq1 + (b1.length : Int) := ⟨_, rfl⟩
  rw [← hkq] at HG2 ⊢
  have hq0_2 : 0 ≤ kq2 := by omega
  have hq1_2 : kq2 ≤ 1000000000 := by have := HG2.out.ek; simp only [List.length_append, List.length_cons, List.length_nil] at *; omega
  have hq2_2 : decide (kq2 < 0) = false := decide_eq_false (by omega)
  clear hkq hw
  clear x1_1 x1_2
  have x2_2 : w2.cell? ⟨w.heap.size, 2, none⟩ = some (.slice A2 n2 c2) := HG2.out.head (by simp)
  go_wp2_with fail
  refine (heldVoteS_ok _ s2 b2 _ _ R2.out (HG2.out.pt.sub (by intro q_ hq_; simp [hq_]) (by intro q_ hq_; simp [hq_])) HG2.out.hd (by omega) (by have := HG2.out.ek; simp only [List.length_append, List.length_cons, List.length_nil] at *; omega)).mono ?_
  rintro e w3 ⟨rfl, hw⟩
  have HG3 := Aside0.mk (Sq.call (a2 := []) (by rw [List.append_nil]; exact HG2.out) hw)
  obtain ⟨kq3, hkq⟩ : ∃ kq_ : Int, kq_ = kq2 + (b2.length : Int) := ⟨_, rfl⟩
  rw [← hkq] at HG3 ⊢
  have hq0_3 : 0 ≤ kq3 := by omega
  have hq1_3 : kq3 ≤ 1000000000 := by have := HG3.out.ek; simp only [List.length_append, List.length_cons, List.length_nil] at *; omega
  have hq2_3 : decide (kq3 < 0) = false := decide_eq_false (by omega)
  clear hkq hw
  clear x2_2
  go_wp2
  go_ret
  have HZ := HG3.out
  exact ⟨by rw [HZ.ek]; simp only [List.length_append, List.length_nil, List.nil_append, List.append_assoc]; rfl, HB.out.trans (HZ.bl.mono HB.out.size)⟩
set_option maxHeartbeats 4000000 in
set_option maxRecDepth 100000 in
theorem markIntSS_ok (v : Value) (hs : List ((Nat × Nat) × Value)) (ps : List Pl) (k : Int) (w : World) (hr : Md.Row (Md.slice Md.int) v hs ps) (hp : Pt w hs ps) (h0 : 0 ≤ k) (h1 : k + (ps.length : Int) ≤ 1000000000) :
    Calls Try.prog 47 #[v, .int .i64 k] w fun e w' => e = .returned (.int .i64 (k + (ps.length : Int))) ∧ Wr w w' ps k := by
  obtain ⟨A, n, c, rfl, hnc, hmax, hN0⟩ := hr
  have HN : Aside0 (Md.Nr (Md.slice Md.int) A 0 n hs ps) := ⟨hN0⟩
  have HG := Aside0.mk (Sg.start hp k)
  clear hN0 hp hnc
  go_enter Try.func47, Try.ntmps47
  go_wp2
  go_loopg [1, 5] n (fun kq v1 v5 w' => ∃ (j : Nat) (kk : Int) (pre : List Pl) (hs1 : List ((Nat × Nat) × Value)) (ps1 : List Pl), v1 = .int .i64 kk ∧ v5 = .int .i64 (j : Int) ∧ Aside0 (j + kq = n) ∧ Aside0 (ps = pre ++ ps1) ∧ Aside0 (Md.Nr (Md.slice Md.int) A j kq hs1 ps1) ∧ Aside0 (Sg w k w' pre hs1 ps1 kk))
  case atStart => exact ⟨0, k, [], hs, ps, rfl, rfl, ⟨by omega⟩, ⟨rfl⟩, HN, HG⟩
  case round =>
    clear HN HG
    obtain ⟨j, kk, pre, hs1, ps1, rfl, rfl, HJ, HS, HN, HG⟩ := hrel
    cases gk with
    | zero =>
      have hd : decide ((j : Int) < (n : Int)) = false := decide_eq_false (by have := HJ.out; omega)
      have hd2 : decide (j < n) = false := decide_eq_false (by have := HJ.out; omega)
      go_wp2
      go_ret
      have e0 := Md.Nr_nil HN.out
      have e1 := HS.out
      subst e0
      rw [List.append_nil] at e1
      subst e1
      exact ⟨by rw [HG.out.ek]; rfl, HG.out.wr⟩
    | succ m =>
      have hd : decide ((j : Int) < (n : Int)) = true := decide_eq_true (by have := HJ.out; omega)
      have hd2 : decide (j < n) = true := decide_eq_true (by have := HJ.out; omega)
      have hlt : j < n := by have := HJ.out; omega
      have hlt2 : (j : Int) < (n : Int) := by omega
      obtain ⟨g, rfl, s1, a1, s2, a2, hsh, hn2, rfl, rfl⟩ := Md.Nr_cons HN.out
      clear HN
      have HN2 := Aside0.mk hn2
      clear hn2
      obtain ⟨v0, h0, r0, rfl⟩ := (show (Md.slice (Md.int)).Sh g (j * 1) s1 a1 from hsh)
      obtain ⟨b0, rfl⟩ : ∃ b0, b0 = a1 := ⟨_, rfl⟩
      simp only [Nat.mul_one] at HG HS
      obtain ⟨A0, n0, c0, rfl⟩ := Md.Row_slice r0
      have R0 := Aside0.mk r0
      clear r0
      have hk0 : 0 ≤ kk := by have := HG.out.ek; omega
      have hk1 : kk ≤ 1000000000 := by have := HG.out.ek; have := HS.out; subst this; simp only [List.length_append] at h1; omega
      have x0_0 : wr.cell? ⟨g, j, none⟩ = some (.slice A0 n0 c0) := HG.out.head (by simp)
      go_wp2_with fail
      have HG1 := Aside0.mk HG.out
      refine (markIntS_ok _ h0 b0 _ _ R0.out (HG1.out.sub (by intro q_ hq_; simp [hq_]) (by intro q_ hq_; simp [hq_])) (by omega) (by have := HG1.out.ek; have := HS.out; subst this; simp only [List.length_append, List.length_cons, List.length_nil] at *; omega)).mono ?_
      rintro e w1 ⟨rfl, hw⟩
      have HC1 := Aside0.mk (HG1.out.call hw (by intro q_ hq_; simp [hq_]))
      obtain ⟨kq1, hkq⟩ : ∃ kq_ : Int, kq_ = kk + (b0.length : Int) := ⟨_, rfl⟩
      rw [← hkq] at HC1 ⊢
      have hq0_1 : 0 ≤ kq1 := by omega
      have hq1_1 : kq1 ≤ 1000000000 := by have := HC1.out.ek; have := HS.out; subst this; simp only [List.length_append, List.length_cons, List.length_nil] at *; omega
      clear hkq hw
      clear x0_0
      have x1_0 : w1.cell? ⟨g, j, none⟩ = some (.slice A0 n0 c0) := HC1.out.head (by simp)
      go_wp2
      go_roundg m
      case measure => omega
      case rel =>
        have HZ := HC1.out.narrow (h1 := s2) (a1 := a2) (by intro q_ hq_; simp [hq_]) (by intro q_ hq_; simp [hq_])
        exact ⟨j + 1, _, _, s2, a2, rfl, by go_num, ⟨by have := HJ.out; omega⟩, ⟨by rw [HS.out]; simp⟩, HN2, ⟨HZ⟩⟩
end Go.Proofs.Ytomdjipejoafgaa.Mk
end
section
namespace Go.Proofs.Ytomdjipejoafgaa.Mk
open Go.RowKit Go.Proofs.Ytomdjipejoafgaa.P Go.Proofs.YtomdjipejoafgaaW.PrintWords Go.Proofs.YtomdjipejoafgaaW.PrintLast Go.Proofs.YtomdjipejoafgaaW.PrintMore
set_option linter.unusedVariables false
set_option linter.unusedSimpArgs false
set_option maxHeartbeats 8000000 in
set_option maxRecDepth 100000 in
theorem FnExactNewElection_law (k : Nat) (A0 : Option Addr) (c0 : Nat) (l0 : List (List Int)) (w : World) (hr0 : Kd.C (Kd.slice 3 (Kd.int .i64)) w A0 l0.length l0) (hc0 : l0.length ≤ c0) (z1 : Int) (eE2 : laws_szIntSS.f k l0 1048576 = some z1) (hz_z1n : ¬ z1 < 0) (x3 : List (List Int)) (r10 : List (S108)) (r11 : List (S111)) (r12 : List (S114)) (r13 : Bool) (eE4 : laws_toIntSS.f k l0 = some x3) (eE14 : spec_NewElection.f k x3 = some (r10, r11, r12, r13)) (eE34 : impl_NewElection.f k x3 = some (r10, r11, r12, r13)) (eE52 : laws_eqElection.f k r10 r11 r12 r10 r11 r12 = some true) (eE70 : laws_eqIntSS.f k x3 x3 = some true) (hB0_ : tot (fun y => tot (fun _ => 1) y) x3 ≤ 100000000) (hB1_ : tot pcServer r10 ≤ 100000000) (hB2_ : tot pcLetter r11 ≤ 100000000) (hB3_ : tot pcVote r12 ≤ 100000000) (hX0_ : ∀ x ∈ r10, peServer x) (hX1_ : ∀ x ∈ r11, peLetter x) (hX2_ : ∀ x ∈ r12, peVote x)  :
    Calls Try.prog 10 #[.slice A0 l0.length c0] w fun e w' => e = .returned (.bool true) ∧ Below w.heap.size w w' := by
  have hu54 := Try.underlying54
  have HR0 := Aside0.mk hr0
  clear hr0
  have HC := Aside0.mk (Ch.start w)
  have E2 := Aside0.mk eE2
  clear eE2
  have E4 := Aside0.mk eE4
  clear eE4
  have E14 := Aside0.mk eE14
  clear eE14
  have E34 := Aside0.mk eE34
  clear eE34
  have E52 := Aside0.mk eE52
  clear eE52
  have E70 := Aside0.mk eE70
  clear eE70
  have hB0 := Aside0.mk hB0_
  clear hB0_
  have hB1 := Aside0.mk hB1_
  clear hB1_
  have hB2 := Aside0.mk hB2_
  clear hB2_
  have hB3 := Aside0.mk hB3_
  clear hB3_
  have hX0 := Aside0.mk hX0_
  clear hX0_
  have hX1 := Aside0.mk hX1_
  clear hX1_
  have hX2 := Aside0.mk hX2_
  clear hX2_
  go_enter Try.func10, Try.ntmps10
  go_wp2_with fail
  refine (laws_szIntSS.calls k _ _ l0 1048576 z1 _ (Kd.C_below HR0.out HC.out.b) hc0 E2.out).mono ?_
  rintro e w1 ⟨rfl, hb⟩
  replace HC := Aside0.mk (HC.out.drawn hb)
  clear hb
  have hz_z1 : decide (z1 < 0) = false := decide_eq_false (by omega)
  go_wp2_with fail
  refine (laws_toIntSS.calls k _ _ l0 x3 _ (Kd.C_below HR0.out HC.out.b) hc0 E4.out).mono ?_
  rintro e w2 ⟨v5, rfl, ho0, hb⟩
  obtain ⟨A6, c7, rfl⟩ := Kd.S_slice ho0
  obtain ⟨lo8, hi9, HC'⟩ := HC.out.push hb (Q := fun lo hi U => Kd.S (Kd.slice 3 (Kd.int .i64)) 22 U lo (Bt lo hi) (.slice A6 x3.length c7) x3) (foot_S (in_S ho0))
  replace HC := Aside0.mk HC'
  clear HC' hb ho0
  go_wp2_with fail
  refine (spec_NewElection.calls k _ _ x3 r10 r11 r12 r13 _ (Kd.S_reads' (HC.out.at_ 0 rfl)).2.2 (Kd.S_reads' (HC.out.at_ 0 rfl)).2.1 E14.out).mono ?_
  rintro e w3 ⟨v15, v16, v17, rfl, ho0, ho1, ho2, hb⟩
  obtain ⟨A18, c19, rfl⟩ := Kd.S_slice ho0
  obtain ⟨A20, c21, rfl⟩ := Kd.R_slice ho1
  obtain ⟨A22, c23, rfl⟩ := Kd.R_slice ho2
  obtain ⟨lo24, hi25, HC'⟩ := HC.out.push hb (Q := fun lo hi U => Kd.S k108 108 U lo (Bt lo hi) (.slice A18 r10.length c19) r10 ∧ Kd.R k111 111 U lo (Bt lo hi) (.slice A20 r11.length c21) r11 ∧ Kd.R k114 114 U lo (Bt lo hi) (.slice A22 r12.length c23) r12) (foot_and (foot_S (in_S ho0)) (foot_and (foot_R (in_R ho1)) (foot_R (in_R ho2))))
  replace HC := Aside0.mk HC'
  clear HC' hb ho0 ho1 ho2
  go_wp2_with fail
  replace HC := Aside0.mk (HC.out.box (.cells #[.slice A18 r10.length c19, .slice A20 r11.length c21, .slice A22 r12.length c23] 54))
  refine (laws_toIntSS.calls k _ _ l0 x3 _ (Kd.C_below HR0.out HC.out.b) hc0 E4.out).mono ?_
  rintro e w4 ⟨v26, rfl, ho0, hb⟩
  obtain ⟨A27, c28, rfl⟩ := Kd.S_slice ho0
  obtain ⟨lo29, hi30, HC'⟩ := HC.out.push hb (Q := fun lo hi U => Kd.S (Kd.slice 3 (Kd.int .i64)) 22 U lo (Bt lo hi) (.slice A27 x3.length c28) x3) (foot_S (in_S ho0))
  replace HC := Aside0.mk HC'
  clear HC' hb ho0
  have b31 := (blk_cell (HC.out.at_ 1 rfl) 0).trans rfl
  have b32 := (blk_cell (HC.out.at_ 1 rfl) 1).trans rfl
  have b33 := (blk_cell (HC.out.at_ 1 rfl) 2).trans rfl
  go_wp2_with fail
  refine (impl_NewElection.calls k _ _ x3 r10 r11 r12 r13 _ (Kd.S_reads' (HC.out.at_ 0 rfl)).2.2 (Kd.S_reads' (HC.out.at_ 0 rfl)).2.1 E34.out).mono ?_
  rintro e w5 ⟨v35, v36, v37, rfl, ho0, ho1, ho2, hb⟩
  obtain ⟨A38, c39, rfl⟩ := Kd.S_slice ho0
  obtain ⟨A40, c41, rfl⟩ := Kd.R_slice ho1
  obtain ⟨A42, c43, rfl⟩ := Kd.R_slice ho2
  replace ho0 := Kd.S_apart' ho0 (Kd.R_typed ho1) (by decide)
  replace ho0 := Kd.S_apart' ho0 (Kd.R_typed ho2) (by decide)
  replace ho1 := Kd.R_apart' ho1 (Kd.R_typed ho2) (by decide)
  obtain ⟨lo44, hi45, HC'⟩ := HC.out.push hb (Q := fun lo hi U => Kd.S k108 108 U lo (fun q => Bt lo hi q ∧ (some q ≠ (.slice A40 r11.length c41 : Value).ownBlock ∧ some q ≠ (.slice A42 r12.length c43 : Value).ownBlock)) (.slice A38 r10.length c39) r10 ∧ Kd.R k111 111 U lo (fun q => Bt lo hi q ∧ (some q ≠ (.slice A42 r12.length c43 : Value).ownBlock)) (.slice A40 r11.length c41) r11 ∧ Kd.R k114 114 U lo (fun q => Bt lo hi q ∧ (True)) (.slice A42 r12.length c43) r12) (foot_and (foot_S' (in_S' ho0 (fun q hk => ⟨(by first | exact hk | exact hk.1 | exact hk.2 | exact hk.1.1 | exact hk.1.2 | exact hk.2.1 | exact hk.2.2 | exact hk.1.1.1 | exact hk.1.1.2 | exact hk.1.2.1 | exact hk.1.2.2 | exact hk.2.1.1 | exact hk.2.1.2 | exact hk.2.2.1 | exact hk.2.2.2 | exact hk.1.1.1.1 | exact hk.1.1.1.2 | exact hk.1.1.2.1 | exact hk.1.1.2.2 | exact hk.1.2.1.1 | exact hk.1.2.1.2 | exact hk.1.2.2.1 | exact hk.1.2.2.2 | exact hk.2.1.1.1 | exact hk.2.1.1.2 | exact hk.2.1.2.1 | exact hk.2.1.2.2 | exact hk.2.2.1.1 | exact hk.2.2.1.2 | exact hk.2.2.2.1 | exact hk.2.2.2.2 | exact hk.1.1.1.1.1 | exact hk.1.1.1.1.2 | exact hk.1.1.1.2.1 | exact hk.1.1.1.2.2 | exact hk.1.1.2.1.1 | exact hk.1.1.2.1.2 | exact hk.1.1.2.2.1 | exact hk.1.1.2.2.2 | exact hk.1.2.1.1.1 | exact hk.1.2.1.1.2 | exact hk.1.2.1.2.1 | exact hk.1.2.1.2.2 | exact hk.1.2.2.1.1 | exact hk.1.2.2.1.2 | exact hk.1.2.2.2.1 | exact hk.1.2.2.2.2 | exact hk.2.1.1.1.1 | exact hk.2.1.1.1.2 | exact hk.2.1.1.2.1 | exact hk.2.1.1.2.2 | exact hk.2.1.2.1.1 | exact hk.2.1.2.1.2 | exact hk.2.1.2.2.1 | exact hk.2.1.2.2.2 | exact hk.2.2.1.1.1 | exact hk.2.2.1.1.2 | exact hk.2.2.1.2.1 | exact hk.2.2.1.2.2 | exact hk.2.2.2.1.1 | exact hk.2.2.2.1.2 | exact hk.2.2.2.2.1 | exact hk.2.2.2.2.2), (by first | exact hk | exact hk.1 | exact hk.2 | exact hk.1.1 | exact hk.1.2 | exact hk.2.1 | exact hk.2.2 | exact hk.1.1.1 | exact hk.1.1.2 | exact hk.1.2.1 | exact hk.1.2.2 | exact hk.2.1.1 | exact hk.2.1.2 | exact hk.2.2.1 | exact hk.2.2.2 | exact hk.1.1.1.1 | exact hk.1.1.1.2 | exact hk.1.1.2.1 | exact hk.1.1.2.2 | exact hk.1.2.1.1 | exact hk.1.2.1.2 | exact hk.1.2.2.1 | exact hk.1.2.2.2 | exact hk.2.1.1.1 | exact hk.2.1.1.2 | exact hk.2.1.2.1 | exact hk.2.1.2.2 | exact hk.2.2.1.1 | exact hk.2.2.1.2 | exact hk.2.2.2.1 | exact hk.2.2.2.2 | exact hk.1.1.1.1.1 | exact hk.1.1.1.1.2 | exact hk.1.1.1.2.1 | exact hk.1.1.1.2.2 | exact hk.1.1.2.1.1 | exact hk.1.1.2.1.2 | exact hk.1.1.2.2.1 | exact hk.1.1.2.2.2 | exact hk.1.2.1.1.1 | exact hk.1.2.1.1.2 | exact hk.1.2.1.2.1 | exact hk.1.2.1.2.2 | exact hk.1.2.2.1.1 | exact hk.1.2.2.1.2 | exact hk.1.2.2.2.1 | exact hk.1.2.2.2.2 | exact hk.2.1.1.1.1 | exact hk.2.1.1.1.2 | exact hk.2.1.1.2.1 | exact hk.2.1.1.2.2 | exact hk.2.1.2.1.1 | exact hk.2.1.2.1.2 | exact hk.2.1.2.2.1 | exact hk.2.1.2.2.2 | exact hk.2.2.1.1.1 | exact hk.2.2.1.1.2 | exact hk.2.2.1.2.1 | exact hk.2.2.1.2.2 | exact hk.2.2.2.1.1 | exact hk.2.2.2.1.2 | exact hk.2.2.2.2.1 | exact hk.2.2.2.2.2)⟩))) (foot_and (foot_R' (in_R' ho1 (fun q hk => (by first | exact hk | exact hk.1 | exact hk.2 | exact hk.1.1 | exact hk.1.2 | exact hk.2.1 | exact hk.2.2 | exact hk.1.1.1 | exact hk.1.1.2 | exact hk.1.2.1 | exact hk.1.2.2 | exact hk.2.1.1 | exact hk.2.1.2 | exact hk.2.2.1 | exact hk.2.2.2 | exact hk.1.1.1.1 | exact hk.1.1.1.2 | exact hk.1.1.2.1 | exact hk.1.1.2.2 | exact hk.1.2.1.1 | exact hk.1.2.1.2 | exact hk.1.2.2.1 | exact hk.1.2.2.2 | exact hk.2.1.1.1 | exact hk.2.1.1.2 | exact hk.2.1.2.1 | exact hk.2.1.2.2 | exact hk.2.2.1.1 | exact hk.2.2.1.2 | exact hk.2.2.2.1 | exact hk.2.2.2.2 | exact hk.1.1.1.1.1 | exact hk.1.1.1.1.2 | exact hk.1.1.1.2.1 | exact hk.1.1.1.2.2 | exact hk.1.1.2.1.1 | exact hk.1.1.2.1.2 | exact hk.1.1.2.2.1 | exact hk.1.1.2.2.2 | exact hk.1.2.1.1.1 | exact hk.1.2.1.1.2 | exact hk.1.2.1.2.1 | exact hk.1.2.1.2.2 | exact hk.1.2.2.1.1 | exact hk.1.2.2.1.2 | exact hk.1.2.2.2.1 | exact hk.1.2.2.2.2 | exact hk.2.1.1.1.1 | exact hk.2.1.1.1.2 | exact hk.2.1.1.2.1 | exact hk.2.1.1.2.2 | exact hk.2.1.2.1.1 | exact hk.2.1.2.1.2 | exact hk.2.1.2.2.1 | exact hk.2.1.2.2.2 | exact hk.2.2.1.1.1 | exact hk.2.2.1.1.2 | exact hk.2.2.1.2.1 | exact hk.2.2.1.2.2 | exact hk.2.2.2.1.1 | exact hk.2.2.2.1.2 | exact hk.2.2.2.2.1 | exact hk.2.2.2.2.2)))) (foot_R' (in_R' ho2 (fun q hk => trivial)))))
  replace HC := Aside0.mk HC'
  clear HC' hb ho0 ho1 ho2
  clear b31 b32 b33
  have b46 := (blk_cell (HC.out.at_ 2 rfl) 0).trans rfl
  have b47 := (blk_cell (HC.out.at_ 2 rfl) 1).trans rfl
  have b48 := (blk_cell (HC.out.at_ 2 rfl) 2).trans rfl
  have b49 : (w5.alloc (.cells #[.slice A38 r10.length c39, .slice A40 r11.length c41, .slice A42 r12.length c43] 54)).cell? ⟨w3.heap.size, 0, none⟩ = some (.slice A18 r10.length c19) := (blk_cell (blk_alloc (HC.out.at_ 2 rfl) _) 0).trans rfl
  have b50 : (w5.alloc (.cells #[.slice A38 r10.length c39, .slice A40 r11.length c41, .slice A42 r12.length c43] 54)).cell? ⟨w3.heap.size, 1, none⟩ = some (.slice A20 r11.length c21) := (blk_cell (blk_alloc (HC.out.at_ 2 rfl) _) 1).trans rfl
  have b51 : (w5.alloc (.cells #[.slice A38 r10.length c39, .slice A40 r11.length c41, .slice A42 r12.length c43] 54)).cell? ⟨w3.heap.size, 2, none⟩ = some (.slice A22 r12.length c23) := (blk_cell (blk_alloc (HC.out.at_ 2 rfl) _) 2).trans rfl
  go_wp2_with fail
  replace HC := Aside0.mk (HC.out.box (.cells #[.slice A38 r10.length c39, .slice A40 r11.length c41, .slice A42 r12.length c43] 54))
  refine (laws_eqElection.calls k _ _ r10 _ _ r11 _ _ r12 _ _ r10 _ _ r11 _ _ r12 true _ (Kd.S_reads' (HC.out.at_ 1 rfl).1).2.2 (Kd.S_reads' (HC.out.at_ 1 rfl).1).2.1 (Kd.R_reads' (HC.out.at_ 1 rfl).2.1).2.2 (Kd.R_reads' (HC.out.at_ 1 rfl).2.1).2.1 (Kd.R_reads' (HC.out.at_ 1 rfl).2.2).2.2 (Kd.R_reads' (HC.out.at_ 1 rfl).2.2).2.1 (Kd.S_reads' (HC.out.at_ 4 rfl).1).2.2 (Kd.S_reads' (HC.out.at_ 4 rfl).1).2.1 (Kd.R_reads' (HC.out.at_ 4 rfl).2.1).2.2 (Kd.R_reads' (HC.out.at_ 4 rfl).2.1).2.1 (Kd.R_reads' (HC.out.at_ 4 rfl).2.2).2.2 (Kd.R_reads' (HC.out.at_ 4 rfl).2.2).2.1 E52.out).mono ?_
  rintro e w6 ⟨rfl, hb⟩
  replace HC := Aside0.mk (HC.out.below hb)
  clear hb
  clear b46 b47 b48 b49 b50 b51
  have b53 := (blk_cell (HC.out.at_ 0 rfl) 0).trans rfl
  have b54 := (blk_cell (HC.out.at_ 0 rfl) 1).trans rfl
  have b55 := (blk_cell (HC.out.at_ 0 rfl) 2).trans rfl
  have b56 := (blk_cell (HC.out.at_ 3 rfl) 0).trans rfl
  have b57 := (blk_cell (HC.out.at_ 3 rfl) 1).trans rfl
  have b58 := (blk_cell (HC.out.at_ 3 rfl) 2).trans rfl
  go_wp2_with fail
  refine (laws_toIntSS.calls k _ _ l0 x3 _ (Kd.C_below HR0.out HC.out.b) hc0 E4.out).mono ?_
  rintro e w7 ⟨v59, rfl, ho0, hb⟩
  obtain ⟨A60, c61, rfl⟩ := Kd.S_slice ho0
  obtain ⟨lo62, hi63, HC'⟩ := HC.out.push hb (Q := fun lo hi U => Kd.S (Kd.slice 3 (Kd.int .i64)) 22 U lo (Bt lo hi) (.slice A60 x3.length c61) x3) (foot_S (in_S ho0))
  replace HC := Aside0.mk HC'
  clear HC' hb ho0
  clear b53 b54 b55 b56 b57 b58
  have b64 := (blk_cell (HC.out.at_ 1 rfl) 0).trans rfl
  have b65 := (blk_cell (HC.out.at_ 1 rfl) 1).trans rfl
  have b66 := (blk_cell (HC.out.at_ 1 rfl) 2).trans rfl
  have b67 := (blk_cell (HC.out.at_ 4 rfl) 0).trans rfl
  have b68 := (blk_cell (HC.out.at_ 4 rfl) 1).trans rfl
  have b69 := (blk_cell (HC.out.at_ 4 rfl) 2).trans rfl
  go_wp2_with fail
  refine (laws_eqIntSS.calls k _ _ x3 _ _ x3 true _ (Kd.S_reads' (HC.out.at_ 3 rfl)).2.2 (Kd.S_reads' (HC.out.at_ 3 rfl)).2.1 (Kd.S_reads' (HC.out.at_ 0 rfl)).2.2 (Kd.S_reads' (HC.out.at_ 0 rfl)).2.1 E70.out).mono ?_
  rintro e w8 ⟨rfl, hb⟩
  replace HC := Aside0.mk (HC.out.drawn hb)
  clear hb
  clear b64 b65 b66 b67 b68 b69
  have b71 := (blk_cell (HC.out.at_ 1 rfl) 0).trans rfl
  have b72 := (blk_cell (HC.out.at_ 1 rfl) 1).trans rfl
  have b73 := (blk_cell (HC.out.at_ 1 rfl) 2).trans rfl
  have b74 := (blk_cell (HC.out.at_ 4 rfl) 0).trans rfl
  have b75 := (blk_cell (HC.out.at_ 4 rfl) 1).trans rfl
  have b76 := (blk_cell (HC.out.at_ 4 rfl) 2).trans rfl
  go_wp2_with fail
  obtain ⟨ms1_0, mp1_0, mq1_0, mt1_0, mn1_0, mg1_0, mf1_0, md1_0⟩ := row_S (Br.slice Br.int 3 (fun _ => rfl)) (HC.out.at_ 3 rfl)
  refine (markIntSS_ok _ ms1_0 mp1_0  1 _ mq1_0 mt1_0 (by decide) (by rw [mn1_0]; have := hB0.out;  omega)).mono ?_
  rintro e w9 ⟨rfl, hw⟩
  replace HC := Aside0.mk (Ch.wr0 (L1 := [_, _, _]) HC.out hw (fun p h => by (try simp only [List.append_assoc] at h); exact (mf1_0 p h).1))
  obtain ⟨km1, hkm⟩ : ∃ km_ : Int, km_ = 1 + ((mp1_0).length : Int) := ⟨_, rfl⟩
  rw [← hkm]
  have km1p : Aside0 (0 ≤ km1) := ⟨by  omega⟩
  have km1b : Aside0 (km1 ≤ 200000001) := ⟨by rw [hkm]; rw [mn1_0]; have := hB0.out;  omega⟩
  have hd_km1 : decide (km1 < 0) = false := decide_eq_false (by have := km1p.out; omega)
  clear hkm hw ms1_0 mq1_0 mt1_0 mn1_0 mg1_0 mf1_0 md1_0 
  clear b71 b72 b73 b74 b75 b76
  have b77 := (blk_cell (HC.out.at_ 1 rfl) 0).trans rfl
  have b78 := (blk_cell (HC.out.at_ 1 rfl) 1).trans rfl
  have b79 := (blk_cell (HC.out.at_ 1 rfl) 2).trans rfl
  have b80 := (blk_cell (HC.out.at_ 4 rfl) 0).trans rfl
  have b81 := (blk_cell (HC.out.at_ 4 rfl) 1).trans rfl
  have b82 := (blk_cell (HC.out.at_ 4 rfl) 2).trans rfl
  go_wp2_with fail
  refine (laws_eqElection.calls k _ _ r10 _ _ r11 _ _ r12 _ _ r10 _ _ r11 _ _ r12 true _ (Kd.S_reads' (HC.out.at_ 2 rfl).1).2.2 (Kd.S_reads' (HC.out.at_ 2 rfl).1).2.1 (Kd.R_reads' (HC.out.at_ 2 rfl).2.1).2.2 (Kd.R_reads' (HC.out.at_ 2 rfl).2.1).2.1 (Kd.R_reads' (HC.out.at_ 2 rfl).2.2).2.2 (Kd.R_reads' (HC.out.at_ 2 rfl).2.2).2.1 (Kd.S_reads' (HC.out.at_ 5 rfl).1).2.2 (Kd.S_reads' (HC.out.at_ 5 rfl).1).2.1 (Kd.R_reads' (HC.out.at_ 5 rfl).2.1).2.2 (Kd.R_reads' (HC.out.at_ 5 rfl).2.1).2.1 (Kd.R_reads' (HC.out.at_ 5 rfl).2.2).2.2 (Kd.R_reads' (HC.out.at_ 5 rfl).2.2).2.1 E52.out).mono ?_
  rintro e w10 ⟨rfl, hb⟩
  replace HC := Aside0.mk (HC.out.below hb)
  clear hb
  clear b77 b78 b79 b80 b81 b82
  have b83 := (blk_cell (HC.out.at_ 1 rfl) 0).trans rfl
  have b84 := (blk_cell (HC.out.at_ 1 rfl) 1).trans rfl
  have b85 := (blk_cell (HC.out.at_ 1 rfl) 2).trans rfl
  have b86 := (blk_cell (HC.out.at_ 4 rfl) 0).trans rfl
  have b87 := (blk_cell (HC.out.at_ 4 rfl) 1).trans rfl
  have b88 := (blk_cell (HC.out.at_ 4 rfl) 2).trans rfl
  go_wp2_with fail
  obtain ⟨ms2_0, mp2_0, mq2_0, mt2_0, mn2_0, mg2_0, mf2_0, md2_0⟩ := row_S brServer (HC.out.at_ 2 rfl).1
  obtain ⟨ms2_1, mp2_1, mq2_1, mt2_1, mn2_1, mg2_1, mf2_1, md2_1⟩ := row_R brLetter (HC.out.at_ 2 rfl).2.1
  obtain ⟨ms2_2, mp2_2, mq2_2, mt2_2, mn2_2, mg2_2, mf2_2, md2_2⟩ := row_R brVote (HC.out.at_ 2 rfl).2.2
  refine (markElection_ok _ ms2_0 mp2_0 _ ms2_1 mp2_1 _ ms2_2 mp2_2  1 _ mq2_0 mq2_1 mq2_2 mt2_0 mt2_1 mt2_2 (by decide) (by rw [List.length_append, List.length_append, mn2_0, mn2_1, mn2_2]; have := hB1.out; have := hB2.out; have := hB3.out;  omega)).mono ?_
  rintro e w11 ⟨rfl, hw⟩
  (try simp only [List.append_assoc] at hw)
  have mT : Pt w11 (ms2_0 ++ (ms2_1 ++ (ms2_2))) (mp2_0 ++ (mp2_1 ++ (mp2_2))) := ((mt2_0.app (mt2_1.app mt2_2))).wr hw ((mt2_0.app (mt2_1.app mt2_2))).a
  have mA : apart (mp2_0 ++ (mp2_1 ++ (mp2_2))) := (apart_app (md2_0 hX0.out) (apart_app (md2_1 hX1.out (fun _ _ => rfl)) (md2_2 hX2.out (fun _ _ => rfl)) (fun p hp q hq => pair_no ((mf2_1 p hp).1.2) (own_of (mf2_2 q hq).2 (fun _ _ => rfl)))) (fun p hp q hq => (List.mem_append.1 hq).elim (fun hq => pair_no ((mf2_0 p hp).1.2.1) (own_of (mf2_1 q hq).2 (fun _ _ => rfl))) (fun hq => pair_no ((mf2_0 p hp).1.2.2) (own_of (mf2_2 q hq).2 (fun _ _ => rfl)))))
  have mH := hw.hs mA ((mt2_0.app (mt2_1.app mt2_2))).a
  replace HC := Aside0.mk (Ch.wr (L1 := [_, _]) HC.out hw (fun p hp => (List.mem_append.1 hp).elim (fun h => (mf2_0 p h).1.1) ((fun p hp => (List.mem_append.1 hp).elim (fun h => (mf2_1 p h).1.1) ((fun p hp => (mf2_2 p hp).1.1) p)) p)) (foot_and (foot_pt mT (fun q hq => (List.mem_append.1 hq).elim ((fun q hq => (mg2_0 q hq).1) q) ((fun q hq => (List.mem_append.1 hq).elim ((fun q hq => (mg2_1 q hq).1) q) ((fun q hq => (mg2_2 q hq).1) q)) q)) (fun p hp => (List.mem_append.1 hp).elim (fun h => (mf2_0 p h).1.1) ((fun p hp => (List.mem_append.1 hp).elim (fun h => (mf2_1 p h).1.1) ((fun p hp => (mf2_2 p hp).1.1) p)) p))) (foot_hs mH (fun p hp => (List.mem_append.1 hp).elim (fun h => (mf2_0 p h).1.1) ((fun p hp => (List.mem_append.1 hp).elim (fun h => (mf2_1 p h).1.1) ((fun p hp => (mf2_2 p hp).1.1) p)) p)))))
  have hl2 : Aside0 (1 + ((mp2_0 ++ mp2_1 ++ mp2_2).length : Int) ≤ 1000000000) := ⟨by rw [List.length_append, List.length_append, mn2_0, mn2_1, mn2_2]; have := hB1.out; have := hB2.out; have := hB3.out; omega⟩
  have Qmq2_0 := Aside0.mk mq2_0
  have Qmq2_1 := Aside0.mk mq2_1
  have Qmq2_2 := Aside0.mk mq2_2
  obtain ⟨km2, hkm⟩ : ∃ km_ : Int, km_ = 1 + ((mp2_0 ++ mp2_1 ++ mp2_2).length : Int) := ⟨_, rfl⟩
  have HK2 := Aside0.mk hkm
  rw [← hkm]
  have hd_km2 : decide (km2 < 0) = false := decide_eq_false (by omega)
  clear hkm hw mT mA mH mq2_0 mt2_0 mn2_0 mg2_0 mf2_0 md2_0 mq2_1 mt2_1 mn2_1 mg2_1 mf2_1 md2_1 mq2_2 mt2_2 mn2_2 mg2_2 mf2_2 md2_2
  clear b83 b84 b85 b86 b87 b88
  have b89 := (blk_cell (HC.out.at_ 1 rfl) 0).trans rfl
  have b90 := (blk_cell (HC.out.at_ 1 rfl) 1).trans rfl
  have b91 := (blk_cell (HC.out.at_ 1 rfl) 2).trans rfl
  have b92 := (blk_cell (HC.out.at_ 4 rfl) 0).trans rfl
  have b93 := (blk_cell (HC.out.at_ 4 rfl) 1).trans rfl
  have b94 := (blk_cell (HC.out.at_ 4 rfl) 2).trans rfl
  go_wp2_with fail
  refine (heldElection_ok _ ms2_0 mp2_0 _ ms2_1 mp2_1 _ ms2_2 mp2_2  1 _ Qmq2_0.out Qmq2_1.out Qmq2_2.out ((HC.out.at_ 2 rfl).1.sub (by intro q_ h_; simp [h_]) (by intro q_ h_; simp [h_])) ((HC.out.at_ 2 rfl).1.sub (by intro q_ h_; simp [h_]) (by intro q_ h_; simp [h_])) ((HC.out.at_ 2 rfl).1.sub (by intro q_ h_; simp [h_]) (by intro q_ h_; simp [h_])) (HC.out.at_ 2 rfl).2 (by decide) (by (try simp only [← List.append_assoc]); exact hl2.out)).mono ?_
  rintro e w12 ⟨rfl, hb⟩
  replace HC := Aside0.mk (HC.out.below hb)
  (try simp only [← List.append_assoc])
  rw [← HK2.out]
  clear hb
  clear b89 b90 b91 b92 b93 b94
  have b95 := (blk_cell (HC.out.at_ 1 rfl) 0).trans rfl
  have b96 := (blk_cell (HC.out.at_ 1 rfl) 1).trans rfl
  have b97 := (blk_cell (HC.out.at_ 1 rfl) 2).trans rfl
  have b98 := (blk_cell (HC.out.at_ 4 rfl) 0).trans rfl
  have b99 := (blk_cell (HC.out.at_ 4 rfl) 1).trans rfl
  have b100 := (blk_cell (HC.out.at_ 4 rfl) 2).trans rfl
  go_wp2_with fail
  refine (laws_toIntSS.calls k _ _ l0 x3 _ (Kd.C_below HR0.out HC.out.b) hc0 E4.out).mono ?_
  rintro e w13 ⟨v101, rfl, ho0, hb⟩
  obtain ⟨A102, c103, rfl⟩ := Kd.S_slice ho0
  obtain ⟨lo104, hi105, HC'⟩ := HC.out.push hb (Q := fun lo hi U => Kd.S (Kd.slice 3 (Kd.int .i64)) 22 U lo (Bt lo hi) (.slice A102 x3.length c103) x3) (foot_S (in_S ho0))
  replace HC := Aside0.mk HC'
  clear HC' hb ho0
  clear b95 b96 b97 b98 b99 b100
  have b106 := (blk_cell (HC.out.at_ 2 rfl) 0).trans rfl
  have b107 := (blk_cell (HC.out.at_ 2 rfl) 1).trans rfl
  have b108 := (blk_cell (HC.out.at_ 2 rfl) 2).trans rfl
  have b109 := (blk_cell (HC.out.at_ 5 rfl) 0).trans rfl
  have b110 := (blk_cell (HC.out.at_ 5 rfl) 1).trans rfl
  have b111 := (blk_cell (HC.out.at_ 5 rfl) 2).trans rfl
  go_wp2_with fail
  refine (impl_NewElection.calls k _ _ x3 r10 r11 r12 r13 _ (Kd.S_reads' (HC.out.at_ 0 rfl)).2.2 (Kd.S_reads' (HC.out.at_ 0 rfl)).2.1 E34.out).mono ?_
  rintro e w14 ⟨v112, v113, v114, rfl, ho0, ho1, ho2, hb⟩
  obtain ⟨A115, c116, rfl⟩ := Kd.S_slice ho0
  obtain ⟨A117, c118, rfl⟩ := Kd.R_slice ho1
  obtain ⟨A119, c120, rfl⟩ := Kd.R_slice ho2
  replace ho0 := Kd.S_apart' ho0 (Kd.R_typed ho1) (by decide)
  replace ho0 := Kd.S_apart' ho0 (Kd.R_typed ho2) (by decide)
  replace ho1 := Kd.R_apart' ho1 (Kd.R_typed ho2) (by decide)
  obtain ⟨lo121, hi122, HC'⟩ := HC.out.push hb (Q := fun lo hi U => Kd.S k108 108 U lo (fun q => Bt lo hi q ∧ (some q ≠ (.slice A117 r11.length c118 : Value).ownBlock ∧ some q ≠ (.slice A119 r12.length c120 : Value).ownBlock)) (.slice A115 r10.length c116) r10 ∧ Kd.R k111 111 U lo (fun q => Bt lo hi q ∧ (some q ≠ (.slice A119 r12.length c120 : Value).ownBlock)) (.slice A117 r11.length c118) r11 ∧ Kd.R k114 114 U lo (fun q => Bt lo hi q ∧ (True)) (.slice A119 r12.length c120) r12) (foot_and (foot_S' (in_S' ho0 (fun q hk => ⟨(by first | exact hk | exact hk.1 | exact hk.2 | exact hk.1.1 | exact hk.1.2 | exact hk.2.1 | exact hk.2.2 | exact hk.1.1.1 | exact hk.1.1.2 | exact hk.1.2.1 | exact hk.1.2.2 | exact hk.2.1.1 | exact hk.2.1.2 | exact hk.2.2.1 | exact hk.2.2.2 | exact hk.1.1.1.1 | exact hk.1.1.1.2 | exact hk.1.1.2.1 | exact hk.1.1.2.2 | exact hk.1.2.1.1 | exact hk.1.2.1.2 | exact hk.1.2.2.1 | exact hk.1.2.2.2 | exact hk.2.1.1.1 | exact hk.2.1.1.2 | exact hk.2.1.2.1 | exact hk.2.1.2.2 | exact hk.2.2.1.1 | exact hk.2.2.1.2 | exact hk.2.2.2.1 | exact hk.2.2.2.2 | exact hk.1.1.1.1.1 | exact hk.1.1.1.1.2 | exact hk.1.1.1.2.1 | exact hk.1.1.1.2.2 | exact hk.1.1.2.1.1 | exact hk.1.1.2.1.2 | exact hk.1.1.2.2.1 | exact hk.1.1.2.2.2 | exact hk.1.2.1.1.1 | exact hk.1.2.1.1.2 | exact hk.1.2.1.2.1 | exact hk.1.2.1.2.2 | exact hk.1.2.2.1.1 | exact hk.1.2.2.1.2 | exact hk.1.2.2.2.1 | exact hk.1.2.2.2.2 | exact hk.2.1.1.1.1 | exact hk.2.1.1.1.2 | exact hk.2.1.1.2.1 | exact hk.2.1.1.2.2 | exact hk.2.1.2.1.1 | exact hk.2.1.2.1.2 | exact hk.2.1.2.2.1 | exact hk.2.1.2.2.2 | exact hk.2.2.1.1.1 | exact hk.2.2.1.1.2 | exact hk.2.2.1.2.1 | exact hk.2.2.1.2.2 | exact hk.2.2.2.1.1 | exact hk.2.2.2.1.2 | exact hk.2.2.2.2.1 | exact hk.2.2.2.2.2), (by first | exact hk | exact hk.1 | exact hk.2 | exact hk.1.1 | exact hk.1.2 | exact hk.2.1 | exact hk.2.2 | exact hk.1.1.1 | exact hk.1.1.2 | exact hk.1.2.1 | exact hk.1.2.2 | exact hk.2.1.1 | exact hk.2.1.2 | exact hk.2.2.1 | exact hk.2.2.2 | exact hk.1.1.1.1 | exact hk.1.1.1.2 | exact hk.1.1.2.1 | exact hk.1.1.2.2 | exact hk.1.2.1.1 | exact hk.1.2.1.2 | exact hk.1.2.2.1 | exact hk.1.2.2.2 | exact hk.2.1.1.1 | exact hk.2.1.1.2 | exact hk.2.1.2.1 | exact hk.2.1.2.2 | exact hk.2.2.1.1 | exact hk.2.2.1.2 | exact hk.2.2.2.1 | exact hk.2.2.2.2 | exact hk.1.1.1.1.1 | exact hk.1.1.1.1.2 | exact hk.1.1.1.2.1 | exact hk.1.1.1.2.2 | exact hk.1.1.2.1.1 | exact hk.1.1.2.1.2 | exact hk.1.1.2.2.1 | exact hk.1.1.2.2.2 | exact hk.1.2.1.1.1 | exact hk.1.2.1.1.2 | exact hk.1.2.1.2.1 | exact hk.1.2.1.2.2 | exact hk.1.2.2.1.1 | exact hk.1.2.2.1.2 | exact hk.1.2.2.2.1 | exact hk.1.2.2.2.2 | exact hk.2.1.1.1.1 | exact hk.2.1.1.1.2 | exact hk.2.1.1.2.1 | exact hk.2.1.1.2.2 | exact hk.2.1.2.1.1 | exact hk.2.1.2.1.2 | exact hk.2.1.2.2.1 | exact hk.2.1.2.2.2 | exact hk.2.2.1.1.1 | exact hk.2.2.1.1.2 | exact hk.2.2.1.2.1 | exact hk.2.2.1.2.2 | exact hk.2.2.2.1.1 | exact hk.2.2.2.1.2 | exact hk.2.2.2.2.1 | exact hk.2.2.2.2.2)⟩))) (foot_and (foot_R' (in_R' ho1 (fun q hk => (by first | exact hk | exact hk.1 | exact hk.2 | exact hk.1.1 | exact hk.1.2 | exact hk.2.1 | exact hk.2.2 | exact hk.1.1.1 | exact hk.1.1.2 | exact hk.1.2.1 | exact hk.1.2.2 | exact hk.2.1.1 | exact hk.2.1.2 | exact hk.2.2.1 | exact hk.2.2.2 | exact hk.1.1.1.1 | exact hk.1.1.1.2 | exact hk.1.1.2.1 | exact hk.1.1.2.2 | exact hk.1.2.1.1 | exact hk.1.2.1.2 | exact hk.1.2.2.1 | exact hk.1.2.2.2 | exact hk.2.1.1.1 | exact hk.2.1.1.2 | exact hk.2.1.2.1 | exact hk.2.1.2.2 | exact hk.2.2.1.1 | exact hk.2.2.1.2 | exact hk.2.2.2.1 | exact hk.2.2.2.2 | exact hk.1.1.1.1.1 | exact hk.1.1.1.1.2 | exact hk.1.1.1.2.1 | exact hk.1.1.1.2.2 | exact hk.1.1.2.1.1 | exact hk.1.1.2.1.2 | exact hk.1.1.2.2.1 | exact hk.1.1.2.2.2 | exact hk.1.2.1.1.1 | exact hk.1.2.1.1.2 | exact hk.1.2.1.2.1 | exact hk.1.2.1.2.2 | exact hk.1.2.2.1.1 | exact hk.1.2.2.1.2 | exact hk.1.2.2.2.1 | exact hk.1.2.2.2.2 | exact hk.2.1.1.1.1 | exact hk.2.1.1.1.2 | exact hk.2.1.1.2.1 | exact hk.2.1.1.2.2 | exact hk.2.1.2.1.1 | exact hk.2.1.2.1.2 | exact hk.2.1.2.2.1 | exact hk.2.1.2.2.2 | exact hk.2.2.1.1.1 | exact hk.2.2.1.1.2 | exact hk.2.2.1.2.1 | exact hk.2.2.1.2.2 | exact hk.2.2.2.1.1 | exact hk.2.2.2.1.2 | exact hk.2.2.2.2.1 | exact hk.2.2.2.2.2)))) (foot_R' (in_R' ho2 (fun q hk => trivial)))))
  replace HC := Aside0.mk HC'
  clear HC' hb ho0 ho1 ho2
  clear b106 b107 b108 b109 b110 b111
  have b123 := (blk_cell (HC.out.at_ 3 rfl) 0).trans rfl
  have b124 := (blk_cell (HC.out.at_ 3 rfl) 1).trans rfl
  have b125 := (blk_cell (HC.out.at_ 3 rfl) 2).trans rfl
  have b126 := (blk_cell (HC.out.at_ 6 rfl) 0).trans rfl
  have b127 := (blk_cell (HC.out.at_ 6 rfl) 1).trans rfl
  have b128 := (blk_cell (HC.out.at_ 6 rfl) 2).trans rfl
  have b129 : (w14.alloc (.cells #[.slice A115 r10.length c116, .slice A117 r11.length c118, .slice A119 r12.length c120] 54)).cell? ⟨w5.heap.size, 0, none⟩ = some (.slice A38 r10.length c39) := (blk_cell (blk_alloc (HC.out.at_ 3 rfl) _) 0).trans rfl
  have b130 : (w14.alloc (.cells #[.slice A115 r10.length c116, .slice A117 r11.length c118, .slice A119 r12.length c120] 54)).cell? ⟨w5.heap.size, 1, none⟩ = some (.slice A40 r11.length c41) := (blk_cell (blk_alloc (HC.out.at_ 3 rfl) _) 1).trans rfl
  have b131 : (w14.alloc (.cells #[.slice A115 r10.length c116, .slice A117 r11.length c118, .slice A119 r12.length c120] 54)).cell? ⟨w5.heap.size, 2, none⟩ = some (.slice A42 r12.length c43) := (blk_cell (blk_alloc (HC.out.at_ 3 rfl) _) 2).trans rfl
  have b132 : (w14.alloc (.cells #[.slice A115 r10.length c116, .slice A117 r11.length c118, .slice A119 r12.length c120] 54)).cell? ⟨w3.heap.size, 0, none⟩ = some (.slice A18 r10.length c19) := (blk_cell (blk_alloc (HC.out.at_ 6 rfl) _) 0).trans rfl
  have b133 : (w14.alloc (.cells #[.slice A115 r10.length c116, .slice A117 r11.length c118, .slice A119 r12.length c120] 54)).cell? ⟨w3.heap.size, 1, none⟩ = some (.slice A20 r11.length c21) := (blk_cell (blk_alloc (HC.out.at_ 6 rfl) _) 1).trans rfl
  have b134 : (w14.alloc (.cells #[.slice A115 r10.length c116, .slice A117 r11.length c118, .slice A119 r12.length c120] 54)).cell? ⟨w3.heap.size, 2, none⟩ = some (.slice A22 r12.length c23) := (blk_cell (blk_alloc (HC.out.at_ 6 rfl) _) 2).trans rfl
  go_wp2_with fail
  replace HC := Aside0.mk (HC.out.box (.cells #[.slice A115 r10.length c116, .slice A117 r11.length c118, .slice A119 r12.length c120] 54))
  refine (laws_eqElection.calls k _ _ r10 _ _ r11 _ _ r12 _ _ r10 _ _ r11 _ _ r12 true _ (Kd.S_reads' (HC.out.at_ 1 rfl).1).2.2 (Kd.S_reads' (HC.out.at_ 1 rfl).1).2.1 (Kd.R_reads' (HC.out.at_ 1 rfl).2.1).2.2 (Kd.R_reads' (HC.out.at_ 1 rfl).2.1).2.1 (Kd.R_reads' (HC.out.at_ 1 rfl).2.2).2.2 (Kd.R_reads' (HC.out.at_ 1 rfl).2.2).2.1 (Kd.S_reads' (HC.out.at_ 8 rfl).1).2.2 (Kd.S_reads' (HC.out.at_ 8 rfl).1).2.1 (Kd.R_reads' (HC.out.at_ 8 rfl).2.1).2.2 (Kd.R_reads' (HC.out.at_ 8 rfl).2.1).2.1 (Kd.R_reads' (HC.out.at_ 8 rfl).2.2).2.2 (Kd.R_reads' (HC.out.at_ 8 rfl).2.2).2.1 E52.out).mono ?_
  rintro e w15 ⟨rfl, hb⟩
  replace HC := Aside0.mk (HC.out.below hb)
  clear hb
  clear b123 b124 b125 b126 b127 b128 b129 b130 b131 b132 b133 b134
  have b135 := (blk_cell (HC.out.at_ 0 rfl) 0).trans rfl
  have b136 := (blk_cell (HC.out.at_ 0 rfl) 1).trans rfl
  have b137 := (blk_cell (HC.out.at_ 0 rfl) 2).trans rfl
  have b138 := (blk_cell (HC.out.at_ 4 rfl) 0).trans rfl
  have b139 := (blk_cell (HC.out.at_ 4 rfl) 1).trans rfl
  have b140 := (blk_cell (HC.out.at_ 4 rfl) 2).trans rfl
  have b141 := (blk_cell (HC.out.at_ 7 rfl) 0).trans rfl
  have b142 := (blk_cell (HC.out.at_ 7 rfl) 1).trans rfl
  have b143 := (blk_cell (HC.out.at_ 7 rfl) 2).trans rfl
  go_wp2_with fail
  refine (heldElection_ok _ ms2_0 mp2_0 _ ms2_1 mp2_1 _ ms2_2 mp2_2  1 _ Qmq2_0.out Qmq2_1.out Qmq2_2.out ((HC.out.at_ 5 rfl).1.sub (by intro q_ h_; simp [h_]) (by intro q_ h_; simp [h_])) ((HC.out.at_ 5 rfl).1.sub (by intro q_ h_; simp [h_]) (by intro q_ h_; simp [h_])) ((HC.out.at_ 5 rfl).1.sub (by intro q_ h_; simp [h_]) (by intro q_ h_; simp [h_])) (HC.out.at_ 5 rfl).2 (by decide) (by (try simp only [← List.append_assoc]); exact hl2.out)).mono ?_
  rintro e w16 ⟨rfl, hb⟩
  replace HC := Aside0.mk (HC.out.below hb)
  (try simp only [← List.append_assoc])
  rw [← HK2.out]
  clear hb
  clear b135 b136 b137 b138 b139 b140 b141 b142 b143
  have b144 := (blk_cell (HC.out.at_ 0 rfl) 0).trans rfl
  have b145 := (blk_cell (HC.out.at_ 0 rfl) 1).trans rfl
  have b146 := (blk_cell (HC.out.at_ 0 rfl) 2).trans rfl
  have b147 := (blk_cell (HC.out.at_ 4 rfl) 0).trans rfl
  have b148 := (blk_cell (HC.out.at_ 4 rfl) 1).trans rfl
  have b149 := (blk_cell (HC.out.at_ 4 rfl) 2).trans rfl
  have b150 := (blk_cell (HC.out.at_ 7 rfl) 0).trans rfl
  have b151 := (blk_cell (HC.out.at_ 7 rfl) 1).trans rfl
  have b152 := (blk_cell (HC.out.at_ 7 rfl) 2).trans rfl
  go_wp2
  go_ret
  exact ⟨rfl, HC.out.b⟩
set_option maxHeartbeats 8000000 in
set_option maxRecDepth 100000 in
theorem FnExactNewElection_out0 (k : Nat) (A0 : Option Addr) (c0 : Nat) (l0 : List (List Int)) (w : World) (hr0 : Kd.C (Kd.slice 3 (Kd.int .i64)) w A0 l0.length l0) (hc0 : l0.length ≤ c0) (z1 : Int) (eE2 : laws_szIntSS.f k l0 1048576 = some z1)  (hz : z1 < 0)  :
    Calls Try.prog 10 #[.slice A0 l0.length c0] w fun e w' => e = .returned (.bool true) ∧ Below w.heap.size w w' := by
  have hu54 := Try.underlying54
  have HR0 := Aside0.mk hr0
  clear hr0
  have HC := Aside0.mk (Ch.start w)
  have E2 := Aside0.mk eE2
  clear eE2
  go_enter Try.func10, Try.ntmps10
  go_wp2_with fail
  refine (laws_szIntSS.calls k _ _ l0 1048576 z1 _ (Kd.C_below HR0.out HC.out.b) hc0 E2.out).mono ?_
  rintro e w1 ⟨rfl, hb⟩
  replace HC := Aside0.mk (HC.out.drawn hb)
  clear hb
  have hz_ : decide (z1 < 0) = true := decide_eq_true hz
  clear hz
  go_wp2
  go_ret
  exact ⟨rfl, HC.out.b⟩
def FnExactNewElection_Pure : Prop := ∀ (l0 : List (List Int)), (l0.length ≤ maxLen ∧ l0.length * 24 ≤ 140737488351232 ∧ ∀ x_ ∈ l0, x_.length ≤ maxLen ∧ x_.length * 8 ≤ 140737488351232 ∧ ∀ y_ ∈ x_, (Lit.int .i64 y_).wf = true) → ∃ k : Nat, ∃ z1 : Int, laws_szIntSS.f k l0 1048576 = some z1 ∧ (z1 < 0 ∨ ¬ z1 < 0 ∧ (∃ (x3 : List (List Int)) (r10 : List (S108)) (r11 : List (S111)) (r12 : List (S114)) (r13 : Bool), laws_toIntSS.f k l0 = some x3 ∧ spec_NewElection.f k x3 = some (r10, r11, r12, r13) ∧ impl_NewElection.f k x3 = some (r10, r11, r12, r13) ∧ laws_eqElection.f k r10 r11 r12 r10 r11 r12 = some true ∧ laws_eqIntSS.f k x3 x3 = some true ∧ tot (fun y => tot (fun _ => 1) y) x3 ≤ 100000000 ∧ tot pcServer r10 ≤ 100000000 ∧ tot pcLetter r11 ≤ 100000000 ∧ tot pcVote r12 ≤ 100000000 ∧ (∀ x ∈ r10, peServer x) ∧ (∀ x ∈ r11, peLetter x) ∧ (∀ x ∈ r12, peVote x)))
theorem FnExactNewElection_calls (hP : FnExactNewElection_Pure) (l0 : List (List Int)) (A0 : Option Addr) (c0 : Nat) (b0 : l0.length ≤ maxLen ∧ l0.length * 24 ≤ 140737488351232 ∧ ∀ x_ ∈ l0, x_.length ≤ maxLen ∧ x_.length * 8 ≤ 140737488351232 ∧ ∀ y_ ∈ x_, (Lit.int .i64 y_).wf = true) (w : World) (hr0 : Kd.C (Kd.slice 3 (Kd.int .i64)) w A0 l0.length l0) (hc0 : l0.length ≤ c0) :
    Calls Try.prog 10 #[.slice A0 l0.length c0] w fun e w' => e = .returned (.bool true) ∧ Below w.heap.size w w' := by
  obtain ⟨k, hk⟩ := hP l0 b0
  obtain ⟨z1, eE2, hk⟩ := hk
  rcases hk with hz | ⟨hz_z1n, hk⟩
  · exact FnExactNewElection_out0 k A0 c0 l0 w hr0 hc0 z1 eE2  hz 
  obtain ⟨x3, r10, r11, r12, r13, eE4, eE14, eE34, eE52, eE70, hB0_, hB1_, hB2_, hB3_, hX0_, hX1_, hX2_⟩ := hk
  exact FnExactNewElection_law k A0 c0 l0 w hr0 hc0 z1 eE2 hz_z1n x3 r10 r11 r12 r13 eE4 eE14 eE34 eE52 eE70 hB0_ hB1_ hB2_ hB3_ hX0_ hX1_ hX2_ 
end Go.Proofs.Ytomdjipejoafgaa.Mk
end
section
namespace Go.Proofs.Ytomdjipejoafgaa.Pl
open Go.RowKit Go.Proofs.YtomdjipejoafgaaW.PrintWords Go.Proofs.YtomdjipejoafgaaW.PrintLast Go.Proofs.YtomdjipejoafgaaW.PrintMore
theorem wrap_in {x : Int} (h0 : -9223372036854775808 ≤ x) (h1 : x ≤ 9223372036854775807) : wrap64 x = x := by
  unfold wrap64
  omega
theorem wrap_len {n m : Nat} (h : n < m) (hm : m ≤ 4611686018427387904) : wrap64 ((n : Int) + 1) = ((n + 1 : Nat) : Int) := by
  rw [wrap_in (by omega) (by omega)]
  omega
theorem round {k d : Nat} (h : d < k) : ∃ m, k = m + 1 := ⟨k - 1, by omega⟩
theorem rd_mid (pre : List Int) (h : Int) (t : List Int) : rd (pre ++ h :: t) (pre.length : Int) = h := by
  simp [rd]
theorem rd_at {pre t l : List Int} {h : Int} (e : pre ++ h :: t = l) : rd l (pre.length : Int) = h := by
  rw [← e]; exact rd_mid pre h t
theorem len_mid {α : Type} {pre t : List α} {h : α} {l : List α} (e : pre ++ h :: t = l) : pre.length < l.length := by
  rw [← e]; simp
theorem app_mid {α : Type} {pre t : List α} {h : α} {l : List α} (e : pre ++ h :: t = l) : (pre ++ [h]) ++ t = l := by
  rw [← e]; simp
theorem len_one {α : Type} (pre : List α) (h : α) : (pre ++ [h]).length = pre.length + 1 := by simp
theorem rd_last {pre rest l : List Int} {p : Int} (e : pre ++ rest = l) (h : pre.getLast? = some p) : 0 < pre.length ∧ rd l ((pre.length : Int) - 1) = p := by
  obtain ⟨q, rfl⟩ := List.getLast?_eq_some_iff.1 h
  refine ⟨by simp, ?_⟩
  have h2 : q ++ [p] ++ rest = q ++ p :: rest := by simp
  rw [← e, h2, len_one, show (((q.length + 1 : Nat) : Int) - 1) = (q.length : Int) by omega]
  exact rd_mid q p rest
theorem no_last {α : Type} {pre : List α} (h : pre.getLast? = none) : pre = [] := by
  simpa using h
end Go.Proofs.Ytomdjipejoafgaa.Pl
end
section
namespace Go.Proofs.Ytomdjipejoafgaa.EvN
def Cm {α : Type} (f : Nat → Option α) (v : α) : Prop := ∃ K, ∀ k, K ≤ k → f k = some v
theorem cm_now {α : Type} {f : Nat → Option α} {v : α} (h : ∀ k, f k = some v) : Cm f v := ⟨0, fun k _ => h k⟩
theorem cm_step {α : Type} {f g : Nat → Option α} {v : α} (h : ∀ k, f (k + 1) = g k) (hg : Cm g v) : Cm f v := by
  obtain ⟨K, hK⟩ := hg
  refine ⟨K + 1, fun k hk => ?_⟩
  obtain ⟨m, rfl⟩ : ∃ m, k = m + 1 := ⟨k - 1, by omega⟩
  rw [h, hK m (by omega)]
theorem cm_same {α : Type} {f g : Nat → Option α} {v : α} (h : ∀ k, f k = g k) (hg : Cm g v) : Cm f v := by
  obtain ⟨K, hK⟩ := hg
  exact ⟨K, fun k hk => by rw [h, hK k hk]⟩
theorem cm_bind {α β : Type} {a : Nat → Option α} {t : α} {g : Nat → α → Option β} {v : β} (ha : Cm a t) (hg : Cm (fun k => g k t) v) : Cm (fun k => (a k).bind (g k)) v := by
  obtain ⟨K, hK⟩ := ha
  obtain ⟨M, hM⟩ := hg
  exact ⟨K + M, fun k hk => by simp only [hK k (by omega)]; exact hM k (by omega)⟩
theorem cm_yes {α : Type} {c : Prop} [Decidable c] {x y : Nat → Option α} {v : α} (h : c) (h2 : Cm x v) : Cm (fun k => if c then x k else y k) v :=
  cm_same (fun _ => if_pos h) h2
theorem cm_no {α : Type} {c : Prop} [Decidable c] {x y : Nat → Option α} {v : α} (h : ¬ c) (h2 : Cm y v) : Cm (fun k => if c then x k else y k) v :=
  cm_same (fun _ => if_neg h) h2
end Go.Proofs.Ytomdjipejoafgaa.EvN
end
section
namespace Go.Proofs.Ytomdjipejoafgaa.Lp
open Go.RowKit Go.Proofs.YtomdjipejoafgaaW.PrintWords
open Go.Proofs.Ytomdjipejoafgaa.Pl Go.Proofs.Ytomdjipejoafgaa.EvN
def okFrom {α : Type} (p : List α → α → Bool) : List α → List α → Bool
  | _, [] => true
  | pre, h :: t => p pre h && okFrom p (pre ++ [h]) t
theorem all_cm {α ρ : Type} {L : Nat → Int → Option ρ} (xs : List α) (p : List α → α → Bool) {fin no : ρ}
    (hstep : ∀ pre h t, pre ++ h :: t = xs → pre.length < xs.length → p pre h = true → ∀ v, Cm (fun k => L k ((pre.length + 1 : Nat) : Int)) v → Cm (fun k => L k (pre.length : Int)) v)
    (hno : ∀ pre h t, pre ++ h :: t = xs → pre.length < xs.length → p pre h = false → Cm (fun k => L k (pre.length : Int)) no)
    (hend : okFrom p [] xs = true → Cm (fun k => L k (xs.length : Int)) fin) : Cm (fun k => L k 0) (if okFrom p [] xs = true then fin else no) := by
  have key : ∀ (rest pre : List α), pre ++ rest = xs → (okFrom p pre rest = okFrom p [] xs) → Cm (fun k => L k (pre.length : Int)) (if okFrom p pre rest = true then fin else no) := by
    intro rest
    induction rest with
    | nil =>
      intro pre e h
      rw [List.append_nil] at e
      subst e
      simp only [okFrom, if_true] at h ⊢
      exact hend h.symm
    | cons x t ih =>
      intro pre e h
      by_cases c : p pre x = true
      · have h2 : okFrom p pre (x :: t) = okFrom p (pre ++ [x]) t := by simp only [okFrom, c, Bool.true_and]
        rw [h2] at h ⊢
        have h3 := ih (pre ++ [x]) (app_mid e) h
        rw [len_one] at h3
        exact hstep pre x t e (len_mid e) c _ h3
      · have c2 : p pre x = false := by simpa using c
        have h2 : okFrom p pre (x :: t) = false := by simp only [okFrom, c2, Bool.false_and]
        rw [h2]
        simpa using hno pre x t e (len_mid e) c2
  exact key xs [] rfl rfl
theorem okFrom_all {α : Type} (p : α → Bool) : ∀ (rest pre : List α), okFrom (fun _ h => p h) pre rest = rest.all p
  | [], _ => rfl
  | x :: t, pre => by simp only [okFrom, List.all_cons, okFrom_all p t]
theorem every_cm {α ρ : Type} {L : Nat → Int → Option ρ} (xs : List α) (p : α → Bool) {fin no : ρ}
    (hstep : ∀ pre h t, pre ++ h :: t = xs → pre.length < xs.length → p h = true → ∀ v, Cm (fun k => L k ((pre.length + 1 : Nat) : Int)) v → Cm (fun k => L k (pre.length : Int)) v)
    (hno : ∀ pre h t, pre ++ h :: t = xs → pre.length < xs.length → p h = false → Cm (fun k => L k (pre.length : Int)) no)
    (hend : xs.all p = true → Cm (fun k => L k (xs.length : Int)) fin) : Cm (fun k => L k 0) (if xs.all p = true then fin else no) := by
  have := all_cm (L := L) xs (fun _ h => p h) hstep hno (by rw [okFrom_all]; exact hend)
  rw [okFrom_all] at this
  exact this
theorem same_cm {α ρ : Type} {L : Nat → Int → Option ρ} (xs : List α) {fin : ρ}
    (hstep : ∀ pre h t, pre ++ h :: t = xs → pre.length < xs.length → ∀ v, Cm (fun k => L k ((pre.length + 1 : Nat) : Int)) v → Cm (fun k => L k (pre.length : Int)) v)
    (hend : Cm (fun k => L k (xs.length : Int)) fin) : Cm (fun k => L k 0) fin := by
  have := every_cm (L := L) xs (fun _ => true) (fin := fin) (no := fin) (fun pre h t e hl _ => hstep pre h t e hl) (fun _ _ _ _ _ hp => by cases hp) (fun _ => hend)
  have h : (xs.all fun _ => true) = true := by simp
  rw [if_pos h] at this
  exact this
theorem map_cm {α β : Type} {L : Nat → Int → List β → Option (List β)} (xs : List α) (c : α → β) (z : β)
    (hstep : ∀ pre h t acc, pre ++ h :: t = xs → pre.length < xs.length → acc.length = xs.length → ∀ u, Cm (fun k => L k ((pre.length + 1 : Nat) : Int) (acc.set pre.length (c h))) u → Cm (fun k => L k (pre.length : Int) acc) u)
    (hend : ∀ acc, acc.length = xs.length → Cm (fun k => L k (xs.length : Int) acc) acc) : Cm (fun k => L k 0 (List.replicate xs.length z)) (xs.map c) := by
  have key : ∀ (rest pre : List α) (tl : List β), pre ++ rest = xs → tl.length = rest.length → Cm (fun k => L k (pre.length : Int) (pre.map c ++ tl)) (xs.map c) := by
    intro rest
    induction rest with
    | nil =>
      intro pre tl e ht
      have ht2 : tl = [] := List.length_eq_zero_iff.1 ht
      rw [List.append_nil] at e
      subst ht2 e
      rw [List.append_nil]
      exact hend _ (by simp)
    | cons h t ih =>
      intro pre tl e ht
      match tl, ht with
      | y :: tl, ht =>
        refine hstep pre h t _ e (len_mid e) (by rw [← e]; simp at ht ⊢; omega) _ ?_
        have e2 : (pre.map c ++ y :: tl).set pre.length (c h) = (pre ++ [h]).map c ++ tl := by
          have : pre.length = (pre.map c).length := by simp
          rw [this]
          simp
        rw [e2]
        have := ih (pre ++ [h]) tl (app_mid e) (by simpa using ht)
        rw [len_one] at this
        exact this
  have := key xs [] (List.replicate xs.length z) rfl (by simp)
  simpa using this
theorem cm_if {α : Type} {c : Prop} [Decidable c] {x y : Nat → Option α} {v : α} (h : c → Cm x v) (h2 : ¬ c → Cm y v) : Cm (fun k => if c then x k else y k) v := by
  by_cases hc : c
  · exact cm_yes hc (h hc)
  · exact cm_no hc (h2 hc)
theorem getD_at {α : Type} {pre t l : List α} {h : α} (e : pre ++ h :: t = l) (d : α) : l.getD ((pre.length : Int)).toNat d = h := by
  rw [← e]; simp
theorem wrap_less {n : Nat} (h : 0 < n) (hm : n ≤ 4611686018427387904) : wrap64 ((n : Int) - 1) = (n : Int) - 1 := wrap_in (by omega) (by omega)
theorem cm_val {α : Type} {f : Nat → Option α} {u v : α} (h : Cm f u) (e : u = v) : Cm f v := e ▸ h
end Go.Proofs.Ytomdjipejoafgaa.Lp
end
section
namespace Go.Proofs.Ytomdjipejoafgaa.Hs
open Go.RowKit Go.Proofs.Ytomdjipejoafgaa.P Go.Proofs.YtomdjipejoafgaaW.PrintWords Go.Proofs.YtomdjipejoafgaaW.PrintLast Go.Proofs.YtomdjipejoafgaaW.PrintMore
open Go.Proofs.Ytomdjipejoafgaa.Pl Go.Proofs.Ytomdjipejoafgaa.EvN Go.Proofs.Ytomdjipejoafgaa.Lp
set_option linter.unusedSimpArgs false
set_option linter.unusedVariables false
theorem toIntS_f (l : List Int) (h : l.length * 8 ≤ 140737488351232) : Cm (fun k => laws_toIntS.f k l) l := by
  unfold laws_toIntS.f
  refine cm_yes (by omega) (cm_yes (by omega) ?_)
  have := map_cm (L := fun k i s => laws_toIntS.l0 k l s i) l (fun x => x) 0 ?_ ?_
  · simpa using this
  · intro pre x t acc e hlt ha u hu
    refine cm_step (fun k => by rw [laws_toIntS.l0]) ?_
    simp only [rd_at e, wrap_len hlt (show l.length ≤ 4611686018427387904 by omega), Int.toNat_natCast]
    repeat (first | assumption | exact cm_now (fun _ => rfl) | refine cm_yes (by first | omega | assumption | (simp; done) | (simp; omega)) ?_ | refine cm_no (by first | omega | assumption | (simp; done) | (simp; omega)) ?_)
  · intro acc ha
    refine cm_step (fun k => by rw [laws_toIntS.l0]) ?_
    repeat (first | assumption | exact cm_now (fun _ => rfl) | refine cm_yes (by first | omega | assumption | (simp; done) | (simp; omega)) ?_ | refine cm_no (by first | omega | assumption | (simp; done) | (simp; omega)) ?_)
theorem eqIntS_same (l : List Int) (h : l.length ≤ 4611686018427387904) : Cm (fun k => laws_eqIntS.f k l l) true := by
  unfold laws_eqIntS.f
  refine cm_yes rfl ?_
  refine same_cm (L := fun k i => laws_eqIntS.l0 k l l i) l ?_ ?_
  · intro pre x t e hlt v hv
    refine cm_step (fun k => by rw [laws_eqIntS.l0]) ?_
    simp only [rd_at e, wrap_len hlt h]
    repeat (first | assumption | exact cm_now (fun _ => rfl) | refine cm_yes (by first | omega | assumption | (simp; done) | (simp; omega) | exact rfl) ?_ | refine cm_no (by first | omega | assumption | (simp; done) | (simp; omega) | exact rfl) ?_)
  · refine cm_step (fun k => by rw [laws_eqIntS.l0]) ?_
    repeat (first | assumption | exact cm_now (fun _ => rfl) | refine cm_yes (by first | omega | assumption | (simp; done) | (simp; omega)) ?_ | refine cm_no (by first | omega | assumption | (simp; done) | (simp; omega)) ?_)
end Go.Proofs.Ytomdjipejoafgaa.Hs
end
section
namespace Go.Proofs.Ytomdjipejoafgaa.Hg
open Go.RowKit Go.Proofs.Ytomdjipejoafgaa.P Go.Proofs.YtomdjipejoafgaaW.PrintWords Go.Proofs.YtomdjipejoafgaaW.PrintLast Go.Proofs.YtomdjipejoafgaaW.PrintMore
open Go.Proofs.Ytomdjipejoafgaa.Pl Go.Proofs.Ytomdjipejoafgaa.EvN Go.Proofs.Ytomdjipejoafgaa.Lp Go.Proofs.Ytomdjipejoafgaa.Hs
set_option linter.unusedSimpArgs false
set_option linter.unusedVariables false
theorem rdT108_at {pre t l : List S108} {h : S108} (e : pre ++ h :: t = l) : rd_T108 l (pre.length : Int) = h := getD_at e _
def smServer (x : S108) : Prop := (True) ∧ (True) ∧ (True) ∧ (True) ∧ (x.f4.length ≤ 4611686018427387904) ∧ (x.f5.length ≤ 4611686018427387904)
theorem eqServer_same (x : S108) (h : smServer x) : Cm (fun k => laws_eqServer.f k x.f0 x.f1 x.f2 x.f3 x.f4 x.f5 x.f0 x.f1 x.f2 x.f3 x.f4 x.f5) true := by
  obtain ⟨h0, h1, h2, h3, h4, h5⟩ := h
  unfold laws_eqServer.f
  exact cm_yes rfl (cm_yes rfl (cm_no (by simp) (cm_no (by simp) (cm_bind (eqIntS_same _ h4) (cm_yes rfl (cm_bind (eqIntS_same _ h5) (cm_yes rfl (cm_now fun _ => rfl))))))))
theorem eqServerS_same (l : List S108) (h : l.length ≤ 4611686018427387904 ∧ ∀ y ∈ l, smServer y) : Cm (fun k => laws_eqServerS.f k l l) true := by
  unfold laws_eqServerS.f
  refine cm_yes rfl ?_
  refine same_cm (L := fun k i => laws_eqServerS.l0 k l l i) l ?_ ?_
  · intro pre x t e hlt v hv
    have hx := h.2 x (by rw [← e]; simp)
    refine cm_step (fun k => by rw [laws_eqServerS.l0]) ?_
    simp only [rdT108_at e, wrap_len hlt h.1]
    exact cm_yes (by omega) (cm_yes (by omega) (cm_yes (by omega) (cm_bind (eqServer_same x hx) (cm_yes rfl hv))))
  · refine cm_step (fun k => by rw [laws_eqServerS.l0]) ?_
    exact cm_no (by omega) (cm_now fun _ => rfl)
theorem rdT111_at {pre t l : List S111} {h : S111} (e : pre ++ h :: t = l) : rd_T111 l (pre.length : Int) = h := getD_at e _
def smLetter (x : S111) : Prop := (True) ∧ (True) ∧ (True) ∧ (True) ∧ (True) ∧ (True) ∧ (True)
theorem eqLetter_same (x : S111) (h : smLetter x) : Cm (fun k => laws_eqLetter.f x.f0 x.f1 x.f2 x.f3 x.f4 x.f5 x.f6 x.f0 x.f1 x.f2 x.f3 x.f4 x.f5 x.f6) true := by
  obtain ⟨h0, h1, h2, h3, h4, h5, h6⟩ := h
  unfold laws_eqLetter.f
  exact cm_yes rfl (cm_yes rfl (cm_yes rfl (cm_no (by simp) (cm_yes rfl (cm_yes rfl (cm_no (by simp) (cm_now fun _ => rfl)))))))
theorem eqLetterS_same (l : List S111) (h : l.length ≤ 4611686018427387904 ∧ ∀ y ∈ l, smLetter y) : Cm (fun k => laws_eqLetterS.f k l l) true := by
  unfold laws_eqLetterS.f
  refine cm_yes rfl ?_
  refine same_cm (L := fun k i => laws_eqLetterS.l0 k l l i) l ?_ ?_
  · intro pre x t e hlt v hv
    have hx := h.2 x (by rw [← e]; simp)
    refine cm_step (fun k => by rw [laws_eqLetterS.l0]) ?_
    simp only [rdT111_at e, wrap_len hlt h.1]
    exact cm_yes (by omega) (cm_yes (by omega) (cm_yes (by omega) (cm_bind (eqLetter_same x hx) (cm_yes rfl hv))))
  · refine cm_step (fun k => by rw [laws_eqLetterS.l0]) ?_
    exact cm_no (by omega) (cm_now fun _ => rfl)
theorem rdT114_at {pre t l : List S114} {h : S114} (e : pre ++ h :: t = l) : rd_T114 l (pre.length : Int) = h := getD_at e _
def smVote (x : S114) : Prop := (True) ∧ (True)
theorem eqVote_same (x : S114) (h : smVote x) : Cm (fun k => laws_eqVote.f x.f0 x.f1 x.f0 x.f1) true := by
  obtain ⟨h0, h1⟩ := h
  unfold laws_eqVote.f
  exact cm_yes rfl (cm_yes rfl (cm_now fun _ => rfl))
theorem eqVoteS_same (l : List S114) (h : l.length ≤ 4611686018427387904 ∧ ∀ y ∈ l, smVote y) : Cm (fun k => laws_eqVoteS.f k l l) true := by
  unfold laws_eqVoteS.f
  refine cm_yes rfl ?_
  refine same_cm (L := fun k i => laws_eqVoteS.l0 k l l i) l ?_ ?_
  · intro pre x t e hlt v hv
    have hx := h.2 x (by rw [← e]; simp)
    refine cm_step (fun k => by rw [laws_eqVoteS.l0]) ?_
    simp only [rdT114_at e, wrap_len hlt h.1]
    exact cm_yes (by omega) (cm_yes (by omega) (cm_yes (by omega) (cm_bind (eqVote_same x hx) (cm_yes rfl hv))))
  · refine cm_step (fun k => by rw [laws_eqVoteS.l0]) ?_
    exact cm_no (by omega) (cm_now fun _ => rfl)
def smElection (x : S54) : Prop := (x.f0.length ≤ 4611686018427387904 ∧ ∀ y ∈ x.f0, smServer y) ∧ (x.f1.length ≤ 4611686018427387904 ∧ ∀ y ∈ x.f1, smLetter y) ∧ (x.f2.length ≤ 4611686018427387904 ∧ ∀ y ∈ x.f2, smVote y)
theorem eqElection_same (x : S54) (h : smElection x) : Cm (fun k => laws_eqElection.f k x.f0 x.f1 x.f2 x.f0 x.f1 x.f2) true := by
  obtain ⟨h0, h1, h2⟩ := h
  unfold laws_eqElection.f
  exact cm_bind (eqServerS_same _ h0) (cm_yes rfl (cm_bind (eqLetterS_same _ h1) (cm_yes rfl (cm_bind (eqVoteS_same _ h2) (cm_yes rfl (cm_now fun _ => rfl))))))
end Go.Proofs.Ytomdjipejoafgaa.Hg
end
section
namespace Go.Proofs.Ytomdjipejoafgaa.Hs
open Go.RowKit Go.Proofs.Ytomdjipejoafgaa.P Go.Proofs.YtomdjipejoafgaaW.PrintWords Go.Proofs.YtomdjipejoafgaaW.PrintLast Go.Proofs.YtomdjipejoafgaaW.PrintMore
open Go.Proofs.Ytomdjipejoafgaa.Pl Go.Proofs.Ytomdjipejoafgaa.EvN Go.Proofs.Ytomdjipejoafgaa.Lp
set_option linter.unusedSimpArgs false
set_option linter.unusedVariables false
theorem rdL_at {pre t l : List (List Int)} {h : List Int} (e : pre ++ h :: t = l) : rd_L1 l (pre.length : Int) = h := getD_at e _
theorem toIntSS_f (l : List (List Int)) (h : l.length * 24 ≤ 140737488351232) (hs : ∀ x ∈ l, x.length * 8 ≤ 140737488351232) : Cm (fun k => laws_toIntSS.f k l) l := by
  unfold laws_toIntSS.f
  refine cm_yes (by omega) (cm_yes (by omega) ?_)
  have := map_cm (L := fun k i s => laws_toIntSS.l0 k l s i) l (fun x => x) [] ?_ ?_
  · simpa using this
  · intro pre x t acc e hlt ha u hu
    have hx := hs x (by rw [← e]; simp)
    refine cm_step (fun k => by rw [laws_toIntSS.l0]) ?_
    simp only [rdL_at e, wrap_len hlt (show l.length ≤ 4611686018427387904 by omega), Int.toNat_natCast]
    repeat (first | assumption | exact cm_now (fun _ => rfl) | refine cm_bind (toIntS_f _ hx) ?_ | refine cm_yes (by first | omega | assumption | (simp; done) | (simp; omega)) ?_ | refine cm_no (by first | omega | assumption | (simp; done) | (simp; omega)) ?_)
  · intro acc ha
    refine cm_step (fun k => by rw [laws_toIntSS.l0]) ?_
    repeat (first | assumption | exact cm_now (fun _ => rfl) | refine cm_yes (by first | omega | assumption | (simp; done) | (simp; omega)) ?_ | refine cm_no (by first | omega | assumption | (simp; done) | (simp; omega)) ?_)
theorem eqIntSS_same (l : List (List Int)) (h : l.length ≤ 4611686018427387904) (hs : ∀ x ∈ l, x.length ≤ 4611686018427387904) : Cm (fun k => laws_eqIntSS.f k l l) true := by
  unfold laws_eqIntSS.f
  refine cm_yes rfl ?_
  refine same_cm (L := fun k i => laws_eqIntSS.l0 k l l i) l ?_ ?_
  · intro pre x t e hlt v hv
    have hx := hs x (by rw [← e]; simp)
    refine cm_step (fun k => by rw [laws_eqIntSS.l0]) ?_
    simp only [rdL_at e, wrap_len hlt h]
    repeat (first | assumption | exact cm_now (fun _ => rfl) | refine cm_bind (eqIntS_same _ hx) ?_ | refine cm_yes (by first | omega | assumption | (simp; done) | (simp; omega) | exact rfl) ?_ | refine cm_no (by first | omega | assumption | (simp; done) | (simp; omega) | exact rfl) ?_)
  · refine cm_step (fun k => by rw [laws_eqIntSS.l0]) ?_
    repeat (first | assumption | exact cm_now (fun _ => rfl) | refine cm_yes (by first | omega | assumption | (simp; done) | (simp; omega)) ?_ | refine cm_no (by first | omega | assumption | (simp; done) | (simp; omega)) ?_)
end Go.Proofs.Ytomdjipejoafgaa.Hs
end
section
namespace Go.Proofs.Ytomdjipejoafgaa.Sz
open Go.RowKit Go.Proofs.Ytomdjipejoafgaa.P Go.Proofs.YtomdjipejoafgaaW.PrintWords Go.Proofs.YtomdjipejoafgaaW.PrintLast Go.Proofs.YtomdjipejoafgaaW.PrintMore
open Go.Proofs.Ytomdjipejoafgaa.Pl Go.Proofs.Ytomdjipejoafgaa.EvN Go.Proofs.Ytomdjipejoafgaa.Lp Go.Proofs.Ytomdjipejoafgaa.Hs
theorem wt_cm {α : Type} {L : Nat → Int → Int → Option Int} (xs : List α) (wt : α → Nat)
    (hstep : ∀ pre h t s, pre ++ h :: t = xs → pre.length < xs.length → 0 ≤ s → s ≤ 1099511627776 → (∃ v, v < 0 ∧ Cm (fun k => L k (pre.length : Int) s) v) ∨ ∃ s' : Int, 0 ≤ s' ∧ s' + (wt h : Int) = s ∧ ∀ u, Cm (fun k => L k ((pre.length + 1 : Nat) : Int) s') u → Cm (fun k => L k (pre.length : Int) s) u)
    (hend : ∀ s, Cm (fun k => L k (xs.length : Int) s) s) (s0 : Int) (h0 : 0 ≤ s0) (h1 : s0 ≤ 1099511627776) : ∃ v, Cm (fun k => L k 0 s0) v ∧ (v < 0 ∨ v + (((xs.map wt).sum : Nat) : Int) = s0) := by
  have key : ∀ (rest pre : List α) (s : Int), pre ++ rest = xs → 0 ≤ s → s ≤ 1099511627776 → ∃ v, Cm (fun k => L k (pre.length : Int) s) v ∧ (v < 0 ∨ v + (((rest.map wt).sum : Nat) : Int) = s) := by
    intro rest
    induction rest with
    | nil =>
      intro pre s e h0 h1
      rw [List.append_nil] at e
      subst e
      exact ⟨s, hend s, .inr (by simp)⟩
    | cons h t ih =>
      intro pre s e h0 h1
      rcases hstep pre h t s e (len_mid e) h0 h1 with ⟨v, hv, hc⟩ | ⟨s', hs', hw, hc⟩
      · exact ⟨v, hc, .inl hv⟩
      · obtain ⟨v, hv, hd⟩ := ih (pre ++ [h]) s' (app_mid e) hs' (by omega)
        rw [len_one] at hv
        refine ⟨v, hc v hv, hd.imp_right (fun hd => ?_)⟩
        rw [List.map_cons, List.sum_cons]
        push_cast
        omega
  exact key xs [] s0 rfl h0 h1
theorem off_wrap {n : Nat} {m : Int} (h0 : 0 ≤ m) (h1 : m ≤ 1099511627776) (h : n ≤ 4611686018427387904) : wrap64 (m - (n : Int)) = m - (n : Int) := wrap_in (by omega) (by omega)
theorem szIntS_wt (l : List Int) (hl : l.length ≤ 4611686018427387904) (m : Int) (h0 : 0 ≤ m) (h1 : m ≤ 1099511627776) : ∃ v, Cm (fun _ => laws_szIntS.f l m) v ∧ (v < 0 ∨ v + (l.length : Int) = m) := by
  unfold laws_szIntS.f
  rw [off_wrap h0 h1 hl]
  by_cases c : m - (l.length : Int) < 0
  · exact ⟨_, cm_yes c (cm_now fun _ => rfl), .inl (by omega)⟩
  · exact ⟨_, cm_no c (cm_now fun _ => rfl), .inr (by omega)⟩
theorem rdLL_at {pre t l : List (List Int)} {h : List Int} (e : pre ++ h :: t = l) : rd_L1 l (pre.length : Int) = h := getD_at e _
def wIntSS (l : List (List Int)) : Nat := l.length + (l.map List.length).sum
theorem szIntSS_wt (l : List (List Int)) (hl : l.length ≤ 4611686018427387904) (hl2 : ∀ y ∈ l, y.length ≤ 4611686018427387904) (m : Int) (h0 : 0 ≤ m) (h1 : m ≤ 1099511627776) : ∃ v, Cm (fun k => laws_szIntSS.f k l m) v ∧ (v < 0 ∨ v + (wIntSS l : Int) = m) := by
  unfold laws_szIntSS.f wIntSS
  rw [off_wrap h0 h1 hl]
  by_cases c : m - (l.length : Int) < 0
  · exact ⟨_, cm_yes c (cm_now fun _ => rfl), .inl (by omega)⟩
  · obtain ⟨v, hv, hd⟩ := wt_cm (L := fun k i s => laws_szIntSS.l0 k l s i) l List.length (fun pre x t s e hlt g0 g1 => by
      obtain ⟨v, hv, hd⟩ := szIntS_wt x (hl2 x (by rw [← e]; simp)) s g0 g1
      by_cases c2 : v < 0
      · refine .inl ⟨-1, by omega, ?_⟩
        refine cm_step (fun k => by rw [laws_szIntSS.l0]) ?_
        simp only [rdLL_at e, wrap_len hlt hl]
        exact cm_yes (by omega) (cm_yes (by omega) (cm_bind hv (cm_yes c2 (cm_now fun _ => rfl))))
      · refine .inr ⟨v, by omega, by omega, fun u hu => ?_⟩
        refine cm_step (fun k => by rw [laws_szIntSS.l0]) ?_
        simp only [rdLL_at e, wrap_len hlt hl]
        exact cm_yes (by omega) (cm_yes (by omega) (cm_bind hv (cm_no c2 hu)))) (fun s => by
      refine cm_step (fun k => by rw [laws_szIntSS.l0]) ?_
      exact cm_no (by omega) (cm_now fun _ => rfl)) (m - (l.length : Int)) (by omega) (by omega)
    exact ⟨v, cm_no c hv, by push_cast; omega⟩
theorem w_mem {α : Type} (w : α → Nat) {l : List α} {x : α} (h : x ∈ l) : w x ≤ (l.map w).sum := by
  induction l with
  | nil => simp at h
  | cons y l ih =>
    rw [List.map_cons, List.sum_cons]
    rcases List.mem_cons.1 h with rfl | h
    · omega
    · have := ih h
      omega
theorem tot_le {α : Type} (c : α → Nat) (m : Nat) : ∀ (l : List α), (∀ x ∈ l, c x ≤ m) → Mk.tot c l ≤ m * l.length
  | [], _ => Nat.zero_le _
  | x :: l, h => by
    have := tot_le c m l (fun y hy => h y (List.mem_cons_of_mem _ hy))
    have := h x List.mem_cons_self
    unfold Mk.tot at *
    simp only [List.map_cons, List.sum_cons, List.length_cons, Nat.mul_succ]
    omega
theorem tot_tot (l : List (List Int)) : Mk.tot (fun y => Mk.tot (fun _ => 1) y) l = (l.map List.length).sum := by
  unfold Mk.tot
  congr 1
  exact List.map_congr_left (fun y _ => Mk.tot_one y)
end Go.Proofs.Ytomdjipejoafgaa.Sz
end
section
namespace Go.Proofs.Ytomdjipejoafgaa.Sets
open Go.RowKit Go.Proofs.YtomdjipejoafgaaW.PrintWords Go.Proofs.YtomdjipejoafgaaW.PrintLast Go.Proofs.YtomdjipejoafgaaW.PrintMore
open Go.Proofs.Ytomdjipejoafgaa.Pl Go.Proofs.Ytomdjipejoafgaa.EvN Go.Proofs.Ytomdjipejoafgaa.Lp
set_option linter.unusedSimpArgs false
set_option linter.unusedVariables false
end Go.Proofs.Ytomdjipejoafgaa.Sets
end
section
namespace Go.Proofs.Ytomdjipejoafgaa.Mem
open Go.RowKit Go.Proofs.Ytomdjipejoafgaa.P Go.Proofs.YtomdjipejoafgaaW.PrintWords Go.Proofs.YtomdjipejoafgaaW.PrintLast Go.Proofs.YtomdjipejoafgaaW.PrintMore
open Go.Proofs.Ytomdjipejoafgaa.Pl Go.Proofs.Ytomdjipejoafgaa.EvN Go.Proofs.Ytomdjipejoafgaa.Lp Go.Proofs.Ytomdjipejoafgaa.Sets
set_option linter.unusedSimpArgs false
set_option linter.unusedVariables false
theorem in_f (a b c : Int) : impl_in.f a b c = some (decide (b ≤ a ∧ a ≤ c)) := by
  unfold impl_in.f
  by_cases h : a ≥ b
  · rw [if_pos h]; congr 1; rw [decide_eq_decide]; omega
  · rw [if_neg h]; congr 1; symm; rw [decide_eq_false_iff_not]; omega
theorem l1In_f (a b c : Int) : spec_l1In.f a b c = some (decide (b ≤ a ∧ a ≤ c)) := by
  unfold spec_l1In.f
  by_cases h : a ≥ b
  · rw [if_pos h]; congr 1; rw [decide_eq_decide]; omega
  · rw [if_neg h]; congr 1; symm; rw [decide_eq_false_iff_not]; omega
theorem last_cases {α : Type} (pre : List α) : pre = [] ∨ ∃ q, pre.getLast? = some q := by
  cases e : pre.getLast? with
  | none => exact .inl (no_last e)
  | some q => exact .inr ⟨q, rfl⟩
end Go.Proofs.Ytomdjipejoafgaa.Mem
end
section
namespace Go.Proofs.Ytomdjipejoafgaa.Mem
open Go.RowKit Go.Proofs.Ytomdjipejoafgaa.P Go.Proofs.YtomdjipejoafgaaW.PrintWords Go.Proofs.YtomdjipejoafgaaW.PrintLast Go.Proofs.YtomdjipejoafgaaW.PrintMore
open Go.Proofs.Ytomdjipejoafgaa.Pl Go.Proofs.Ytomdjipejoafgaa.EvN Go.Proofs.Ytomdjipejoafgaa.Lp Go.Proofs.Ytomdjipejoafgaa.Sets
set_option linter.unusedSimpArgs false
set_option linter.unusedVariables false
end Go.Proofs.Ytomdjipejoafgaa.Mem
end
section
namespace Go.Proofs.Ytomdjipejoafgaa.Elect
open Go.RowKit Go.Proofs.Ytomdjipejoafgaa.P Go.Proofs.YtomdjipejoafgaaW.PrintWords Go.Proofs.YtomdjipejoafgaaW.PrintLast Go.Proofs.YtomdjipejoafgaaW.PrintMore
open Go.Proofs.Ytomdjipejoafgaa.Pl Go.Proofs.Ytomdjipejoafgaa.EvN Go.Proofs.Ytomdjipejoafgaa.Lp Go.Proofs.Ytomdjipejoafgaa.Sets Go.Proofs.Ytomdjipejoafgaa.Mem Go.Proofs.Ytomdjipejoafgaa.Hg
set_option linter.unusedSimpArgs false
set_option linter.unusedVariables false
def ent1 (pre : List Int) (h : Int) : Bool := decide (0 ≤ h ∧ h ≤ 100) && (match pre.getLast? with | some q => decide (q ≤ h) | none => true)
def goodEntries (l : List Int) : Bool := okFrom ent1 [] l && decide (l.length ≤ 30)
theorem ent_yes {pre : List Int} {h : Int} (hp : ent1 pre h = true) : (0 ≤ h ∧ h ≤ 100) ∧ ∀ q, pre.getLast? = some q → q ≤ h := by
  unfold ent1 at hp
  simp only [Bool.and_eq_true, decide_eq_true_eq] at hp
  refine ⟨hp.1, fun q e => ?_⟩
  have h2 := hp.2
  rw [e] at h2
  simpa using h2
theorem ent_no {pre : List Int} {h : Int} (hp : ent1 pre h = false) (h0 : 0 ≤ h ∧ h ≤ 100) : ∃ q, pre.getLast? = some q ∧ h < q := by
  unfold ent1 at hp
  cases e : pre.getLast? with
  | none => rw [e] at hp; simp at hp; omega
  | some q =>
    rw [e] at hp
    simp at hp
    exact ⟨q, rfl, by omega⟩
theorem specEntries_f (l : List Int) (hl : l.length ≤ 4611686018427387904) : Cm (fun k => spec_GoodEntries.f k l) (goodEntries l) := by
  unfold spec_GoodEntries.f
  refine cm_val (all_cm (L := fun k i => spec_GoodEntries.l0 k l l (l.length : Int) i) l ent1 (fin := decide (l.length ≤ 30)) (no := false) ?_ ?_ ?_) ?_
  · intro pre h t e hlt hp v hv
    obtain ⟨h0, h2⟩ := ent_yes hp
    refine cm_step (fun k => by rw [spec_GoodEntries.l0]) ?_
    simp only [rd_at e, wrap_len hlt hl]
    refine cm_yes (by omega) (cm_yes (by omega) (cm_yes (by omega) (cm_bind (cm_now fun _ => l1In_f _ _ _) (cm_yes (by simp [h0]) ?_))))
    rcases last_cases pre with rfl | ⟨q, hq⟩
    · exact cm_no (by simp) hv
    · obtain ⟨h3, h4⟩ := rd_last e hq
      have h5 := h2 q hq
      rw [wrap_less h3 (by omega), h4]
      exact cm_yes (by omega) (cm_yes (by omega) (cm_yes (by omega) (cm_no (by omega) hv)))
  · intro pre h t e hlt hp
    refine cm_step (fun k => by rw [spec_GoodEntries.l0]) ?_
    simp only [rd_at e, wrap_len hlt hl]
    refine cm_yes (by omega) (cm_yes (by omega) (cm_yes (by omega) (cm_bind (cm_now fun _ => l1In_f _ _ _) (cm_if (fun c0 => ?_) (fun _ => cm_now fun _ => rfl)))))
    simp only [decide_eq_true_eq] at c0
    obtain ⟨q, hq, h5⟩ := ent_no hp c0
    obtain ⟨h3, h4⟩ := rd_last e hq
    rw [wrap_less h3 (by omega), h4]
    exact cm_yes (by omega) (cm_yes (by omega) (cm_yes (by omega) (cm_yes (by omega) (cm_now fun _ => rfl))))
  · intro _
    refine cm_step (fun k => by rw [spec_GoodEntries.l0]) ?_
    exact cm_no (by omega) (cm_now fun _ => by congr 1; rw [decide_eq_decide]; omega)
  · unfold goodEntries
    cases okFrom ent1 [] l <;> simp
theorem areEntries_f (l : List Int) (hl : l.length ≤ 4611686018427387904) : Cm (fun k => impl_areEntries.f k l) (goodEntries l) := by
  unfold impl_areEntries.f
  refine cm_val (all_cm (L := fun k i => impl_areEntries.l0 k l l (l.length : Int) i) l ent1 (fin := decide (l.length ≤ 30)) (no := false) ?_ ?_ ?_) ?_
  · intro pre h t e hlt hp v hv
    obtain ⟨h0, h2⟩ := ent_yes hp
    refine cm_step (fun k => by rw [impl_areEntries.l0]) ?_
    simp only [rd_at e, wrap_len hlt hl]
    refine cm_yes (by omega) (cm_yes (by omega) (cm_yes (by omega) (cm_bind (cm_now fun _ => in_f _ _ _) (cm_yes (by simp [h0]) ?_))))
    rcases last_cases pre with rfl | ⟨q, hq⟩
    · exact cm_no (by simp) hv
    · obtain ⟨h3, h4⟩ := rd_last e hq
      have h5 := h2 q hq
      rw [wrap_less h3 (by omega), h4]
      exact cm_yes (by omega) (cm_yes (by omega) (cm_yes (by omega) (cm_no (by omega) hv)))
  · intro pre h t e hlt hp
    refine cm_step (fun k => by rw [impl_areEntries.l0]) ?_
    simp only [rd_at e, wrap_len hlt hl]
    refine cm_yes (by omega) (cm_yes (by omega) (cm_yes (by omega) (cm_bind (cm_now fun _ => in_f _ _ _) (cm_if (fun c0 => ?_) (fun _ => cm_now fun _ => rfl)))))
    simp only [decide_eq_true_eq] at c0
    obtain ⟨q, hq, h5⟩ := ent_no hp c0
    obtain ⟨h3, h4⟩ := rd_last e hq
    rw [wrap_less h3 (by omega), h4]
    exact cm_yes (by omega) (cm_yes (by omega) (cm_yes (by omega) (cm_yes (by omega) (cm_now fun _ => rfl))))
  · intro _
    refine cm_step (fun k => by rw [impl_areEntries.l0]) ?_
    exact cm_no (by omega) (cm_now fun _ => by congr 1; rw [decide_eq_decide]; omega)
  · unfold goodEntries
    cases okFrom ent1 [] l <;> simp
end Go.Proofs.Ytomdjipejoafgaa.Elect
end
section
namespace Go.Proofs.Ytomdjipejoafgaa.Pick
open Go.RowKit Go.Proofs.YtomdjipejoafgaaW.PrintWords
open Go.Proofs.Ytomdjipejoafgaa.Pl Go.Proofs.Ytomdjipejoafgaa.EvN Go.Proofs.Ytomdjipejoafgaa.Lp
theorem gather_cm {α β ρ : Type} {L : Nat → Int → List β → Option ρ} (xs : List α) (ok : α → Bool) (g : α → β) (F : List β → ρ) (bad : ρ)
    (hyes : ∀ pre h t s, pre ++ h :: t = xs → pre.length < xs.length → s.length = pre.length → ok h = true → ∀ u, Cm (fun k => L k ((pre.length + 1 : Nat) : Int) (s ++ [g h])) u → Cm (fun k => L k (pre.length : Int) s) u)
    (hno : ∀ pre h t s, pre ++ h :: t = xs → pre.length < xs.length → ok h = false → Cm (fun k => L k (pre.length : Int) s) bad)
    (hend : Cm (fun k => L k (xs.length : Int) (xs.map g)) (F (xs.map g))) : Cm (fun k => L k 0 []) (if xs.all ok = true then F (xs.map g) else bad) := by
  have key : ∀ (rest pre : List α), pre ++ rest = xs → Cm (fun k => L k (pre.length : Int) (pre.map g)) (if rest.all ok = true then F (xs.map g) else bad) := by
    intro rest
    induction rest with
    | nil =>
      intro pre e
      rw [List.append_nil] at e
      subst e
      simpa using hend
    | cons h t ih =>
      intro pre e
      by_cases c : ok h = true
      · have := ih (pre ++ [h]) (app_mid e)
        rw [len_one] at this
        refine hyes pre h t _ e (len_mid e) (by simp) c _ ?_
        rw [List.all_cons, c, Bool.true_and]
        simpa using this
      · have c2 : ok h = false := by simpa using c
        rw [List.all_cons, c2, Bool.false_and]
        exact hno pre h t _ e (len_mid e) c2
  exact key xs [] rfl
end Go.Proofs.Ytomdjipejoafgaa.Pick
end
section
namespace Go.Proofs.Ytomdjipejoafgaa.Last
open Go.RowKit Go.Proofs.Ytomdjipejoafgaa.P Go.Proofs.YtomdjipejoafgaaW.PrintWords Go.Proofs.YtomdjipejoafgaaW.PrintLast Go.Proofs.YtomdjipejoafgaaW.PrintMore
open Go.Proofs.Ytomdjipejoafgaa.Pl Go.Proofs.Ytomdjipejoafgaa.EvN Go.Proofs.Ytomdjipejoafgaa.Lp Go.Proofs.Ytomdjipejoafgaa.Hg Go.Proofs.Ytomdjipejoafgaa.Mem Go.Proofs.Ytomdjipejoafgaa.Elect
def lastv (l : List Int) : Int := if l = [] then -1 else rd l ((l.length : Int) - 1)
theorem last_eq (l : List Int) (hl : l.length ≤ 4611686018427387904) : wrap64 ((l.length : Int) - 1) = (l.length : Int) - 1 := wrap_in (by omega) (by omega)
theorem lastOf_f (l : List Int) (hl : l.length ≤ 4611686018427387904) : impl_lastOf.f l = some (lastv l) := by
  unfold impl_lastOf.f lastv
  rw [last_eq l hl]
  by_cases c : l = []
  · subst c
    rfl
  · have : 0 < l.length := List.length_pos_iff.2 c
    rw [if_neg (by omega), if_pos (by omega), if_pos (by omega), if_neg c]
theorem l9Last_f (l : List Int) (hl : l.length ≤ 4611686018427387904) : spec_l9Last.f l = some (lastv l) := by
  unfold spec_l9Last.f lastv
  rw [last_eq l hl]
  by_cases c : l = []
  · subst c
    rfl
  · have : 0 < l.length := List.length_pos_iff.2 c
    rw [if_neg (by omega), if_pos (by omega), if_pos (by omega), if_neg c]
theorem sin_f (a b c : Int) : spec_l1In.f a b c = some (decide (b ≤ a ∧ a ≤ c)) := by
  unfold spec_l1In.f
  by_cases h : a ≥ b
  · rw [if_pos h]; simp; omega
  · rw [if_neg h]; simp; omega
end Go.Proofs.Ytomdjipejoafgaa.Last
end
section
namespace Go.Proofs.Ytomdjipejoafgaa.NewE
open Go.RowKit Go.Proofs.Ytomdjipejoafgaa.P Go.Proofs.YtomdjipejoafgaaW.PrintWords Go.Proofs.YtomdjipejoafgaaW.PrintLast Go.Proofs.YtomdjipejoafgaaW.PrintMore
open Go.Proofs.Ytomdjipejoafgaa.Pl Go.Proofs.Ytomdjipejoafgaa.EvN Go.Proofs.Ytomdjipejoafgaa.Lp Go.Proofs.Ytomdjipejoafgaa.Hs Go.Proofs.Ytomdjipejoafgaa.Hg Go.Proofs.Ytomdjipejoafgaa.Mem Go.Proofs.Ytomdjipejoafgaa.Elect Go.Proofs.Ytomdjipejoafgaa.Pick Go.Proofs.Ytomdjipejoafgaa.Last
def okLog (l : List Int) : Bool := goodEntries l && decide (lastv l ≤ 10)
def srv (l : List Int) : S108 := ⟨10, -1, false, false, [], l⟩
theorem rdL1_at {pre t l : List (List Int)} {h : List Int} (e : pre ++ h :: t = l) : rd_L1 l (pre.length : Int) = h := getD_at e _
theorem specNew_l (xs : List (List Int)) (hl : xs.length ≤ 1048576) (hy : ∀ y ∈ xs, y.length ≤ 1048576) :
    Cm (fun k => spec_NewElection.l0 k xs xs (xs.length : Int) 0 []) (if xs.all okLog = true then (if 1 ≤ xs.length ∧ xs.length ≤ 5 then (xs.map srv, [], [], true) else ([], [], [], false)) else ([], [], [], false)) := by
  refine gather_cm (L := fun k i s => spec_NewElection.l0 k xs xs (xs.length : Int) i s) xs okLog srv (fun s => if 1 ≤ xs.length ∧ xs.length ≤ 5 then (s, [], [], true) else ([], [], [], false)) ([], [], [], false) ?_ ?_ ?_
  · intro pre h t s e hlt hs hp u hu
    have hh := hy h (by rw [← e]; simp)
    unfold okLog at hp
    rw [Bool.and_eq_true, decide_eq_true_eq] at hp
    refine cm_step (fun k => by rw [spec_NewElection.l0]) ?_
    simp only [rdL1_at e, wrap_len hlt (show xs.length ≤ 4611686018427387904 by omega)]
    refine cm_yes (by omega) (cm_yes (by omega) (cm_yes (by omega) (cm_bind (specEntries_f h (by omega)) (cm_yes hp.1 (cm_bind (cm_now fun _ => l9Last_f h (by omega)) (cm_no (by omega) (cm_bind (cm_now fun _ => rfl) (cm_yes (by simp only [List.length_nil]; omega) (cm_yes (by omega) ?_)))))))))
    simpa [srv] using hu
  · intro pre h t s e hlt hp
    have hh := hy h (by rw [← e]; simp)
    refine cm_step (fun k => by rw [spec_NewElection.l0]) ?_
    simp only [rdL1_at e, wrap_len hlt (show xs.length ≤ 4611686018427387904 by omega)]
    refine cm_yes (by omega) (cm_yes (by omega) (cm_yes (by omega) (cm_bind (specEntries_f h (by omega)) (cm_if (fun c => ?_) (fun c => cm_now fun _ => rfl)))))
    refine cm_bind (cm_now fun _ => l9Last_f h (by omega)) (cm_yes ?_ (cm_now fun _ => rfl))
    unfold okLog at hp
    rw [c, Bool.true_and, decide_eq_false_iff_not] at hp
    omega
  · refine cm_step (fun k => by rw [spec_NewElection.l0]) ?_
    refine cm_no (by omega) (cm_bind (cm_now fun _ => sin_f _ _ _) (cm_if (fun c => cm_now fun _ => ?_) (fun c => cm_now fun _ => ?_)))
    · simp only [decide_eq_true_eq] at c
      rw [if_pos (by omega)]
    · simp only [decide_eq_true_eq] at c
      rw [if_neg (by omega)]
theorem implNew_l (xs : List (List Int)) (hl : xs.length ≤ 1048576) (hy : ∀ y ∈ xs, y.length ≤ 1048576) :
    Cm (fun k => impl_newElection.l0 k xs (xs.length : Int) 0 []) (if xs.all okLog = true then (xs.map srv, [], [], true) else ([], [], [], false)) := by
  refine gather_cm (L := fun k i s => impl_newElection.l0 k xs (xs.length : Int) i s) xs okLog srv (fun s => (s, [], [], true)) ([], [], [], false) ?_ ?_ ?_
  · intro pre h t s e hlt hs hp u hu
    have hh := hy h (by rw [← e]; simp)
    unfold okLog at hp
    rw [Bool.and_eq_true, decide_eq_true_eq] at hp
    refine cm_step (fun k => by rw [impl_newElection.l0]) ?_
    simp only [rdL1_at e, wrap_len hlt (show xs.length ≤ 4611686018427387904 by omega)]
    refine cm_yes (by omega) (cm_yes (by omega) (cm_yes (by omega) (cm_bind (areEntries_f h (by omega)) (cm_yes hp.1 (cm_bind (cm_now fun _ => lastOf_f h (by omega)) (cm_no (by omega) (cm_bind (cm_now fun _ => rfl) (cm_yes (by simp only [List.length_nil]; omega) (cm_yes (by omega) ?_)))))))))
    simpa [srv] using hu
  · intro pre h t s e hlt hp
    have hh := hy h (by rw [← e]; simp)
    refine cm_step (fun k => by rw [impl_newElection.l0]) ?_
    simp only [rdL1_at e, wrap_len hlt (show xs.length ≤ 4611686018427387904 by omega)]
    refine cm_yes (by omega) (cm_yes (by omega) (cm_yes (by omega) (cm_bind (areEntries_f h (by omega)) (cm_if (fun c => ?_) (fun c => cm_now fun _ => rfl)))))
    refine cm_bind (cm_now fun _ => lastOf_f h (by omega)) (cm_yes ?_ (cm_now fun _ => rfl))
    unfold okLog at hp
    rw [c, Bool.true_and, decide_eq_false_iff_not] at hp
    omega
  · refine cm_step (fun k => by rw [impl_newElection.l0]) ?_
    exact cm_no (by omega) (cm_now fun _ => rfl)
theorem new_both (xs : List (List Int)) (hl : xs.length ≤ 1048576) (hy : ∀ y ∈ xs, y.length ≤ 1048576) : ∃ r1 r2 r3 b, Cm (fun k => spec_NewElection.f k xs) (r1, r2, r3, b) ∧ Cm (fun k => impl_NewElection.f k xs) (r1, r2, r3, b) ∧
    r1.length ≤ 5 ∧ (∀ x ∈ r1, x.f4 = [] ∧ x.f5.length ≤ 1048576) ∧ r2 = [] ∧ r3 = [] := by
  by_cases h : (1 ≤ xs.length ∧ xs.length ≤ 5) ∧ xs.all okLog = true
  · refine ⟨xs.map srv, [], [], true, ?_, ?_, by rw [List.length_map]; omega, fun x hx => ?_, rfl, rfl⟩
    · unfold spec_NewElection.f
      have := specNew_l xs hl hy
      rw [if_pos h.2, if_pos h.1] at this
      exact this
    · unfold impl_NewElection.f impl_newElection.f
      have := implNew_l xs hl hy
      rw [if_pos h.2] at this
      exact cm_bind (cm_bind (cm_now fun _ => in_f _ _ _) (cm_yes (by simp; omega) this)) (cm_now fun _ => rfl)
    · obtain ⟨y, hy2, rfl⟩ := List.mem_map.1 hx
      exact ⟨rfl, hy y hy2⟩
  · refine ⟨[], [], [], false, ?_, ?_, Nat.zero_le _, fun x hx => by simp at hx, rfl, rfl⟩
    · unfold spec_NewElection.f
      have := specNew_l xs hl hy
      by_cases c : xs.all okLog = true
      · rw [if_pos c, if_neg (fun z => h ⟨z, c⟩)] at this
        exact this
      · rw [if_neg c] at this
        exact this
    · unfold impl_NewElection.f impl_newElection.f
      refine cm_bind (t := ([], [], [], false)) (cm_bind (cm_now fun _ => in_f _ _ _) (cm_if (fun c => ?_) (fun c => cm_now fun _ => rfl))) (cm_now fun _ => rfl)
      simp only [decide_eq_true_eq] at c
      have := implNew_l xs hl hy
      rw [if_neg (fun z => h ⟨by omega, z⟩)] at this
      exact this
end Go.Proofs.Ytomdjipejoafgaa.NewE
end
section
namespace Go.Proofs.Ytomdjipejoafgaa.Pure
open Go.RowKit Go.Proofs.Ytomdjipejoafgaa.P Go.Proofs.YtomdjipejoafgaaW.PrintWords Go.Proofs.YtomdjipejoafgaaW.PrintLast Go.Proofs.YtomdjipejoafgaaW.PrintMore
open Go.Proofs.Ytomdjipejoafgaa.Pl Go.Proofs.Ytomdjipejoafgaa.EvN Go.Proofs.Ytomdjipejoafgaa.Lp Go.Proofs.Ytomdjipejoafgaa.Hs Go.Proofs.Ytomdjipejoafgaa.Hg Go.Proofs.Ytomdjipejoafgaa.Sz Go.Proofs.Ytomdjipejoafgaa.Elect Go.Proofs.Ytomdjipejoafgaa.NewE
set_option linter.unusedVariables false
theorem FnExactNewElection : Mk.FnExactNewElection_Pure := by
  intro l0 b0
  obtain ⟨z1, cz1, dz1⟩ := szIntSS_wt l0 (by have := b0.2.1; omega) (fun y hy => by have := (b0.2.2 y hy).2.1; omega) 1048576 (by omega) (by omega)
  by_cases nz1 : z1 < 0
  · obtain ⟨Kz1, jz1⟩ := cz1; exact ⟨Kz1, z1, jz1 _ (by omega), .inl nz1⟩
  obtain ⟨r10, r11, r12, r13, hspec, himpl, n1, e1, e2, e3⟩ := new_both l0 (by unfold wIntSS at dz1; omega) (fun y hy => by have := w_mem List.length hy; unfold wIntSS at dz1; omega)
  have hs : smElection ⟨r10, r11, r12⟩ := ⟨⟨show r10.length ≤ _ by omega, fun y hy => by have := e1 y hy; simp [smServer, this.1]; omega⟩, ⟨by simp [e2], fun y hy => by simp [e2] at hy⟩, ⟨by simp [e3], fun y hy => by simp [e3] at hy⟩⟩
  obtain ⟨K0, j0⟩ := toIntSS_f l0 (by have := b0.2.1; omega) (fun y hy => by have := (b0.2.2 y hy).2.1; omega)
  obtain ⟨K1, j1⟩ := hspec
  obtain ⟨K2, j2⟩ := himpl
  obtain ⟨K3, j3⟩ := eqElection_same ⟨r10, r11, r12⟩ hs
  obtain ⟨K4, j4⟩ := eqIntSS_same l0 (by have := b0.2.1; omega) (fun y hy => by have := (b0.2.2 y hy).2.1; omega)
  obtain ⟨Kz1, jz1⟩ := cz1
  exact ⟨K0 + K1 + K2 + K3 + K4 + Kz1, z1, jz1 _ (by omega), .inr ⟨nz1, l0, r10, r11, r12, r13, j0 _ (by omega), j1 _ (by omega), j2 _ (by omega), j3 _ (by omega), j4 _ (by omega), (by rw [tot_tot]; unfold wIntSS at dz1; omega), (by have := tot_le Mk.pcServer 1048586 r10 (fun x hx => by have h1 := e1 x hx; unfold Mk.pcServer; rw [Mk.tot_one, Mk.tot_one, h1.1, List.length_nil]; omega); omega), (by simp [e2, Mk.tot]), (by simp [e3, Mk.tot]), (fun x hx => by simp [Mk.peServer, (e1 x hx).1, Mk.tot]), (fun x hx => by simp [e2] at hx), (fun x hx => by simp [e3] at hx)⟩⟩
end Go.Proofs.Ytomdjipejoafgaa.Pure
end
