-- Written by programs of this session (wip/prune.py, wip/xp.py), out of the translation and the printed words; what the law does not reach is left out. Not trusted: Lean checks it.
import Derived.Laws.World
import Derived.Test.YtfdgmknjmljhbaaZXCommittedRowsPx0
import Derived.Test.YtfdgmknjmljhbaaZXCommittedRowsW0
import Derived.Test.YtfdgmknjmljhbaaZXCommittedRowsPx18
import Derived.Test.YtfdgmknjmljhbaaZXCommittedRowsPx61
import Derived.Test.YtfdgmknjmljhbaaZXCommittedRowsPx8
import Derived.Test.YtfdgmknjmljhbaaZXCommittedRowsPxok
import Derived.Test.YtfdgmknjmljhbaaZXCommittedRowsPx1
import Derived.Test.YtfdgmknjmljhbaaZXCommittedRowsPx2
import Derived.Test.YtfdgmknjmljhbaaZXCommittedRowsPx4
import Derived.Laws.BitsAllLaws
import Derived.Test.YtfdgmknjmljhbaaZXCommittedRowsPx6
import Derived.Test.YtfdgmknjmljhbaaZXCommittedRowsPx7
import Derived.Test.YtfdgmknjmljhbaaZXCommittedRowsPx9
import Derived.Test.YtfdgmknjmljhbaaZXCommittedRowsPx12
section
namespace Go.Proofs.Ytfdgmknjmljhbaa.Mk
open Go.RowKit Go.Proofs.YtfdgmknjmljhbaaW.PrintWords Go.Proofs.YtfdgmknjmljhbaaW.PrintLast
set_option linter.unusedVariables false
set_option linter.unusedSimpArgs false
abbrev Pl := Nat × Nat × Bool
def adr (p : Pl) : Addr := ⟨p.1, p.2.1, none⟩
def three (k : Int) : Bool := k % 3 == 0
def mkv (t : Bool) (k : Int) : Value := if t = true then .bool (three k) else .int .i64 k
def plain : Bool → Value → Prop
  | true, u => ∃ z, u = .bool z
  | false, u => ∃ z : Int, u = .int .i64 z
theorem plain_mkv (t : Bool) (k : Int) : plain t (mkv t k) := by cases t <;> exact ⟨_, rfl⟩
theorem plain_one {s t : Bool} {u : Value} (h : plain s u) (h2 : plain t u) : s = t := by
  cases s <;> cases t <;> obtain ⟨a, rfl⟩ := h <;> obtain ⟨b, hb⟩ := h2 <;> first | rfl | cases hb
def puts : World → List Pl → Int → World
  | w, [], _ => w
  | w, p :: l, k => puts (w.setCell (adr p) (mkv p.2.2 k)) l (k + 1)
theorem set_size (w : World) (a : Addr) (u : Value) : (w.setCell a u).heap.size = w.heap.size := by simp [World.setCell]
theorem puts_size : ∀ (l : List Pl) (w : World) (k : Int), (puts w l k).heap.size = w.heap.size
  | [], _, _ => rfl
  | p :: l, w, k => by rw [puts, puts_size l, set_size]
theorem set_cong {w1 w2 : World} {i : Nat} (h : w1.heap[i]? = w2.heap[i]?) (a : Addr) (u : Value) : (w1.setCell a u).heap[i]? = (w2.setCell a u).heap[i]? := by
  simp only [World.setCell, Array.getElem?_modify, h]
theorem puts_cong {i : Nat} : ∀ (l : List Pl) {w1 w2 : World} (k : Int), w1.heap[i]? = w2.heap[i]? → (puts w1 l k).heap[i]? = (puts w2 l k).heap[i]?
  | [], _, _, _, h => h
  | p :: l, _, _, k, h => puts_cong l (k + 1) (set_cong h _ _)
theorem puts_app : ∀ (l m : List Pl) (w : World) (k : Int), puts w (l ++ m) k = puts (puts w l k) m (k + (l.length : Int))
  | [], m, w, k => by simp [puts]
  | p :: l, m, w, k => by
    rw [List.cons_append, puts, puts_app l m, puts]
    congr 1
    simp only [List.length_cons]
    omega
theorem puts_far {i : Nat} : ∀ (l : List Pl) (w : World) (k : Int), (∀ p ∈ l, p.1 ≠ i) → (puts w l k).heap[i]? = w.heap[i]?
  | [], _, _, _ => rfl
  | p :: l, w, k, h => by
    rw [puts, puts_far l _ _ (fun q hq => h q (List.mem_cons_of_mem _ hq))]
    exact Below.heap_setCell w _ _ _ (fun e => h p List.mem_cons_self e.symm)
structure Wr (w w' : World) (ps : List Pl) (k : Int) : Prop where
  os : w'.os = w.os
  tape : w'.tape = w.tape
  output : w'.output = w.output
  size : w.heap.size ≤ w'.heap.size
  block : ∀ i, i < w.heap.size → w'.heap[i]? = (puts w ps k).heap[i]?
theorem Wr.refl (w : World) (k : Int) : Wr w w [] k := ⟨rfl, rfl, rfl, Nat.le_refl _, fun _ _ => rfl⟩
theorem Wr.below {w w1 w2 : World} {ps : List Pl} {k : Int} (h : Wr w w1 ps k) (hb : Below w1.heap.size w1 w2) : Wr w w2 ps k :=
  ⟨hb.os.trans h.os, hb.tape.trans h.tape, hb.output.trans h.output, Nat.le_trans h.size hb.size, fun i hi => (hb.block i (Nat.lt_of_lt_of_le hi h.size)).trans (h.block i hi)⟩
theorem Wr.trans {w w1 w2 : World} {ps bs : List Pl} {k j : Int} (h : Wr w w1 ps k) (g : Wr w1 w2 bs j) (hj : j = k + (ps.length : Int)) : Wr w w2 (ps ++ bs) k := by
  subst hj
  refine ⟨g.os.trans h.os, g.tape.trans h.tape, g.output.trans h.output, Nat.le_trans h.size g.size, fun i hi => ?_⟩
  rw [g.block i (Nat.lt_of_lt_of_le hi h.size), puts_app]
  exact puts_cong bs _ (h.block i hi)
theorem Wr.one (w : World) (p : Pl) (k : Int) : Wr w (w.setCell (adr p) (mkv p.2.2 k)) [p] k :=
  ⟨rfl, rfl, rfl, Nat.le_of_eq (set_size w _ _).symm, fun _ _ => rfl⟩
theorem Wr.put {w w1 : World} {ps : List Pl} {k j : Int} (h : Wr w w1 ps k) (p : Pl) (hj : j = k + (ps.length : Int)) : Wr w (w1.setCell (adr p) (mkv p.2.2 j)) (ps ++ [p]) k :=
  h.trans (Wr.one w1 p j) hj
theorem Wr.kept {w w' : World} {ps : List Pl} {k : Int} {S : Nat → Prop} (h : Wr w w' ps k) (hS : ∀ p ∈ ps, S p.1) : Kept w w' S :=
  ⟨h.size, fun i hi hn => (h.block i hi).trans (puts_far ps w k (fun p hp e => hn (e ▸ hS p hp)))⟩
theorem Wr.under {w0 w w' : World} {ps : List Pl} {k : Int} (h : Wr w w' ps k) (hb : Below w0.heap.size w0 w) (ha : ∀ p ∈ ps, w0.heap.size ≤ p.1) : Below w0.heap.size w0 w' :=
  ⟨h.os.trans hb.os, h.tape.trans hb.tape, h.output.trans hb.output, Nat.le_trans hb.size h.size, fun i hi =>
    ((h.block i (Nat.lt_of_lt_of_le hi hb.size)).trans (puts_far ps w k (fun p hp e => by have := ha p hp; omega))).trans (hb.block i hi)⟩
def okc (w : World) (p : Pl) : Prop := (∃ u, w.cell? (adr p) = some u ∧ plain p.2.2 u) ∧ w.frozen? (adr p) = false
def okh (w : World) (q : (Nat × Nat) × Value) : Prop := w.cell? ⟨q.1.1, q.1.2, none⟩ = some q.2 ∧ ∃ A n c, q.2 = .slice A n c
theorem adr_ne {p q : Pl} (h : ¬ (p.1 = q.1 ∧ p.2.1 = q.2.1)) : adr p ≠ adr q := by
  intro e
  injection e with e1 e2
  exact h ⟨e1, e2⟩
theorem okc_set {w : World} {p q : Pl} (hp : okc w p) (hq : okc w q) (k : Int) : okc (w.setCell (adr p) (mkv p.2.2 k)) q := by
  refine ⟨?_, by rw [World.frozen?_setCell]; exact hq.2⟩
  obtain ⟨⟨u, hu, hpu⟩, _⟩ := hp
  obtain ⟨⟨v, hv, hpv⟩, _⟩ := hq
  by_cases c : p.1 = q.1 ∧ p.2.1 = q.2.1
  · have e : adr p = adr q := by unfold adr; rw [c.1, c.2]
    rw [e] at hu ⊢
    rw [hu] at hv
    cases hv
    exact ⟨_, World.cell?_setCell_same _ _ _ hu, by rw [plain_one hpv hpu]; exact plain_mkv _ _⟩
  · exact ⟨v, by rw [World.cell?_setCell_other (h := adr_ne c)]; exact hv, hpv⟩
theorem okh_set {w : World} {p : Pl} {q : (Nat × Nat) × Value} (hp : okc w p) (hq : okh w q) (k : Int) : okh (w.setCell (adr p) (mkv p.2.2 k)) q := by
  obtain ⟨⟨u, hu, hpu⟩, _⟩ := hp
  obtain ⟨hv, A, n, c, he⟩ := hq
  refine ⟨?_, A, n, c, he⟩
  rw [World.cell?_setCell_other]
  · exact hv
  · intro e
    rw [e, hv, he] at hu
    cases hu
    cases hb : p.2.2 <;> rw [hb] at hpu <;> obtain ⟨z, hz⟩ := hpu <;> cases hz
structure Pt (w : World) (hs : List ((Nat × Nat) × Value)) (ps : List Pl) : Prop where
  h : ∀ q ∈ hs, okh w q
  a : ∀ p ∈ ps, okc w p
theorem Pt.nil (w : World) : Pt w [] [] := ⟨fun _ h => by simp at h, fun _ h => by simp at h⟩
theorem Pt.app {w : World} {h1 h2 : List ((Nat × Nat) × Value)} {a1 a2 : List Pl} (x : Pt w h1 a1) (y : Pt w h2 a2) : Pt w (h1 ++ h2) (a1 ++ a2) :=
  ⟨fun q hq => (List.mem_append.1 hq).elim (x.h q) (y.h q), fun p hp => (List.mem_append.1 hp).elim (x.a p) (y.a p)⟩
theorem Pt.right {w : World} {h1 h2 : List ((Nat × Nat) × Value)} {a1 a2 : List Pl} (x : Pt w (h1 ++ h2) (a1 ++ a2)) : Pt w h2 a2 :=
  ⟨fun q hq => x.h q (List.mem_append_right _ hq), fun p hp => x.a p (List.mem_append_right _ hp)⟩
theorem Pt.puts {hs : List ((Nat × Nat) × Value)} {ps : List Pl} : ∀ (bs : List Pl) {w : World} (k : Int), Pt w hs ps → (∀ p ∈ bs, okc w p) → Pt (puts w bs k) hs ps
  | [], _, _, h, _ => h
  | p :: bs, w, k, h, hb => by
    have hp := hb p List.mem_cons_self
    exact Pt.puts bs (k + 1) ⟨fun q hq => okh_set hp (h.h q hq) k, fun q hq => okc_set hp (h.a q hq) k⟩ (fun q hq => okc_set hp (hb q (List.mem_cons_of_mem _ hq)) k)
theorem okc_block {w w' : World} {p : Pl} (h : okc w p) (hb : ∀ i, i < w.heap.size → w'.heap[i]? = w.heap[i]?) : okc w' p := by
  obtain ⟨⟨u, hu, hp⟩, hf⟩ := h
  have := hb _ (World.block_lt_of_cell? _ _ hu)
  exact ⟨⟨u, by rw [World.cell?_of_block this]; exact hu, hp⟩, by rw [World.frozen?_of_block this]; exact hf⟩
theorem okh_block {w w' : World} {q : (Nat × Nat) × Value} (h : okh w q) (hb : ∀ i, i < w.heap.size → w'.heap[i]? = w.heap[i]?) : okh w' q :=
  ⟨by rw [World.cell?_of_block (hb _ (World.block_lt_of_cell? _ _ h.1))]; exact h.1, h.2⟩
theorem Pt.block {w w' : World} {hs : List ((Nat × Nat) × Value)} {ps : List Pl} (h : Pt w hs ps) (hb : ∀ i, i < w.heap.size → w'.heap[i]? = w.heap[i]?) : Pt w' hs ps :=
  ⟨fun q hq => okh_block (h.h q hq) hb, fun p hp => okc_block (h.a p hp) hb⟩
theorem Pt.below {w w' : World} {hs : List ((Nat × Nat) × Value)} {ps : List Pl} (h : Pt w hs ps) (hb : Below w.heap.size w w') : Pt w' hs ps := h.block hb.block
theorem Pt.wr {w w' : World} {hs : List ((Nat × Nat) × Value)} {ps bs : List Pl} {k : Int} (h : Pt w hs ps) (hw : Wr w w' bs k) (hb : ∀ p ∈ bs, okc w p) : Pt w' hs ps :=
  (h.puts bs k hb).block (fun i hi => hw.block i (by rwa [puts_size] at hi))
theorem Pt.set {w : World} {hs : List ((Nat × Nat) × Value)} {ps : List Pl} (h : Pt w hs ps) {p : Pl} (hp : okc w p) (k : Int) : Pt (w.setCell (adr p) (mkv p.2.2 k)) hs ps :=
  ⟨fun q hq => okh_set hp (h.h q hq) k, fun q hq => okc_set hp (h.a q hq) k⟩
def Hs (w : World) (ps : List Pl) (k : Int) : Prop := ∀ (i : Nat) (p : Pl), ps[i]? = some p → w.cell? (adr p) = some (mkv p.2.2 (k + (i : Int)))
theorem Hs.block {w w' : World} {ps : List Pl} {k : Int} (h : Hs w ps k) (hb : ∀ i, i < w.heap.size → w'.heap[i]? = w.heap[i]?) : Hs w' ps k :=
  fun i p hp => by rw [World.cell?_of_block (hb _ (World.block_lt_of_cell? _ _ (h i p hp)))]; exact h i p hp
theorem Hs.below {w w' : World} {ps : List Pl} {k : Int} (h : Hs w ps k) (hb : Below w.heap.size w w') : Hs w' ps k := h.block hb.block
theorem Hs.head {w : World} {p : Pl} {ps : List Pl} {k : Int} (h : Hs w (p :: ps) k) : w.cell? (adr p) = some (mkv p.2.2 k) := by
  have := h 0 p rfl
  simpa using this
theorem Hs.right {w : World} {ps bs : List Pl} {k : Int} (h : Hs w (ps ++ bs) k) : Hs w bs (k + (ps.length : Int)) := fun i p hp => by
  have := h (ps.length + i) p (by rw [List.getElem?_append_right (by omega), Nat.add_sub_cancel_left]; exact hp)
  rw [this]
  congr 2
  omega
def apart (ps : List Pl) : Prop := (ps.map fun p => (p.1, p.2.1)).Nodup
theorem puts_cell : ∀ (l : List Pl) (w : World) (k : Int) (q : Pl), (∀ p ∈ l, ¬ (p.1 = q.1 ∧ p.2.1 = q.2.1)) → (puts w l k).cell? (adr q) = w.cell? (adr q)
  | [], _, _, _, _ => rfl
  | p :: l, w, k, q, h => by
    rw [puts, puts_cell l _ _ q (fun r hr => h r (List.mem_cons_of_mem _ hr)), World.cell?_setCell_other (h := adr_ne (h p List.mem_cons_self))]
theorem hs_puts : ∀ (ps : List Pl) {w : World} (k : Int), apart ps → (∀ p ∈ ps, okc w p) → Hs (puts w ps k) ps k
  | [], _, _, _, _ => fun i p h => by simp at h
  | q :: ps, w, k, hn, ho => by
    have hq := ho q List.mem_cons_self
    unfold apart at hn
    rw [List.map_cons, List.nodup_cons] at hn
    have ih := hs_puts ps (w := w.setCell (adr q) (mkv q.2.2 k)) (k + 1) hn.2 (fun p hp => okc_set hq (ho p (List.mem_cons_of_mem _ hp)) k)
    intro i p hp
    cases i with
    | zero =>
      simp only [List.getElem?_cons_zero, Option.some.injEq] at hp
      subst hp
      rw [puts, puts_cell ps _ _ q (fun r hr e => hn.1 (List.mem_map.2 ⟨r, hr, by rw [e.1, e.2]⟩))]
      obtain ⟨⟨u, hu, _⟩, _⟩ := hq
      rw [World.cell?_setCell_same _ _ _ hu]
      congr 2
      omega
    | succ i =>
      simp only [List.getElem?_cons_succ] at hp
      rw [puts, ih i p hp]
      congr 2
      omega
theorem Wr.hs {w w' : World} {ps : List Pl} {k : Int} (h : Wr w w' ps k) (hn : apart ps) (ho : ∀ p ∈ ps, okc w p) : Hs w' ps k :=
  (hs_puts ps k hn ho).block (fun i hi => h.block i (by rwa [puts_size] at hi))
structure Md where
  sz : Nat
  Sh : Nat → Nat → List ((Nat × Nat) × Value) → List Pl → Prop
namespace Md
def int : Md := ⟨1, fun g o hs ps => hs = [] ∧ ps = [(g, o, false)]⟩
def bool : Md := ⟨1, fun g o hs ps => hs = [] ∧ ps = [(g, o, true)]⟩
def pair (a b : Md) : Md := ⟨a.sz + b.sz, fun g o hs ps => ∃ h1 a1 h2 a2, a.Sh g o h1 a1 ∧ b.Sh g (o + a.sz) h2 a2 ∧ hs = h1 ++ h2 ∧ ps = a1 ++ a2⟩
def N (d : Md) (g : Nat) : Nat → Nat → List ((Nat × Nat) × Value) → List Pl → Prop
  | _, 0, hs, ps => hs = [] ∧ ps = []
  | j, n + 1, hs, ps => ∃ h1 a1 h2 a2, d.Sh g (j * d.sz) h1 a1 ∧ N d g (j + 1) n h2 a2 ∧ hs = h1 ++ h2 ∧ ps = a1 ++ a2
def Row (d : Md) (v : Value) (hs : List ((Nat × Nat) × Value)) (ps : List Pl) : Prop :=
  ∃ A n c, v = .slice A n c ∧ n ≤ c ∧ n ≤ 9223372036854775807 ∧ ((n = 0 ∧ hs = [] ∧ ps = []) ∨ ∃ g, A = some ⟨g, 0, none⟩ ∧ d.N g 0 n hs ps)
def Nr (d : Md) (A : Option Addr) (j n : Nat) (hs : List ((Nat × Nat) × Value)) (ps : List Pl) : Prop := (n = 0 ∧ hs = [] ∧ ps = []) ∨ ∃ g, A = some ⟨g, 0, none⟩ ∧ d.N g j n hs ps
theorem Nr_nil {d : Md} {A : Option Addr} {j : Nat} {hs : List ((Nat × Nat) × Value)} {ps : List Pl} (h : d.Nr A j 0 hs ps) : ps = [] := by
  rcases h with ⟨_, _, h⟩ | ⟨g, _, h⟩
  · exact h
  · exact h.2
theorem Nr_cons {d : Md} {A : Option Addr} {j n : Nat} {hs : List ((Nat × Nat) × Value)} {ps : List Pl} (h : d.Nr A j (n + 1) hs ps) :
    ∃ g, A = some ⟨g, 0, none⟩ ∧ ∃ h1 a1 h2 a2, d.Sh g (j * d.sz) h1 a1 ∧ d.Nr A (j + 1) n h2 a2 ∧ hs = h1 ++ h2 ∧ ps = a1 ++ a2 := by
  rcases h with ⟨h, _⟩ | ⟨g, hA, h1, a1, h2, a2, x, y, z⟩
  · cases h
  · exact ⟨g, hA, h1, a1, h2, a2, x, .inr ⟨g, hA, y⟩, z⟩
def slice (d : Md) : Md := ⟨1, fun g o hs ps => ∃ v h1, d.Row v h1 ps ∧ hs = ((g, o), v) :: h1⟩
end Md
end Go.Proofs.Ytfdgmknjmljhbaa.Mk
end
section
namespace Go.Proofs.Ytfdgmknjmljhbaa.Mk
open Go.RowKit Go.Proofs.YtfdgmknjmljhbaaW.PrintWords Go.Proofs.YtfdgmknjmljhbaaW.PrintLast
set_option linter.unusedVariables false
set_option linter.unusedSimpArgs false
theorem apart_nil : apart [] := List.nodup_nil
theorem apart_app {a b : List Pl} (ha : apart a) (hb : apart b) (h : ∀ p ∈ a, ∀ q ∈ b, ¬ (p.1 = q.1 ∧ p.2.1 = q.2.1)) : apart (a ++ b) := by
  unfold apart at *
  rw [List.map_append, List.nodup_append]
  refine ⟨ha, hb, fun x hx y hy e => ?_⟩
  obtain ⟨p, hp, rfl⟩ := List.mem_map.1 hx
  obtain ⟨q, hq, rfl⟩ := List.mem_map.1 hy
  injection e with e1 e2
  exact h p hp q hq ⟨e1, e2⟩
structure Br {α : Type} (d : Kd α) (m : Md) (c inn : α → Nat) (ex : α → Prop) : Prop where
  sz : m.sz = d.sz
  el : ∀ {w : World} {base : Nat} {ok : Nat → Prop} {x : α} {cs : List Value} {g o : Nat}, d.M w base ok x cs → (∀ k, ok k → k ≠ g) → (∀ j u, cs[j]? = some u → w.cell? ⟨g, o + j, none⟩ = some u) → (∀ j, w.frozen? ⟨g, o + j, none⟩ = false) →
    ∃ hs ps, m.Sh g o hs ps ∧ Pt w hs ps ∧ ps.length = c x ∧ (ex x → apart ps) ∧ (∀ p ∈ ps, (p.1 = g ∧ o ≤ p.2.1 ∧ p.2.1 < o + m.sz) ∨ (ok p.1 ∧ inn x ≠ 0)) ∧ ∀ q ∈ hs, q.1.1 = g ∨ ok q.1.1
namespace Br
variable {α β : Type}
theorem int : Br (Kd.int .i64) Md.int (fun _ => 1) (fun _ => 0) (fun _ => True) where
  sz := rfl
  el := by
    intro w base ok x cs g o h _ hc hf
    obtain rfl : cs = [.int .i64 x] := h
    refine ⟨[], [(g, o, false)], ⟨rfl, rfl⟩, ⟨fun _ h => by simp at h, fun p hp => ?_⟩, rfl, fun _ => by simp [apart], fun p hp => ?_, fun _ h => by simp at h⟩
    · obtain rfl := List.mem_singleton.1 hp
      exact ⟨⟨_, hc 0 _ rfl, x, rfl⟩, hf 0⟩
    · obtain rfl := List.mem_singleton.1 hp
      exact .inl ⟨rfl, Nat.le_refl _, Nat.lt_succ_self _⟩
theorem bool : Br Kd.bool Md.bool (fun _ => 1) (fun _ => 0) (fun _ => True) where
  sz := rfl
  el := by
    intro w base ok x cs g o h _ hc hf
    obtain rfl : cs = [.bool x] := h
    refine ⟨[], [(g, o, true)], ⟨rfl, rfl⟩, ⟨fun _ h => by simp at h, fun p hp => ?_⟩, rfl, fun _ => by simp [apart], fun p hp => ?_, fun _ h => by simp at h⟩
    · obtain rfl := List.mem_singleton.1 hp
      exact ⟨⟨_, hc 0 _ rfl, x, rfl⟩, hf 0⟩
    · obtain rfl := List.mem_singleton.1 hp
      exact .inl ⟨rfl, Nat.le_refl _, Nat.lt_succ_self _⟩
theorem pair {d1 : Kd α} {d2 : Kd β} {m1 m2 : Md} {c1 i1 : α → Nat} {c2 i2 : β → Nat} {e1 : α → Prop} {e2 : β → Prop} (h1 : Br d1 m1 c1 i1 e1) (h2 : Br d2 m2 c2 i2 e2) :
    Br (Kd.pair d1 d2) (Md.pair m1 m2) (fun x => c1 x.1 + c2 x.2) (fun x => i1 x.1 + i2 x.2) (fun x => e1 x.1 ∧ e2 x.2 ∧ (i1 x.1 = 0 ∨ i2 x.2 = 0)) where
  sz := by show m1.sz + m2.sz = d1.sz + d2.sz; rw [h1.sz, h2.sz]
  el := by
    rintro w base ok x cs g o ⟨u0, u1, rfl, hM1, hM2⟩ hg hc hf
    have hl := d1.K_len (d1.K_of_M hM1)
    obtain ⟨s1, a1, sh1, p1, l1, x1, b1, q1⟩ := h1.el (g := g) (o := o) hM1 hg (fun j u hu => hc j u (by rw [List.getElem?_append_left (List.getElem?_eq_some_iff.1 hu).1]; exact hu)) hf
    obtain ⟨s2, a2, sh2, p2, l2, x2, b2, q2⟩ := h2.el (g := g) (o := o + m1.sz) hM2 hg (fun j u hu => by
      have := hc (m1.sz + j) u (by rw [List.getElem?_append_right (by rw [hl, h1.sz]; omega), hl, h1.sz, Nat.add_sub_cancel_left]; exact hu)
      rw [← Nat.add_assoc] at this
      exact this) (fun j => by have := hf (m1.sz + j); rw [← Nat.add_assoc] at this; exact this)
    refine ⟨s1 ++ s2, a1 ++ a2, ⟨s1, a1, s2, a2, sh1, sh2, rfl, rfl⟩, p1.app p2, by rw [List.length_append, l1, l2], ?_, ?_, fun q hq => (List.mem_append.1 hq).elim (q1 q) (q2 q)⟩
    · rintro ⟨y1, y2, y3⟩
      refine apart_app (x1 y1) (x2 y2) (fun p hp q hq e => ?_)
      rcases b1 p hp with hp' | ⟨hp', hp2⟩
      · rcases b2 q hq with hq' | ⟨hq', _⟩
        · omega
        · exact hg _ hq' (by rw [← e.1]; exact hp'.1)
      · rcases b2 q hq with hq' | ⟨_, hq2⟩
        · exact hg _ hp' (by rw [e.1]; exact hq'.1)
        · exact y3.elim hp2 hq2
    · intro p hp
      show (p.1 = g ∧ o ≤ p.2.1 ∧ p.2.1 < o + (m1.sz + m2.sz)) ∨ _
      rcases List.mem_append.1 hp with hp | hp
      · rcases b1 p hp with hp' | hp'
        · exact .inl ⟨hp'.1, by omega, by omega⟩
        · exact .inr ⟨hp'.1, by have := hp'.2; omega⟩
      · rcases b2 p hp with hp' | hp'
        · exact .inl ⟨hp'.1, by omega, by omega⟩
        · exact .inr ⟨hp'.1, by have := hp'.2; omega⟩
theorem iso {d : Kd α} {m : Md} {c i : α → Nat} {e : α → Prop} (h : Br d m c i e) (f : β → α) : Br (Kd.iso d f) m (fun x => c (f x)) (fun x => i (f x)) (fun x => e (f x)) where
  sz := h.sz
  el := fun hM => h.el hM
end Br
section
variable {α : Type} {d : Kd α} {m : Md} {c inn : α → Nat} {ex : α → Prop}
def tot (c : α → Nat) (xs : List α) : Nat := (xs.map c).sum
theorem tot_one (xs : List α) : tot (fun _ => 1) xs = xs.length := by
  induction xs with
  | nil => rfl
  | cons x xs ih =>
    unfold tot at *
    rw [List.map_cons, List.sum_cons, ih, List.length_cons, Nat.add_comm]
theorem tot_drop (c : α → Nat) (xs : List α) (j : Nat) (h : j < xs.length) : tot c (xs.drop j) = c xs[j] + tot c (xs.drop (j + 1)) := by
  unfold tot
  rw [List.drop_eq_getElem_cons h, List.map_cons, List.sum_cons]
theorem row_n (hb : Br d m c inn ex) {w : World} {base g : Nat} {ok : Nat → Prop} {Q : Nat → Nat → Prop} (xs : List α)
    (E : ∀ i (h : i < xs.length), ∃ cs, d.M w base (fun k => ok k ∧ k ≠ g ∧ Q i k) xs[i] cs ∧ (∀ j u, cs[j]? = some u → w.cell? ⟨g, i * m.sz + j, none⟩ = some u) ∧ ∀ j, w.frozen? ⟨g, i * m.sz + j, none⟩ = false) :
    ∀ n j, j + n = xs.length → ∃ hs ps, m.N g j n hs ps ∧ Pt w hs ps ∧ ps.length = tot c (xs.drop j) ∧ (∀ q ∈ hs, q.1.1 = g ∨ ok q.1.1) ∧
      (∀ p ∈ ps, (p.1 = g ∧ j * m.sz ≤ p.2.1) ∨ (ok p.1 ∧ p.1 ≠ g ∧ ∃ i, j ≤ i ∧ Q i p.1 ∧ ∃ h : i < xs.length, inn xs[i] ≠ 0)) ∧
      ((∀ x ∈ xs, ex x) → ((∀ i i' k, Q i k → Q i' k → i = i') ∨ ∀ x ∈ xs, inn x = 0) → apart ps)
  | 0, j, e => ⟨[], [], ⟨rfl, rfl⟩, Pt.nil w, by
      rw [List.drop_eq_nil_of_le (by omega)]
      rfl, fun q hq => by simp at hq, fun p hp => by simp at hp, fun _ _ => apart_nil⟩
  | n + 1, j, e => by
    have hj : j < xs.length := by omega
    obtain ⟨cs, hM, hc, hf⟩ := E j hj
    obtain ⟨s1, a1, sh1, p1, l1, x1, b1, q1⟩ := hb.el (g := g) (o := j * m.sz) hM (fun k hk => hk.2.1) hc hf
    obtain ⟨s2, a2, sh2, p2, l2, q2, b2, x2⟩ := row_n hb xs E n (j + 1) (by omega)
    have hmul : (j + 1) * m.sz = j * m.sz + m.sz := Nat.succ_mul _ _
    refine ⟨s1 ++ s2, a1 ++ a2, ⟨s1, a1, s2, a2, sh1, sh2, rfl, rfl⟩, p1.app p2, by rw [List.length_append, l1, l2, tot_drop c xs j hj], fun q hq => (List.mem_append.1 hq).elim (fun h => (q1 q h).imp_right (·.1)) (q2 q), ?_, ?_⟩
    · intro p hp
      rcases List.mem_append.1 hp with hp | hp
      · rcases b1 p hp with hp' | hp'
        · exact .inl ⟨hp'.1, hp'.2.1⟩
        · exact .inr ⟨hp'.1.1, hp'.1.2.1, j, Nat.le_refl _, hp'.1.2.2, hj, hp'.2⟩
      · rcases b2 p hp with hp' | ⟨h1, h2, i, hi, hq, hl, hn⟩
        · exact .inl ⟨hp'.1, by omega⟩
        · exact .inr ⟨h1, h2, i, by omega, hq, hl, hn⟩
    · intro y1 y2
      refine apart_app (x1 (y1 _ (List.getElem_mem hj))) (x2 y1 y2) (fun p hp q hq e => ?_)
      rcases b1 p hp with hp' | hp'
      · rcases b2 q hq with hq' | hq'
        · omega
        · exact hq'.2.1 (by rw [← e.1]; exact hp'.1)
      · rcases b2 q hq with hq' | ⟨_, _, i, hi, hqi, hl, hn⟩
        · exact hp'.1.2.1 (by rw [e.1]; exact hq'.1)
        · rcases y2 with y2 | y2
          · have := y2 j i p.1 hp'.1.2.2 (by rw [e.1]; exact hqi)
            omega
          · exact hn (y2 _ (List.getElem_mem hl))
theorem row_R (hb : Br d m c inn ex) {e base : Nat} {w : World} {ok : Nat → Prop} {v : Value} {xs : List α} (h : d.R e w base ok v xs) :
    ∃ hs ps, m.Row v hs ps ∧ Pt w hs ps ∧ ps.length = tot c xs ∧ (∀ q ∈ hs, ok q.1.1) ∧ (∀ p ∈ ps, ok p.1 ∧ (some p.1 = v.ownBlock ∨ ∃ x ∈ xs, inn x ≠ 0)) ∧ ((∀ x ∈ xs, ex x) → (∀ x ∈ xs, inn x = 0) → apart ps) := by
  obtain ⟨A, cp, rfl, hle, hC⟩ := Kd.R_reads h
  have hmax : xs.length ≤ 9223372036854775807 := hC.2.1
  by_cases hp : 0 < xs.length
  · obtain ⟨g, cap, he, _, _, _⟩ := Kd.R_form h hp
    injection he with h1 h2 h3
    subst h1
    obtain ⟨z⟩ : Nonempty α := ⟨xs[0]⟩
    obtain ⟨hs, ps, hN, hPt, hl, hq0, hbk, hx⟩ := row_n hb (g := g) (ok := ok) (Q := fun _ _ => True) (base := base) (w := w) xs (fun i hi => by
      obtain ⟨cs, _, hM, hc, hf⟩ := Kd.R_elem h z (i : Int) (by omega) (by omega)
      rw [Int.toNat_natCast] at hM hc hf
      rw [List.getD_eq_getElem?_getD, List.getElem?_eq_getElem hi, Option.getD_some] at hM
      rw [← hb.sz] at hc hf
      exact ⟨cs, d.M_mono (fun k hk => ⟨hk.1, hk.2, trivial⟩) hM, hc, hf⟩) xs.length 0 (by omega)
    refine ⟨hs, ps, ⟨_, _, _, rfl, hle, hmax, .inr ⟨g, rfl, hN⟩⟩, hPt, by rw [hl, List.drop_zero], fun q hq => (hq0 q hq).elim (fun e => by rw [e]; exact h.1 g rfl) id, fun p hp => ?_, fun y1 y2 => hx y1 (.inr y2)⟩
    rcases hbk p hp with hp' | ⟨hp', _, i, _, _, hl, hn⟩
    · exact ⟨by rw [hp'.1]; exact h.1 g rfl, .inl (by rw [hp'.1]; rfl)⟩
    · exact ⟨hp', .inr ⟨_, List.getElem_mem hl, hn⟩⟩
  · have h0 : xs = [] := List.eq_nil_of_length_eq_zero (by omega)
    subst h0
    exact ⟨[], [], ⟨_, _, _, rfl, hle, hmax, .inl ⟨rfl, rfl, rfl⟩⟩, Pt.nil w, rfl, fun q hq => by simp at hq, fun p hp => by simp at hp, fun _ _ => apart_nil⟩
theorem row_S (hb : Br d m c inn ex) {e base : Nat} {w : World} {ok : Nat → Prop} {v : Value} {xs : List α} (h : Kd.S d e w base ok v xs) :
    ∃ hs ps, m.Row v hs ps ∧ Pt w hs ps ∧ ps.length = tot c xs ∧ (∀ q ∈ hs, ok q.1.1) ∧ (∀ p ∈ ps, ok p.1 ∧ (some p.1 = v.ownBlock ∨ ∃ x ∈ xs, inn x ≠ 0)) ∧ ((∀ x ∈ xs, ex x) → apart ps) := by
  have hR := Kd.S_R h
  obtain ⟨A, cp, rfl, hle, hC⟩ := Kd.R_reads hR
  have hmax : xs.length ≤ 9223372036854775807 := hC.2.1
  obtain ⟨f, hf_⟩ := h
  by_cases hp : 0 < xs.length
  · obtain ⟨g, cap, he, _, _, _⟩ := Kd.R_form hR hp
    injection he with h1 h2 h3
    subst h1
    obtain ⟨z⟩ : Nonempty α := ⟨xs[0]⟩
    obtain ⟨hs, ps, hN, hPt, hl, hq0, hbk, hx⟩ := row_n hb (g := g) (ok := ok) (Q := fun i k => f k = i) (base := base) (w := w) xs (fun i hi => by
      obtain ⟨cs, _, hM, hc, hf⟩ := Kd.R_elem hf_ (z, 0) (i : Int) (by omega) (by omega)
      rw [Int.toNat_natCast] at hM hc hf
      rw [List.getD_eq_getElem?_getD, Kd.zip_at (List.getElem?_eq_getElem hi), Option.getD_some] at hM
      rw [show (Kd.tag f d).sz = m.sz from hb.sz.symm] at hc hf
      exact ⟨cs, d.M_mono (fun k hk => ⟨hk.1.1, hk.1.2, hk.2⟩) hM, hc, hf⟩) xs.length 0 (by omega)
    refine ⟨hs, ps, ⟨_, _, _, rfl, hle, hmax, .inr ⟨g, rfl, hN⟩⟩, hPt, by rw [hl, List.drop_zero], fun q hq => (hq0 q hq).elim (fun e => by rw [e]; exact hR.1 g rfl) id, fun p hp => ?_, fun y1 => hx y1 (.inl fun i i' k h1 h2 => h1.symm.trans h2)⟩
    rcases hbk p hp with hp' | ⟨hp', _, i, _, _, hl, hn⟩
    · exact ⟨by rw [hp'.1]; exact hR.1 g rfl, .inl (by rw [hp'.1]; rfl)⟩
    · exact ⟨hp', .inr ⟨_, List.getElem_mem hl, hn⟩⟩
  · have h0 : xs = [] := List.eq_nil_of_length_eq_zero (by omega)
    subst h0
    exact ⟨[], [], ⟨_, _, _, rfl, hle, hmax, .inl ⟨rfl, rfl, rfl⟩⟩, Pt.nil w, rfl, fun q hq => by simp at hq, fun p hp => by simp at hp, fun _ => apart_nil⟩
theorem Br.slice (hb : Br d m c inn ex) (e : Nat) (h0 : ∀ x, inn x = 0) : Br (Kd.slice e d) (Md.slice m) (fun xs => tot c xs) (fun xs => tot c xs) (fun xs => ∀ x ∈ xs, ex x) where
  sz := rfl
  el := by
    rintro w base ok x cs g o ⟨v, rfl, hR⟩ hg hc hf
    obtain ⟨hs, ps, hr, hPt, hl, hq0, hbk, hx⟩ := row_R hb hR
    obtain ⟨A, n, cp, hv, _⟩ := hr
    refine ⟨((g, o), v) :: hs, ps, ⟨v, hs, ⟨A, n, cp, hv, by assumption⟩, rfl⟩, ⟨fun q hq => ?_, hPt.a⟩, hl, fun y => hx y (fun x _ => h0 x), fun p hp => .inr ⟨(hbk p hp).1, ?_⟩, fun q hq => ?_⟩
    · rcases List.mem_cons.1 hq with rfl | hq
      · exact ⟨hc 0 _ rfl, A, n, cp, hv⟩
      · exact hPt.h q hq
    · show tot c x ≠ 0
      have := List.length_pos_of_mem hp
      omega
    · rcases List.mem_cons.1 hq with rfl | hq
      · exact .inl rfl
      · exact .inr (hq0 q hq)
end
structure Sg (w : World) (k : Int) (wr : World) (pre : List Pl) (hs : List ((Nat × Nat) × Value)) (ps : List Pl) (kk : Int) : Prop where
  ek : kk = k + (pre.length : Int)
  pt : Pt wr hs ps
  wr : Wr w wr pre k
theorem Pt.sub {w : World} {hs h1 : List ((Nat × Nat) × Value)} {ps a1 : List Pl} (h : Pt w hs ps) (x : ∀ q ∈ h1, q ∈ hs) (y : ∀ q ∈ a1, q ∈ ps) : Pt w h1 a1 := ⟨fun q hq => h.h q (x q hq), fun q hq => h.a q (y q hq)⟩
namespace Sg
variable {w wr w2 : World} {k kk : Int} {pre ps qs a1 a2 : List Pl} {hs h1 h2 : List ((Nat × Nat) × Value)}
theorem start (h : Pt w hs ps) (k : Int) : Sg w k w [] hs ps k := ⟨by simp, h, Wr.refl w k⟩
theorem put (h : Sg w k wr pre hs ps kk) {b o : Nat} {t : Bool} (hm : (b, o, t) ∈ ps) {v : Value} (hv : v = mkv t kk) : Sg w k (wr.setCell ⟨b, o, none⟩ v) (pre ++ [(b, o, t)]) hs ps (kk + 1) := by
  subst hv
  refine ⟨by rw [h.ek, List.length_append, List.length_singleton]; omega, h.pt.set (p := (b, o, t)) (h.pt.a _ hm) kk, h.wr.put (b, o, t) h.ek⟩
theorem call (h : Sg w k wr pre hs ps kk) (hw : Wr wr w2 qs kk) (hq : ∀ q ∈ qs, q ∈ ps) : Sg w k w2 (pre ++ qs) hs ps (kk + (qs.length : Int)) :=
  ⟨by rw [h.ek, List.length_append]; omega, h.pt.wr hw (fun p hp => h.pt.a p (hq p hp)), h.wr.trans hw h.ek⟩
theorem below (h : Sg w k wr pre hs ps kk) (hb : Below wr.heap.size wr w2) : Sg w k w2 pre hs ps kk := ⟨h.ek, h.pt.below hb, h.wr.below hb⟩
theorem rest (h : Sg w k wr pre (h1 ++ h2) (a1 ++ a2) kk) : Sg w k wr pre h2 a2 kk := ⟨h.ek, h.pt.right, h.wr⟩
theorem cell (h : Sg w k wr pre hs ps kk) {b o : Nat} {t : Bool} (hm : (b, o, t) ∈ ps) : ∃ u, wr.cell? ⟨b, o, none⟩ = some u ∧ wr.frozen? ⟨b, o, none⟩ = false := by
  obtain ⟨⟨u, hu, _⟩, hf⟩ := h.pt.a _ hm
  exact ⟨u, hu, hf⟩
theorem head (h : Sg w k wr pre hs ps kk) {b o : Nat} {v : Value} (hm : ((b, o), v) ∈ hs) : wr.cell? ⟨b, o, none⟩ = some v := (h.pt.h _ hm).1
theorem sub (h : Sg w k wr pre hs ps kk) (x : ∀ q ∈ h1, q ∈ hs) (y : ∀ q ∈ a1, q ∈ ps) : Pt wr h1 a1 := h.pt.sub x y
theorem narrow (h : Sg w k wr pre hs ps kk) (x : ∀ q ∈ h1, q ∈ hs) (y : ∀ q ∈ a1, q ∈ ps) : Sg w k wr pre h1 a1 kk := ⟨h.ek, h.pt.sub x y, h.wr⟩
end Sg
theorem Wr.after {w wb w2 : World} {ps : List Pl} {k : Int} (hb : Below w.heap.size w wb) (h : Wr wb w2 ps k) : Wr w w2 ps k :=
  ⟨h.os.trans hb.os, h.tape.trans hb.tape, h.output.trans hb.output, Nat.le_trans hb.size h.size, fun i hi =>
    (h.block i (Nat.lt_of_lt_of_le hi hb.size)).trans (puts_cong ps k (hb.block i hi))⟩
theorem Md.Row_slice {d : Md} {v : Value} {hs : List ((Nat × Nat) × Value)} {ps : List Pl} (h : d.Row v hs ps) : ∃ A n c, v = .slice A n c := by
  obtain ⟨A, n, c, e, _⟩ := h
  exact ⟨A, n, c, e⟩
structure Sq (w : World) (k : Int) (wr : World) (pre : List Pl) (hs : List ((Nat × Nat) × Value)) (ps : List Pl) (kk : Int) : Prop where
  ek : kk = k + (pre.length : Int)
  pt : Pt wr hs ps
  hd : Hs wr ps kk
  bl : Below w.heap.size w wr
theorem Hs.tail {w : World} {p : Pl} {ps : List Pl} {k : Int} (h : Hs w (p :: ps) k) : Hs w ps (k + 1) := by
  have := Hs.right (ps := [p]) (bs := ps) h
  simpa using this
namespace Sq
variable {w wr w2 : World} {k kk : Int} {pre ps qs a1 a2 : List Pl} {hs h1 h2 : List ((Nat × Nat) × Value)} {p : Pl}
theorem start (h : Pt w hs ps) (g : Hs w ps k) : Sq w k w [] hs ps k := ⟨by simp, h, g, Below.refl _ _⟩
theorem cell {b o : Nat} {t : Bool} (h : Sq w k wr pre hs ((b, o, t) :: ps) kk) : wr.cell? ⟨b, o, none⟩ = some (mkv t kk) := h.hd.head (p := (b, o, t))
theorem tail (h : Sq w k wr pre hs (p :: ps) kk) : Sq w k wr (pre ++ [p]) hs ps (kk + 1) :=
  ⟨by rw [h.ek, List.length_append, List.length_singleton]; omega, ⟨h.pt.h, fun q hq => h.pt.a q (List.mem_cons_of_mem _ hq)⟩, h.hd.tail, h.bl⟩
theorem call (h : Sq w k wr pre hs (a1 ++ a2) kk) (hb : Below wr.heap.size wr w2) : Sq w k w2 (pre ++ a1) hs a2 (kk + (a1.length : Int)) :=
  ⟨by rw [h.ek, List.length_append]; omega, ⟨(h.pt.below hb).h, fun q hq => (h.pt.below hb).a q (List.mem_append_right _ hq)⟩, h.hd.right.below hb, h.bl.trans (hb.mono h.bl.size)⟩
theorem head (h : Sq w k wr pre hs ps kk) {b o : Nat} {v : Value} (hm : ((b, o), v) ∈ hs) : wr.cell? ⟨b, o, none⟩ = some v := (h.pt.h _ hm).1
theorem narrow (h : Sq w k wr pre hs ps kk) (x : ∀ q ∈ h1, q ∈ hs) : Sq w k wr pre h1 ps kk := ⟨h.ek, h.pt.sub x (fun _ hq => hq), h.hd, h.bl⟩
end Sq
end Go.Proofs.Ytfdgmknjmljhbaa.Mk
end
section
namespace Go.Proofs.Ytfdgmknjmljhbaa.Mk
open Go.RowKit Go.Proofs.YtfdgmknjmljhbaaW.PrintWords Go.Proofs.YtfdgmknjmljhbaaW.PrintLast
set_option linter.unusedVariables false
set_option linter.unusedSimpArgs false
def Bt (lo hi : Nat) (q : Nat) : Prop := lo ≤ q ∧ q < hi
abbrev Item := Nat × Nat × (World → Prop)
def Chn (n0 : Nat) (W : World) : List Item → Prop
  | [] => True
  | (lo, hi, P) :: L => n0 ≤ lo ∧ lo ≤ hi ∧ hi ≤ W.heap.size ∧ Foot P W (Bt lo hi) ∧ (∀ y ∈ L, y.2.1 ≤ lo) ∧ Chn n0 W L
theorem Chn.step {n0 : Nat} {W W' : World} {S : Nat → Prop} (hk : Kept W W' S) : ∀ {L : List Item}, (∀ y ∈ L, ∀ q, Bt y.1 y.2.1 q → ¬ S q) → Chn n0 W L → Chn n0 W' L
  | [], _, _ => trivial
  | (lo, hi, P) :: L, hd, ⟨h1, h2, h3, h4, h5, h6⟩ =>
    ⟨h1, h2, Nat.le_trans h3 hk.1, h4.step (fun k hk' hlt => hk.2 k hlt (hd _ List.mem_cons_self k hk')), h5, Chn.step hk (fun y hy => hd y (List.mem_cons_of_mem _ hy)) h6⟩
theorem Chn.lt {n0 : Nat} {W : World} : ∀ {L : List Item}, Chn n0 W L → ∀ y ∈ L, n0 ≤ y.1 ∧ y.1 ≤ y.2.1 ∧ y.2.1 ≤ W.heap.size
  | [], _, y, hy => by simp at hy
  | (lo, hi, P) :: L, ⟨h1, h2, h3, _, _, h6⟩, y, hy => by
    rcases List.mem_cons.1 hy with rfl | hy
    · exact ⟨h1, h2, h3⟩
    · exact Chn.lt h6 y hy
structure Ch (w W : World) (L : List Item) : Prop where
  b : Below w.heap.size w W
  c : Chn w.heap.size W L
namespace Ch
variable {w W W' : World} {L L1 L2 : List Item} {lo hi : Nat} {P P' : World → Prop}
theorem start (w : World) : Ch w w [] := ⟨Below.refl _ _, trivial⟩
theorem below (h : Ch w W L) (hb : Below W.heap.size W W') : Ch w W' L := ⟨below_step h.b hb, Chn.step (Kept.of_below hb (fun _ => False)) (fun _ _ _ _ h => h) h.c⟩
theorem drawn (h : Ch w W L) (hd : Drawn0 W W') : Ch w W' L := by
  obtain ⟨n, rfl⟩ := hd.out
  exact h.below (pw_below_drewN (Below.refl _ _) n)
theorem push (h : Ch w W L) (hb : Below W.heap.size W W') {Q : Nat → Nat → World → Prop} (hQ : Foot (Q W.heap.size W'.heap.size) W' (Bt W.heap.size W'.heap.size)) : ∃ lo hi, Ch w W' ((lo, hi, Q lo hi) :: L) :=
  ⟨W.heap.size, W'.heap.size, (h.below hb).b, h.b.size, hb.size, Nat.le_refl _, hQ, fun y hy => (h.c.lt y hy).2.2, (h.below hb).c⟩
theorem get (h : Ch w W L) : ∀ (i : Nat), L[i]? = some (lo, hi, P) → P W ∧ Foot P W (Bt lo hi) := by
  have key : ∀ {L : List Item}, Chn w.heap.size W L → ∀ (i : Nat), L[i]? = some (lo, hi, P) → P W ∧ Foot P W (Bt lo hi) := by
    intro L
    induction L with
    | nil => intro _ i e; simp at e
    | cons y L ih =>
      intro hc i e
      obtain ⟨a, b, Q⟩ := y
      cases i with
      | zero =>
        simp only [List.getElem?_cons_zero, Option.some.injEq, Prod.mk.injEq] at e
        obtain ⟨rfl, rfl, rfl⟩ := e
        exact ⟨hc.2.2.2.1.now, hc.2.2.2.1⟩
      | succ i => exact ih hc.2.2.2.2.2 i (by simpa using e)
  exact key h.c
theorem at_ (h : Ch w W L) (i : Nat) (e : L[i]? = some (lo, hi, P)) : P W := (h.get i e).1
theorem mark (h : Ch w W (L1 ++ (lo, hi, P) :: L2)) (hk : Kept W W' (Bt lo hi)) (hb : Below w.heap.size w W') (hP : Foot P' W' (Bt lo hi)) : Ch w W' (L1 ++ (lo, hi, P') :: L2) := by
  refine ⟨hb, ?_⟩
  have key : ∀ {L1 : List Item}, Chn w.heap.size W (L1 ++ (lo, hi, P) :: L2) → Chn w.heap.size W' (L1 ++ (lo, hi, P') :: L2) := by
    intro L1
    induction L1 with
    | nil =>
      rintro ⟨h1, h2, h3, h4, h5, h6⟩
      exact ⟨h1, h2, Nat.le_trans h3 hk.1, hP, h5, Chn.step hk (fun y hy q hq hq2 => by have := h5 y hy; have := hq.2; have := hq2.1; omega) h6⟩
    | cons y L1 ih =>
      obtain ⟨a, b, Q⟩ := y
      rintro ⟨h1, h2, h3, h4, h5, h6⟩
      refine ⟨h1, h2, Nat.le_trans h3 hk.1, h4.step (fun k hk' hlt => hk.2 k hlt (fun hq => ?_)), ?_, ih h6⟩
      · have := h5 (lo, hi, P) (List.mem_append_right _ List.mem_cons_self)
        have := hk'.1
        have := hq.2
        simp only at *
        omega
      · intro y hy
        rcases List.mem_append.1 hy with hy | hy
        · exact h5 y (List.mem_append_left _ hy)
        · rcases List.mem_cons.1 hy with rfl | hy
          · exact h5 (lo, hi, P) (List.mem_append_right _ List.mem_cons_self)
          · exact h5 y (List.mem_append_right _ (List.mem_cons_of_mem _ hy))
  exact key h.c
theorem lt_ (h : Ch w W (L1 ++ (lo, hi, P) :: L2)) : w.heap.size ≤ lo := (h.c.lt (lo, hi, P) (List.mem_append_right _ List.mem_cons_self)).1
theorem wr {ps : List Pl} {k : Int} (h : Ch w W (L1 ++ (lo, hi, P) :: L2)) (hw : Wr W W' ps k) (hp : ∀ p ∈ ps, Bt lo hi p.1) (hP : Foot P' W' (Bt lo hi)) : Ch w W' (L1 ++ (lo, hi, P') :: L2) :=
  h.mark (hw.kept hp) (hw.under h.b (fun p hq => Nat.le_trans h.lt_ (hp p hq).1)) hP
theorem wr0 {ps : List Pl} {k : Int} (h : Ch w W (L1 ++ (lo, hi, P) :: L2)) (hw : Wr W W' ps k) (hp : ∀ p ∈ ps, Bt lo hi p.1) : Ch w W' (L1 ++ (lo, hi, fun _ => True) :: L2) :=
  h.wr hw hp (fun _ _ => trivial)
end Ch
section
variable {α : Type} {d : Kd α} {e : Nat} {W W' : World} {lo hi : Nat} {v : Value} {xs : List α}
theorem foot_R (h : d.R e W lo (Bt lo hi) v xs) : Foot (fun U => d.R e U lo (Bt lo hi) v xs) W (Bt lo hi) := fun _ hW => Kd.R_step h hW
theorem foot_S (h : Kd.S d e W lo (Bt lo hi) v xs) : Foot (fun U => Kd.S d e U lo (Bt lo hi) v xs) W (Bt lo hi) := fun _ hW => Kd.S_step h hW
theorem in_R {ok : Nat → Prop} (h : d.R e W' W.heap.size ok v xs) : d.R e W' W.heap.size (Bt W.heap.size W'.heap.size) v xs := Kd.R_mono (Kd.R_bound h) (fun _ hk => ⟨hk.2.1, hk.2.2.1⟩)
theorem in_S {ok : Nat → Prop} (h : Kd.S d e W' W.heap.size ok v xs) : Kd.S d e W' W.heap.size (Bt W.heap.size W'.heap.size) v xs := Kd.S_mono (Kd.S_bound h) (fun _ hk => ⟨hk.2.1, hk.2.2.1⟩)
theorem foot_and {P Q : World → Prop} {ok : Nat → Prop} (h : Foot P W ok) (g : Foot Q W ok) : Foot (fun U => P U ∧ Q U) W ok := fun U hU => ⟨h U hU, g U hU⟩
end
theorem foot_blk {W : World} {g : Nat} {o : Obj} {lo hi : Nat} (h : W.heap[g]? = some o) (hg : Bt lo hi g) : Foot (fun U => U.heap[g]? = some o) W (Bt lo hi) := fun _ hU => (hU g hg (blk_lt h)).trans h
theorem foot_pt {W : World} {hs : List ((Nat × Nat) × Value)} {ps : List Pl} {ok : Nat → Prop} (h : Pt W hs ps) (h1 : ∀ q ∈ hs, ok q.1.1) (h2 : ∀ p ∈ ps, ok p.1) : Foot (fun U => Pt U hs ps) W ok := fun U hU => by
  refine ⟨fun q hq => ?_, fun p hp => ?_⟩
  · have a := h.h q hq
    exact ⟨by rw [World.cell?_of_block (hU _ (h1 q hq) (World.block_lt_of_cell? _ _ a.1))]; exact a.1, a.2⟩
  · obtain ⟨⟨u, hu, hpu⟩, hf⟩ := h.a p hp
    have e := hU _ (h2 p hp) (World.block_lt_of_cell? _ _ hu)
    exact ⟨⟨u, by rw [World.cell?_of_block e]; exact hu, hpu⟩, by rw [World.frozen?_of_block e]; exact hf⟩
theorem foot_hs {W : World} {ps : List Pl} {k : Int} {ok : Nat → Prop} (h : Hs W ps k) (h2 : ∀ p ∈ ps, ok p.1) : Foot (fun U => Hs U ps k) W ok := fun U hU i p hp => by
  rw [World.cell?_of_block (hU _ (h2 p (List.mem_of_getElem? hp)) (World.block_lt_of_cell? _ _ (h i p hp)))]
  exact h i p hp
theorem Ch.box {w W : World} {L : List Item} (h : Ch w W L) (o : Obj) : Ch w (W.alloc o) ((W.heap.size, W.heap.size + 1, fun U => U.heap[W.heap.size]? = some o) :: L) := by
  have hb := below_alloc (Below.refl W.heap.size W) o
  refine ⟨(h.below hb).b, h.b.size, Nat.le_succ _, by simp, foot_blk (blk_new W o) ⟨Nat.le_refl _, Nat.lt_succ_self _⟩, fun y hy => (h.c.lt y hy).2.2, (h.below hb).c⟩
end Go.Proofs.Ytfdgmknjmljhbaa.Mk
end
section
namespace Go.Proofs.Ytfdgmknjmljhbaa.Mk
open Go.RowKit Go.Proofs.Ytfdgmknjmljhbaa.P Go.Proofs.YtfdgmknjmljhbaaW.PrintWords Go.Proofs.YtfdgmknjmljhbaaW.PrintLast Go.Proofs.YtfdgmknjmljhbaaW.PrintMore
set_option linter.unusedVariables false
set_option linter.unusedSimpArgs false
set_option maxHeartbeats 4000000 in
set_option maxRecDepth 100000 in
theorem markIntS_ok (v : Value) (hs : List ((Nat × Nat) × Value)) (ps : List Pl) (k : Int) (w : World) (hr : Md.Row (Md.int) v hs ps) (hp : Pt w hs ps) (h0 : 0 ≤ k) (h1 : k + (ps.length : Int) ≤ 1000000000) :
    Calls Try.prog 17 #[v, .int .i64 k] w fun e w' => e = .returned (.int .i64 (k + (ps.length : Int))) ∧ Wr w w' ps k := by
  obtain ⟨A, n, c, rfl, hnc, hmax, hN0⟩ := hr
  have HN : Aside0 (Md.Nr (Md.int) A 0 n hs ps) := ⟨hN0⟩
  have HG := Aside0.mk (Sg.start hp k)
  clear hN0 hp hnc
  go_enter Try.func17, Try.ntmps17
  go_wp2
  go_loopg [1, 5] n (fun kq v1 v5 w' => ∃ (j : Nat) (kk : Int) (pre : List Pl) (hs1 : List ((Nat × Nat) × Value)) (ps1 : List Pl), v1 = .int .i64 kk ∧ v5 = .int .i64 (j : Int) ∧ Aside0 (j + kq = n) ∧ Aside0 (ps = pre ++ ps1) ∧ Aside0 (Md.Nr (Md.int) A j kq hs1 ps1) ∧ Aside0 (Sg w k w' pre hs1 ps1 kk))
  case atStart => exact ⟨0, k, [], hs, ps, rfl, rfl, ⟨by omega⟩, ⟨rfl⟩, HN, HG⟩
  case round =>
    clear HN HG
    obtain ⟨j, kk, pre, hs1, ps1, rfl, rfl, HJ, HS, HN, HG⟩ := hrel
    cases gk with
    | zero =>
      have hd : decide ((j : Int) < (n : Int)) = false := decide_eq_false (by have := HJ.out; omega)
      have hd2 : decide (j < n) = false := decide_eq_false (by have := HJ.out; omega)
      go_wp2
      go_ret
      have e0 := Md.Nr_nil HN.out
      have e1 := HS.out
      subst e0
      rw [List.append_nil] at e1
      subst e1
      exact ⟨by rw [HG.out.ek]; rfl, HG.out.wr⟩
    | succ m =>
      have hd : decide ((j : Int) < (n : Int)) = true := decide_eq_true (by have := HJ.out; omega)
      have hd2 : decide (j < n) = true := decide_eq_true (by have := HJ.out; omega)
      have hlt : j < n := by have := HJ.out; omega
      have hlt2 : (j : Int) < (n : Int) := by omega
      obtain ⟨g, rfl, s1, a1, s2, a2, hsh, hn2, rfl, rfl⟩ := Md.Nr_cons HN.out
      clear HN
      have HN2 := Aside0.mk hn2
      clear hn2
      obtain ⟨rfl, rfl⟩ := (show (Md.int).Sh g (j * 1) s1 a1 from hsh)
      simp only [Nat.mul_one] at HG HS
      have hk0 : 0 ≤ kk := by have := HG.out.ek; omega
      have hk1 : kk ≤ 1000000000 := by have := HG.out.ek; have := HS.out; subst this; simp only [List.length_append] at h1; omega
      obtain ⟨u0_0, x0_0, f0_0⟩ := HG.out.cell (b := g) (o := j) (t := false) (by simp)
      go_wp2
      go_roundg m
      case measure => omega
      case rel =>
        have HZ := (Sg.put HG.out (b := g) (o := j) (t := false) (by simp) rfl).narrow (h1 := s2) (a1 := a2) (by intro q_ hq_; simp [hq_]) (by intro q_ hq_; simp [hq_])
        exact ⟨j + 1, _, _, s2, a2, rfl, by go_num, ⟨by have := HJ.out; omega⟩, ⟨by rw [HS.out]; simp⟩, HN2, ⟨HZ⟩⟩
def mdRow : Md := Md.pair Md.int (Md.int)
def pcRow (x : S92) : Nat := 1 + (1)
def piRow (x : S92) : Nat := 0 + (0)
def peRow (x : S92) : Prop := True ∧ (True) ∧ (0 = 0 ∨ 0 = 0)
theorem brRow : Br k92 mdRow pcRow piRow peRow := (Br.pair Br.int (Br.int)).iso (fun x : S92 => (x.f0, x.f1))
def mdReplica : Md := Md.pair (Md.slice mdRow) (Md.pair Md.int (Md.int))
def pcReplica (x : S80) : Nat := tot pcRow x.f0 + (1 + (1))
def piReplica (x : S80) : Nat := tot pcRow x.f0 + (0 + (0))
def peReplica (x : S80) : Prop := (∀ y ∈ x.f0, peRow y) ∧ (True ∧ (True) ∧ (0 = 0 ∨ 0 = 0)) ∧ (tot pcRow x.f0 = 0 ∨ 0 + (0) = 0)
theorem brReplica : Br k80 mdReplica pcReplica piReplica peReplica := (Br.pair (Br.slice brRow 92 (fun _ => rfl)) (Br.pair Br.int (Br.int))).iso (fun x : S80 => (x.f0, x.f1, x.f2))
theorem mdReplica_open {g o : Nat} {hs : List ((Nat × Nat) × Value)} {ps : List Pl} (h : mdReplica.Sh g o hs ps) : ∃ v0 h0 b0, mdRow.Row v0 h0 b0 ∧ hs = (((g, o), v0) :: h0) ∧ ps = b0 ++ [(g, o + 1, false)] ++ [(g, o + 2, false)] := by
  obtain ⟨_, b0, _, _, ⟨v0, h0, r0, rfl⟩, ⟨_, _, _, _, ⟨rfl, rfl⟩, ⟨rfl, rfl⟩, rfl, rfl⟩, rfl, rfl⟩ := h
  exact ⟨v0, h0, b0, r0, by simp [mdReplica, Md.pair, Md.int, Md.bool, Md.slice, Nat.add_assoc], by simp [mdReplica, Md.pair, Md.int, Md.bool, Md.slice, Nat.add_assoc]⟩
theorem mdRow_open {g o : Nat} {hs : List ((Nat × Nat) × Value)} {ps : List Pl} (h : mdRow.Sh g o hs ps) : hs = [] ∧ ps = [(g, o, false)] ++ [(g, o + 1, false)] := by
  obtain ⟨_, _, _, _, ⟨rfl, rfl⟩, ⟨rfl, rfl⟩, rfl, rfl⟩ := h
  exact ⟨by simp [mdRow, Md.pair, Md.int, Md.bool, Md.slice, Nat.add_assoc], by simp [mdRow, Md.pair, Md.int, Md.bool, Md.slice, Nat.add_assoc]⟩
set_option maxHeartbeats 4000000 in
set_option maxRecDepth 100000 in
theorem markRowS_ok (v : Value) (hs : List ((Nat × Nat) × Value)) (ps : List Pl) (k : Int) (w : World) (hr : Md.Row (mdRow) v hs ps) (hp : Pt w hs ps) (h0 : 0 ≤ k) (h1 : k + (ps.length : Int) ≤ 1000000000) :
    Calls Try.prog 42 #[v, .int .i64 k] w fun e w' => e = .returned (.int .i64 (k + (ps.length : Int))) ∧ Wr w w' ps k := by
  obtain ⟨A, n, c, rfl, hnc, hmax, hN0⟩ := hr
  have HN : Aside0 (Md.Nr (mdRow) A 0 n hs ps) := ⟨hN0⟩
  have HG := Aside0.mk (Sg.start hp k)
  clear hN0 hp hnc
  go_enter Try.func42, Try.ntmps42
  go_wp2
  go_loopg [1, 5] n (fun kq v1 v5 w' => ∃ (j : Nat) (kk : Int) (pre : List Pl) (hs1 : List ((Nat × Nat) × Value)) (ps1 : List Pl), v1 = .int .i64 kk ∧ v5 = .int .i64 (j : Int) ∧ Aside0 (j + kq = n) ∧ Aside0 (ps = pre ++ ps1) ∧ Aside0 (Md.Nr (mdRow) A j kq hs1 ps1) ∧ Aside0 (Sg w k w' pre hs1 ps1 kk))
  case atStart => exact ⟨0, k, [], hs, ps, rfl, rfl, ⟨by omega⟩, ⟨rfl⟩, HN, HG⟩
  case round =>
    clear HN HG
    obtain ⟨j, kk, pre, hs1, ps1, rfl, rfl, HJ, HS, HN, HG⟩ := hrel
    cases gk with
    | zero =>
      have hd : decide ((j : Int) < (n : Int)) = false := decide_eq_false (by have := HJ.out; omega)
      have hd2 : decide (j < n) = false := decide_eq_false (by have := HJ.out; omega)
      go_wp2
      go_ret
      have e0 := Md.Nr_nil HN.out
      have e1 := HS.out
      subst e0
      rw [List.append_nil] at e1
      subst e1
      exact ⟨by rw [HG.out.ek]; rfl, HG.out.wr⟩
    | succ m =>
      have hd : decide ((j : Int) < (n : Int)) = true := decide_eq_true (by have := HJ.out; omega)
      have hd2 : decide (j < n) = true := decide_eq_true (by have := HJ.out; omega)
      have hlt : j < n := by have := HJ.out; omega
      have hlt2 : (j : Int) < (n : Int) := by omega
      obtain ⟨g, rfl, s1, a1, s2, a2, hsh, hn2, rfl, rfl⟩ := Md.Nr_cons HN.out
      clear HN
      have HN2 := Aside0.mk hn2
      clear hn2
      obtain ⟨rfl, rfl⟩ := mdRow_open (show mdRow.Sh g (j * 2) s1 a1 from hsh)
      have hk0 : 0 ≤ kk := by have := HG.out.ek; omega
      have hk1 : kk ≤ 1000000000 := by have := HG.out.ek; have := HS.out; subst this; simp only [List.length_append] at h1; omega
      obtain ⟨u0_0, x0_0, f0_0⟩ := HG.out.cell (b := g) (o := j * 2) (t := false) (by simp)
      obtain ⟨u0_1, x0_1, f0_1⟩ := HG.out.cell (b := g) (o := j * 2 + 1) (t := false) (by simp)
      go_wp2
      go_roundg m
      case measure => omega
      case rel =>
        have HZ := (Sg.put (Sg.put HG.out (b := g) (o := j * 2) (t := false) (by simp) rfl) (b := g) (o := j * 2 + 1) (t := false) (by simp) rfl).narrow (h1 := s2) (a1 := a2) (by intro q_ hq_; simp [hq_]) (by intro q_ hq_; simp [hq_])
        exact ⟨j + 1, _, _, s2, a2, rfl, by go_num, ⟨by have := HJ.out; omega⟩, ⟨by rw [HS.out]; simp⟩, HN2, ⟨HZ⟩⟩
set_option maxHeartbeats 4000000 in
set_option maxRecDepth 100000 in
theorem markReplicaS_ok (v : Value) (hs : List ((Nat × Nat) × Value)) (ps : List Pl) (k : Int) (w : World) (hr : Md.Row (mdReplica) v hs ps) (hp : Pt w hs ps) (h0 : 0 ≤ k) (h1 : k + (ps.length : Int) ≤ 1000000000) :
    Calls Try.prog 55 #[v, .int .i64 k] w fun e w' => e = .returned (.int .i64 (k + (ps.length : Int))) ∧ Wr w w' ps k := by
  obtain ⟨A, n, c, rfl, hnc, hmax, hN0⟩ := hr
  have HN : Aside0 (Md.Nr (mdReplica) A 0 n hs ps) := ⟨hN0⟩
  have HG := Aside0.mk (Sg.start hp k)
  clear hN0 hp hnc
  go_enter Try.func55, Try.ntmps55
  go_wp2
  go_loopg [1, 5] n (fun kq v1 v5 w' => ∃ (j : Nat) (kk : Int) (pre : List Pl) (hs1 : List ((Nat × Nat) × Value)) (ps1 : List Pl), v1 = .int .i64 kk ∧ v5 = .int .i64 (j : Int) ∧ Aside0 (j + kq = n) ∧ Aside0 (ps = pre ++ ps1) ∧ Aside0 (Md.Nr (mdReplica) A j kq hs1 ps1) ∧ Aside0 (Sg w k w' pre hs1 ps1 kk))
  case atStart => exact ⟨0, k, [], hs, ps, rfl, rfl, ⟨by omega⟩, ⟨rfl⟩, HN, HG⟩
  case round =>
    clear HN HG
    obtain ⟨j, kk, pre, hs1, ps1, rfl, rfl, HJ, HS, HN, HG⟩ := hrel
    cases gk with
    | zero =>
      have hd : decide ((j : Int) < (n : Int)) = false := decide_eq_false (by have := HJ.out; omega)
      have hd2 : decide (j < n) = false := decide_eq_false (by have := HJ.out; omega)
      go_wp2
      go_ret
      have e0 := Md.Nr_nil HN.out
      have e1 := HS.out
      subst e0
      rw [List.append_nil] at e1
      subst e1
      exact ⟨by rw [HG.out.ek]; rfl, HG.out.wr⟩
    | succ m =>
      have hd : decide ((j : Int) < (n : Int)) = true := decide_eq_true (by have := HJ.out; omega)
      have hd2 : decide (j < n) = true := decide_eq_true (by have := HJ.out; omega)
      have hlt : j < n := by have := HJ.out; omega
      have hlt2 : (j : Int) < (n : Int) := by omega
      obtain ⟨g, rfl, s1, a1, s2, a2, hsh, hn2, rfl, rfl⟩ := Md.Nr_cons HN.out
      clear HN
      have HN2 := Aside0.mk hn2
      clear hn2
      obtain ⟨v0, h0, b0, r0, rfl, rfl⟩ := mdReplica_open (show mdReplica.Sh g (j * 3) s1 a1 from hsh)
      obtain ⟨A0, n0, c0, rfl⟩ := Md.Row_slice r0
      have R0 := Aside0.mk r0
      clear r0
      have hk0 : 0 ≤ kk := by have := HG.out.ek; omega
      have hk1 : kk ≤ 1000000000 := by have := HG.out.ek; have := HS.out; subst this; simp only [List.length_append] at h1; omega
      have x0_0 : wr.cell? ⟨g, j * 3, none⟩ = some (.slice A0 n0 c0) := HG.out.head (by simp)
      obtain ⟨u0_1, x0_1, f0_1⟩ := HG.out.cell (b := g) (o := j * 3 + 1) (t := false) (by simp)
      obtain ⟨u0_2, x0_2, f0_2⟩ := HG.out.cell (b := g) (o := j * 3 + 2) (t := false) (by simp)
      go_wp2_with fail
      have HG1 := Aside0.mk HG.out
      refine (markRowS_ok _ h0 b0 _ _ R0.out (HG1.out.sub (by intro q_ hq_; simp [hq_]) (by intro q_ hq_; simp [hq_])) (by omega) (by have := HG1.out.ek; have := HS.out; subst this; simp only [List.length_append, List.length_cons, List.length_nil] at *; omega)).mono ?_
      rintro e w1 ⟨rfl, hw⟩
      have HC1 := Aside0.mk (HG1.out.call hw (by intro q_ hq_; simp [hq_]))
      obtain ⟨kq1, hkq⟩ : ∃ kq_ : Int, kq_ = kk + (b0.length : Int) := ⟨_, rfl⟩
      rw [← hkq] at HC1 ⊢
      have hq0_1 : 0 ≤ kq1 := by omega
      have hq1_1 : kq1 ≤ 1000000000 := by have := HC1.out.ek; have := HS.out; subst this; simp only [List.length_append, List.length_cons, List.length_nil] at *; omega
      clear hkq hw
      clear x0_0 x0_1 f0_1 x0_2 f0_2
      have x1_0 : w1.cell? ⟨g, j * 3, none⟩ = some (.slice A0 n0 c0) := HC1.out.head (by simp)
      obtain ⟨u1_1, x1_1, f1_1⟩ := HC1.out.cell (b := g) (o := j * 3 + 1) (t := false) (by simp)
      obtain ⟨u1_2, x1_2, f1_2⟩ := HC1.out.cell (b := g) (o := j * 3 + 2) (t := false) (by simp)
      go_wp2
      go_roundg m
      case measure => omega
      case rel =>
        have HZ := (Sg.put (Sg.put HC1.out (b := g) (o := j * 3 + 1) (t := false) (by simp) rfl) (b := g) (o := j * 3 + 2) (t := false) (by simp) rfl).narrow (h1 := s2) (a1 := a2) (by intro q_ hq_; simp [hq_]) (by intro q_ hq_; simp [hq_])
        exact ⟨j + 1, _, _, s2, a2, rfl, by go_num, ⟨by have := HJ.out; omega⟩, ⟨by rw [HS.out]; simp⟩, HN2, ⟨HZ⟩⟩
set_option maxHeartbeats 4000000 in
set_option maxRecDepth 100000 in
theorem markGroup_ok (v2 : Value) (s2 : List ((Nat × Nat) × Value)) (b2 : List Pl) (v4 : Value) (s4 : List ((Nat × Nat) × Value)) (b4 : List Pl) (z0 : Int) (z1 : Int) (z3 : Int) (k : Int) (w : World) (r2 : Md.Row (Md.int) v2 s2 b2) (r4 : Md.Row (mdReplica) v4 s4 b4) (p2 : Pt w s2 b2) (p4 : Pt w s4 b4) (h0 : 0 ≤ k) (h1 : k + ((b2 ++ b4).length : Int) ≤ 1000000000) :
    Calls Try.prog 23 #[.agg #[.int .i64 z0, .int .i64 z1, v2, .int .i64 z3, v4], .int .i64 k] w fun e w' => e = .returned (.int .i64 (k + ((b2 ++ b4).length : Int))) ∧ Wr w w' (b2 ++ b4) k := by
  obtain ⟨A2, n2, c2, rfl⟩ := Md.Row_slice r2
  have R2 := Aside0.mk r2
  clear r2
  obtain ⟨A4, n4, c4, rfl⟩ := Md.Row_slice r4
  have R4 := Aside0.mk r4
  clear r4
  have hb := below_alloc (Below.refl w.heap.size w) (.cells #[.int .i64 z0, .int .i64 z1, .slice A2 n2 c2, .int .i64 z3, .slice A4 n4 c4] 36)
  have hx : Pt (w.alloc (.cells #[.int .i64 z0, .int .i64 z1, .slice A2 n2 c2, .int .i64 z3, .slice A4 n4 c4] 36)) ([((w.heap.size, 2), Value.slice A2 n2 c2), ((w.heap.size, 4), Value.slice A4 n4 c4)] ++ (s2 ++ (s4))) (b2 ++ (b4)) := ⟨fun q hq => (List.mem_append.1 hq).elim (fun hq => ?_) (((p2.app p4).below hb).h q), ((p2.app p4).below hb).a⟩
  rotate_left
  · simp only [List.mem_cons, List.not_mem_nil, or_false] at hq
    rcases hq with rfl | rfl
    all_goals exact ⟨by rw [World.cell?_alloc_new]; rfl, _, _, _, rfl⟩
  have HG0 := Aside0.mk (Sg.start hx k)
  have HB := Aside0.mk hb
  clear hx hb p2 p4
  go_enter Try.func23, Try.ntmps23
  try simp only [List.append_assoc] at h1
  try simp only [List.append_assoc]
  go_wp2_with fail
  refine (markIntS_ok _ s2 b2 _ _ R2.out (HG0.out.sub (by intro q_ hq_; simp [hq_]) (by intro q_ hq_; simp [hq_])) (by omega) (by have := HG0.out.ek; simp only [List.length_append, List.length_cons, List.length_nil] at *; omega)).mono ?_
  rintro e w1 ⟨rfl, hw⟩
  have HG1 := Aside0.mk (HG0.out.call hw (by intro q_ hq_; simp [hq_]))
  obtain ⟨kq1, hkq⟩ : ∃ kq_ : Int, kq_ = k + (b2.length : Int) := ⟨_, rfl⟩
  rw [← hkq] at HG1 ⊢
  have hq0_1 : 0 ≤ kq1 := by omega
  have hq1_1 : kq1 ≤ 1000000000 := by have := HG1.out.ek; simp only [List.length_append, List.length_cons, List.length_nil] at *; omega
  clear hkq hw
  have x1_4 : w1.cell? ⟨w.heap.size, 4, none⟩ = some (.slice A4 n4 c4) := HG1.out.head (by simp)
  go_wp2_with fail
  refine (markReplicaS_ok _ s4 b4 _ _ R4.out (HG1.out.sub (by intro q_ hq_; simp [hq_]) (by intro q_ hq_; simp [hq_])) (by omega) (by have := HG1.out.ek; simp only [List.length_append, List.length_cons, List.length_nil] at *; omega)).mono ?_
  rintro e w2 ⟨rfl, hw⟩
  have HG2 := Aside0.mk (HG1.out.call hw (by intro q_ hq_; simp [hq_]))
  obtain ⟨kq2, hkq⟩ : ∃ kq_ : Int, kq_ = kq1 + (b4.length : Int) := ⟨_, rfl⟩
  rw [← hkq] at HG2 ⊢
  have hq0_2 : 0 ≤ kq2 := by omega
  have hq1_2 : kq2 ≤ 1000000000 := by have := HG2.out.ek; simp only [List.length_append, List.length_cons, List.length_nil] at *; omega
  clear hkq hw
  clear x1_4
  go_wp2
  go_ret
  have HZ := HG2.out
  (try simp only [List.nil_append, List.append_assoc] at HZ)
  exact ⟨by rw [HZ.ek]; rfl, Wr.after HB.out HZ.wr⟩
set_option maxHeartbeats 4000000 in
set_option maxRecDepth 100000 in
theorem heldRowS_ok (v : Value) (hs : List ((Nat × Nat) × Value)) (ps : List Pl) (k : Int) (w : World) (hr : Md.Row (mdRow) v hs ps) (hp : Pt w hs ps) (hh : Hs w ps k) (h0 : 0 ≤ k) (h1 : k + (ps.length : Int) ≤ 1000000000) :
    Calls Try.prog 43 #[v, .int .i64 k] w fun e w' => e = .returned (.int .i64 (k + (ps.length : Int))) ∧ Below w.heap.size w w' := by
  obtain ⟨A, n, c, rfl, hnc, hmax, hN0⟩ := hr
  have HN : Aside0 (Md.Nr (mdRow) A 0 n hs ps) := ⟨hN0⟩
  have HG := Aside0.mk (Sq.start hp hh)
  clear hN0 hp hnc hh
  go_enter Try.func43, Try.ntmps43
  go_wp2
  go_loopg [1, 5] n (fun kq v1 v5 w' => ∃ (j : Nat) (kk : Int) (pre : List Pl) (hs1 : List ((Nat × Nat) × Value)) (ps1 : List Pl), v1 = .int .i64 kk ∧ v5 = .int .i64 (j : Int) ∧ Aside0 (j + kq = n) ∧ Aside0 (ps = pre ++ ps1) ∧ Aside0 (Md.Nr (mdRow) A j kq hs1 ps1) ∧ Aside0 (Sq w k w' pre hs1 ps1 kk))
  case atStart => exact ⟨0, k, [], hs, ps, rfl, rfl, ⟨by omega⟩, ⟨rfl⟩, HN, HG⟩
  case round =>
    clear HN HG
    obtain ⟨j, kk, pre, hs1, ps1, rfl, rfl, HJ, HS, HN, HG⟩ := hrel
    cases gk with
    | zero =>
      have hd : decide ((j : Int) < (n : Int)) = false := decide_eq_false (by have := HJ.out; omega)
      have hd2 : decide (j < n) = false := decide_eq_false (by have := HJ.out; omega)
      go_wp2
      go_ret
      have e0 := Md.Nr_nil HN.out
      have e1 := HS.out
      subst e0
      rw [List.append_nil] at e1
      subst e1
      exact ⟨by rw [HG.out.ek]; rfl, HG.out.bl⟩
    | succ m =>
      have hd : decide ((j : Int) < (n : Int)) = true := decide_eq_true (by have := HJ.out; omega)
      have hd2 : decide (j < n) = true := decide_eq_true (by have := HJ.out; omega)
      have hlt : j < n := by have := HJ.out; omega
      have hlt2 : (j : Int) < (n : Int) := by omega
      obtain ⟨g, rfl, s1, a1, s2, a2, hsh, hn2, rfl, rfl⟩ := Md.Nr_cons HN.out
      clear HN
      have HN2 := Aside0.mk hn2
      clear hn2
      obtain ⟨rfl, rfl⟩ := mdRow_open (show mdRow.Sh g (j * 2) s1 a1 from hsh)
      have hk0 : 0 ≤ kk := by have := HG.out.ek; omega
      have hk1 : kk ≤ 1000000000 := by have := HG.out.ek; have := HS.out; subst this; simp only [List.length_append] at h1; omega
      simp only [List.append_assoc, List.singleton_append, List.cons_append, List.nil_append] at HG
      have HG0 := HG
      clear HG
      have x0_0 : wr.cell? ⟨g, j * 2, none⟩ = some (.int .i64 kk) := HG0.out.cell
      have HG1 := Aside0.mk HG0.out.tail
      clear HG0
      have x0_1 : wr.cell? ⟨g, j * 2 + 1, none⟩ = some (.int .i64 (kk + 1)) := HG1.out.cell
      have HG2 := Aside0.mk HG1.out.tail
      clear HG1
      go_wp2
      go_roundg m
      case measure => omega
      case rel =>
        have HZ := HG2.out.narrow (h1 := s2) (by intro q_ hq_; simp [hq_])
        exact ⟨j + 1, _, _, s2, a2, rfl, by go_num, ⟨by have := HJ.out; omega⟩, ⟨by rw [HS.out]; simp⟩, HN2, ⟨HZ⟩⟩
end Go.Proofs.Ytfdgmknjmljhbaa.Mk
end
section
namespace Go.Proofs.Ytfdgmknjmljhbaa.Mk
open Go.RowKit Go.Proofs.Ytfdgmknjmljhbaa.P Go.Proofs.YtfdgmknjmljhbaaW.PrintWords Go.Proofs.YtfdgmknjmljhbaaW.PrintLast Go.Proofs.YtfdgmknjmljhbaaW.PrintMore
set_option linter.unusedVariables false
set_option linter.unusedSimpArgs false
set_option maxHeartbeats 8000000 in
set_option maxRecDepth 100000 in
theorem FnExactCommittedRows_law (k : Nat) (a0_0 : Int) (a0_1 : Int) (A0_2 : Option Addr) (c0_2 : Nat) (l0_2 : List Int) (a0_3 : Int) (A0_4 : Option Addr) (c0_4 : Nat) (l0_4 : List S101) (w : World) (hr0_2 : Kd.C (Kd.int .i64) w A0_2 l0_2.length l0_2) (hc0_2 : l0_2.length ≤ c0_2) (hr0_4 : Kd.C k101 w A0_4 l0_4.length l0_4) (hc0_4 : l0_4.length ≤ c0_4) (z1 : Int) (eE2 : laws_szGroup.f k a0_0 a0_1 l0_2 a0_3 l0_4 1048576 = some z1) (hz_z1n : ¬ z1 < 0) (x8 : Int) (x9 : Int) (x10 : List Int) (x11 : Int) (x12 : List (S80)) (r27 : List (S92)) (r28 : Bool) (eE13 : laws_toGroup.f k a0_0 a0_1 l0_2 a0_3 l0_4 = some (x8, x9, x10, x11, x12)) (eE29 : spec_CommittedRows.f k x8 x9 x10 x11 x12 = some (r27, r28)) (eE58 : impl_CommittedRows.f k x8 x9 x10 x11 x12 = some (r27, r28)) (eE74 : laws_eqRowS.f k r27 r27 = some true) (eE93 : laws_eqGroup.f k x8 x9 x10 x11 x12 x8 x9 x10 x11 x12 = some true) (hB0_ : tot (fun _ => 1) x10 ≤ 100000000) (hB1_ : tot pcReplica x12 ≤ 100000000) (hB2_ : tot pcRow r27 ≤ 100000000) (hX0_ : ∀ x ∈ r27, peRow x)  :
    Calls Try.prog 10 #[.agg #[.int .i64 a0_0, .int .i64 a0_1, .slice A0_2 l0_2.length c0_2, .int .i64 a0_3, .slice A0_4 l0_4.length c0_4]] w fun e w' => e = .returned (.bool true) ∧ Below w.heap.size w w' := by
  have hu36 := Try.underlying36
  have hu44 := Try.underlying44
  have HR0_2 := Aside0.mk hr0_2
  clear hr0_2
  have HR0_4 := Aside0.mk hr0_4
  clear hr0_4
  have HC := Aside0.mk (Ch.start w)
  have E2 := Aside0.mk eE2
  clear eE2
  have E13 := Aside0.mk eE13
  clear eE13
  have E29 := Aside0.mk eE29
  clear eE29
  have E58 := Aside0.mk eE58
  clear eE58
  have E74 := Aside0.mk eE74
  clear eE74
  have E93 := Aside0.mk eE93
  clear eE93
  have hB0 := Aside0.mk hB0_
  clear hB0_
  have hB1 := Aside0.mk hB1_
  clear hB1_
  have hB2 := Aside0.mk hB2_
  clear hB2_
  have hX0 := Aside0.mk hX0_
  clear hX0_
  go_enter Try.func10, Try.ntmps10
  go_wp2_with fail
  replace HC := Aside0.mk (HC.out.box (.cells #[.int .i64 a0_0, .int .i64 a0_1, .slice A0_2 l0_2.length c0_2, .int .i64 a0_3, .slice A0_4 l0_4.length c0_4] 44))
  refine (laws_szGroup.calls k a0_0 a0_1 _ _ l0_2 a0_3 _ _ l0_4 1048576 z1 _ (Kd.C_below HR0_2.out HC.out.b) hc0_2 (Kd.C_below HR0_4.out HC.out.b) hc0_4 E2.out).mono ?_
  rintro e w1 ⟨rfl, hb⟩
  replace HC := Aside0.mk (HC.out.below hb)
  clear hb
  have hz_z1 : decide (z1 < 0) = false := decide_eq_false (by omega)
  have b3 := (blk_cell (HC.out.at_ 0 rfl) 0).trans rfl
  have b4 := (blk_cell (HC.out.at_ 0 rfl) 1).trans rfl
  have b5 := (blk_cell (HC.out.at_ 0 rfl) 2).trans rfl
  have b6 := (blk_cell (HC.out.at_ 0 rfl) 3).trans rfl
  have b7 := (blk_cell (HC.out.at_ 0 rfl) 4).trans rfl
  go_wp2_with fail
  refine (laws_toGroup.calls k a0_0 a0_1 _ _ l0_2 a0_3 _ _ l0_4 x8 x9 x10 x11 x12 _ (Kd.C_below HR0_2.out HC.out.b) hc0_2 (Kd.C_below HR0_4.out HC.out.b) hc0_4 E13.out).mono ?_
  rintro e w2 ⟨v14, v15, rfl, ho0, ho1, hb⟩
  obtain ⟨A16, c17, rfl⟩ := Kd.R_slice ho0
  obtain ⟨A18, c19, rfl⟩ := Kd.S_slice ho1
  obtain ⟨lo20, hi21, HC'⟩ := HC.out.push hb (Q := fun lo hi U => Kd.R (Kd.int .i64) 3 U lo (Bt lo hi) (.slice A16 x10.length c17) x10 ∧ Kd.S k80 80 U lo (Bt lo hi) (.slice A18 x12.length c19) x12) (foot_and (foot_R (in_R ho0)) (foot_S (in_S ho1)))
  replace HC := Aside0.mk HC'
  clear HC' hb ho0 ho1
  clear b3 b4 b5 b6 b7
  have b22 := (blk_cell (HC.out.at_ 1 rfl) 0).trans rfl
  have b23 := (blk_cell (HC.out.at_ 1 rfl) 1).trans rfl
  have b24 := (blk_cell (HC.out.at_ 1 rfl) 2).trans rfl
  have b25 := (blk_cell (HC.out.at_ 1 rfl) 3).trans rfl
  have b26 := (blk_cell (HC.out.at_ 1 rfl) 4).trans rfl
  go_wp2_with fail
  refine (spec_CommittedRows.calls k x8 x9 _ _ x10 x11 _ _ x12 r27 r28 _ (Kd.R_reads' (HC.out.at_ 0 rfl).1).2.2 (Kd.R_reads' (HC.out.at_ 0 rfl).1).2.1 (Kd.S_reads' (HC.out.at_ 0 rfl).2).2.2 (Kd.S_reads' (HC.out.at_ 0 rfl).2).2.1 E29.out).mono ?_
  rintro e w3 ⟨v30, rfl, ho0, hb⟩
  obtain ⟨A31, c32, rfl⟩ := Kd.R_slice ho0
  obtain ⟨lo33, hi34, HC'⟩ := HC.out.push hb (Q := fun lo hi U => Kd.R k92 92 U lo (Bt lo hi) (.slice A31 r27.length c32) r27) (foot_R (in_R ho0))
  replace HC := Aside0.mk HC'
  clear HC' hb ho0
  clear b22 b23 b24 b25 b26
  have b35 := (blk_cell (HC.out.at_ 2 rfl) 0).trans rfl
  have b36 := (blk_cell (HC.out.at_ 2 rfl) 1).trans rfl
  have b37 := (blk_cell (HC.out.at_ 2 rfl) 2).trans rfl
  have b38 := (blk_cell (HC.out.at_ 2 rfl) 3).trans rfl
  have b39 := (blk_cell (HC.out.at_ 2 rfl) 4).trans rfl
  go_wp2_with fail
  refine (laws_toGroup.calls k a0_0 a0_1 _ _ l0_2 a0_3 _ _ l0_4 x8 x9 x10 x11 x12 _ (Kd.C_below HR0_2.out HC.out.b) hc0_2 (Kd.C_below HR0_4.out HC.out.b) hc0_4 E13.out).mono ?_
  rintro e w4 ⟨v40, v41, rfl, ho0, ho1, hb⟩
  obtain ⟨A42, c43, rfl⟩ := Kd.R_slice ho0
  obtain ⟨A44, c45, rfl⟩ := Kd.S_slice ho1
  obtain ⟨lo46, hi47, HC'⟩ := HC.out.push hb (Q := fun lo hi U => Kd.R (Kd.int .i64) 3 U lo (Bt lo hi) (.slice A42 x10.length c43) x10 ∧ Kd.S k80 80 U lo (Bt lo hi) (.slice A44 x12.length c45) x12) (foot_and (foot_R (in_R ho0)) (foot_S (in_S ho1)))
  replace HC := Aside0.mk HC'
  clear HC' hb ho0 ho1
  clear b35 b36 b37 b38 b39
  have b48 := (blk_cell (HC.out.at_ 3 rfl) 0).trans rfl
  have b49 := (blk_cell (HC.out.at_ 3 rfl) 1).trans rfl
  have b50 := (blk_cell (HC.out.at_ 3 rfl) 2).trans rfl
  have b51 := (blk_cell (HC.out.at_ 3 rfl) 3).trans rfl
  have b52 := (blk_cell (HC.out.at_ 3 rfl) 4).trans rfl
  have b53 : (w4.alloc (.cells #[.int .i64 x8, .int .i64 x9, .slice A42 x10.length c43, .int .i64 x11, .slice A44 x12.length c45] 36)).cell? ⟨w.heap.size, 0, none⟩ = some (.int .i64 a0_0) := (blk_cell (blk_alloc (HC.out.at_ 3 rfl) _) 0).trans rfl
  have b54 : (w4.alloc (.cells #[.int .i64 x8, .int .i64 x9, .slice A42 x10.length c43, .int .i64 x11, .slice A44 x12.length c45] 36)).cell? ⟨w.heap.size, 1, none⟩ = some (.int .i64 a0_1) := (blk_cell (blk_alloc (HC.out.at_ 3 rfl) _) 1).trans rfl
  have b55 : (w4.alloc (.cells #[.int .i64 x8, .int .i64 x9, .slice A42 x10.length c43, .int .i64 x11, .slice A44 x12.length c45] 36)).cell? ⟨w.heap.size, 2, none⟩ = some (.slice A0_2 l0_2.length c0_2) := (blk_cell (blk_alloc (HC.out.at_ 3 rfl) _) 2).trans rfl
  have b56 : (w4.alloc (.cells #[.int .i64 x8, .int .i64 x9, .slice A42 x10.length c43, .int .i64 x11, .slice A44 x12.length c45] 36)).cell? ⟨w.heap.size, 3, none⟩ = some (.int .i64 a0_3) := (blk_cell (blk_alloc (HC.out.at_ 3 rfl) _) 3).trans rfl
  have b57 : (w4.alloc (.cells #[.int .i64 x8, .int .i64 x9, .slice A42 x10.length c43, .int .i64 x11, .slice A44 x12.length c45] 36)).cell? ⟨w.heap.size, 4, none⟩ = some (.slice A0_4 l0_4.length c0_4) := (blk_cell (blk_alloc (HC.out.at_ 3 rfl) _) 4).trans rfl
  go_wp2_with fail
  replace HC := Aside0.mk (HC.out.box (.cells #[.int .i64 x8, .int .i64 x9, .slice A42 x10.length c43, .int .i64 x11, .slice A44 x12.length c45] 36))
  refine (impl_CommittedRows.calls k x8 x9 _ _ x10 x11 _ _ x12 r27 r28 _ (Kd.R_reads' (HC.out.at_ 1 rfl).1).2.2 (Kd.R_reads' (HC.out.at_ 1 rfl).1).2.1 (Kd.S_reads' (HC.out.at_ 1 rfl).2).2.2 (Kd.S_reads' (HC.out.at_ 1 rfl).2).2.1 E58.out).mono ?_
  rintro e w5 ⟨v59, rfl, ho0, hb⟩
  obtain ⟨A60, c61, rfl⟩ := Kd.R_slice ho0
  obtain ⟨lo62, hi63, HC'⟩ := HC.out.push hb (Q := fun lo hi U => Kd.R k92 92 U lo (Bt lo hi) (.slice A60 r27.length c61) r27) (foot_R (in_R ho0))
  replace HC := Aside0.mk HC'
  clear HC' hb ho0
  clear b48 b49 b50 b51 b52 b53 b54 b55 b56 b57
  have b64 := (blk_cell (HC.out.at_ 1 rfl) 0).trans rfl
  have b65 := (blk_cell (HC.out.at_ 1 rfl) 1).trans rfl
  have b66 := (blk_cell (HC.out.at_ 1 rfl) 2).trans rfl
  have b67 := (blk_cell (HC.out.at_ 1 rfl) 3).trans rfl
  have b68 := (blk_cell (HC.out.at_ 1 rfl) 4).trans rfl
  have b69 := (blk_cell (HC.out.at_ 5 rfl) 0).trans rfl
  have b70 := (blk_cell (HC.out.at_ 5 rfl) 1).trans rfl
  have b71 := (blk_cell (HC.out.at_ 5 rfl) 2).trans rfl
  have b72 := (blk_cell (HC.out.at_ 5 rfl) 3).trans rfl
  have b73 := (blk_cell (HC.out.at_ 5 rfl) 4).trans rfl
  go_wp2_with fail
  refine (laws_eqRowS.calls k _ _ r27 _ _ r27 true _ (Kd.R_reads' (HC.out.at_ 0 rfl)).2.2 (Kd.R_reads' (HC.out.at_ 0 rfl)).2.1 (Kd.R_reads' (HC.out.at_ 3 rfl)).2.2 (Kd.R_reads' (HC.out.at_ 3 rfl)).2.1 E74.out).mono ?_
  rintro e w6 ⟨rfl, hb⟩
  replace HC := Aside0.mk (HC.out.below hb)
  clear hb
  clear b64 b65 b66 b67 b68 b69 b70 b71 b72 b73
  have b75 := (blk_cell (HC.out.at_ 1 rfl) 0).trans rfl
  have b76 := (blk_cell (HC.out.at_ 1 rfl) 1).trans rfl
  have b77 := (blk_cell (HC.out.at_ 1 rfl) 2).trans rfl
  have b78 := (blk_cell (HC.out.at_ 1 rfl) 3).trans rfl
  have b79 := (blk_cell (HC.out.at_ 1 rfl) 4).trans rfl
  have b80 := (blk_cell (HC.out.at_ 5 rfl) 0).trans rfl
  have b81 := (blk_cell (HC.out.at_ 5 rfl) 1).trans rfl
  have b82 := (blk_cell (HC.out.at_ 5 rfl) 2).trans rfl
  have b83 := (blk_cell (HC.out.at_ 5 rfl) 3).trans rfl
  have b84 := (blk_cell (HC.out.at_ 5 rfl) 4).trans rfl
  go_wp2_with fail
  replace HC := Aside0.mk (HC.out.below (below_drew (Below.refl _ _)))
  refine start_ (n := 5) (S := fun w' => w'.cell? ⟨w4.heap.size, 0, none⟩ = some (.int .i64 x8) ∧ w'.cell? ⟨w4.heap.size, 1, none⟩ = some (.int .i64 x9) ∧ w'.cell? ⟨w4.heap.size, 2, none⟩ = some (.slice A42 x10.length c43) ∧ w'.cell? ⟨w4.heap.size, 3, none⟩ = some (.int .i64 x11) ∧ w'.cell? ⟨w4.heap.size, 4, none⟩ = some (.slice A44 x12.length c45) ∧ w'.cell? ⟨w.heap.size, 0, none⟩ = some (.int .i64 a0_0) ∧ w'.cell? ⟨w.heap.size, 1, none⟩ = some (.int .i64 a0_1) ∧ w'.cell? ⟨w.heap.size, 2, none⟩ = some (.slice A0_2 l0_2.length c0_2) ∧ w'.cell? ⟨w.heap.size, 3, none⟩ = some (.int .i64 a0_3) ∧ w'.cell? ⟨w.heap.size, 4, none⟩ = some (.slice A0_4 l0_4.length c0_4)) (ds := []) #[false, false, false, false, false] (by kernel_rfl) rfl rfl ⟨(blk_cell (HC.out.at_ 1 rfl) 0).trans rfl, (blk_cell (HC.out.at_ 1 rfl) 1).trans rfl, (blk_cell (HC.out.at_ 1 rfl) 2).trans rfl, (blk_cell (HC.out.at_ 1 rfl) 3).trans rfl, (blk_cell (HC.out.at_ 1 rfl) 4).trans rfl, (blk_cell (HC.out.at_ 5 rfl) 0).trans rfl, (blk_cell (HC.out.at_ 5 rfl) 1).trans rfl, (blk_cell (HC.out.at_ 5 rfl) 2).trans rfl, (blk_cell (HC.out.at_ 5 rfl) 3).trans rfl, (blk_cell (HC.out.at_ 5 rfl) 4).trans rfl⟩ (fun hHeld => ?_)
  generalize w6.drew = w7 at HC hHeld ⊢
  refine take_ (i := 0) (N := some 41) (v := ?_) (a' := ?_) #[true, false, false, false, false] rfl rfl (by kernel_rfl) (fun _ _ _ h => h) (Or.inl ⟨by rfl, ?_⟩) hHeld ?_ ?_
  rotate_left
  · rintro w' ⟨s0, s1, s2, s3, s4, s5, s6, s7, s8, s9⟩
    go_simp
    with_reducible rfl
  rotate_left
  · simp only [Act.put, List.setIfInBounds_toArray, List.set_cons_zero, List.set_cons_succ, i64_w, i32_w]
    rfl
  refine take_ (i := 1) (N := some 42) (v := ?_) (a' := ?_) #[true, true, false, false, false] rfl rfl (by kernel_rfl) (fun _ _ _ h => h) (Or.inl ⟨by rfl, ?_⟩) hHeld ?_ ?_
  rotate_left
  · rintro w' ⟨s0, s1, s2, s3, s4, s5, s6, s7, s8, s9⟩
    go_simp
    with_reducible rfl
  rotate_left
  · simp only [Act.put, List.setIfInBounds_toArray, List.set_cons_zero, List.set_cons_succ, i64_w, i32_w]
    rfl
  refine one_ (i := 2) (N := some 43) #[true, true, true, false, false] rfl rfl (by kernel_rfl) (by decide) (fun K hK => ?_)
  refine goes_ Try.func27 (by kernel_rfl) rfl #[.agg #[.int .i64 a0_0, .int .i64 a0_1, .slice A0_2 l0_2.length c0_2, .int .i64 a0_3, .slice A0_4 l0_4.length c0_4]] (by rfl) rfl rfl (by (try simp only [List.map_toArray, List.map_cons, List.map_nil]); first | done | rfl | (simp only [List.length_drop, List.length_take]; rfl)) ?_
  refine (laws_toGroup.calls k a0_0 a0_1 _ _ l0_2 a0_3 _ _ l0_4 x8 x9 x10 x11 x12 _ (Kd.C_below HR0_2.out HC.out.b) hc0_2 (Kd.C_below HR0_4.out HC.out.b) hc0_4 E13.out).mono ?_
  rintro e w8 ⟨v85, v86, rfl, ho0, ho1, hb⟩
  refine ⟨_, rfl, ?_⟩
  obtain ⟨A87, c88, rfl⟩ := Kd.R_slice ho0
  obtain ⟨A89, c90, rfl⟩ := Kd.S_slice ho1
  obtain ⟨lo91, hi92, HC'⟩ := HC.out.push hb (Q := fun lo hi U => Kd.R (Kd.int .i64) 3 U lo (Bt lo hi) (.slice A87 x10.length c88) x10 ∧ Kd.S k80 80 U lo (Bt lo hi) (.slice A89 x12.length c90) x12) (foot_and (foot_R (in_R ho0)) (foot_S (in_S ho1)))
  replace HC := Aside0.mk HC'
  clear HC' hb ho0 ho1
  refine hK.out _ _ ⟨(blk_cell (HC.out.at_ 2 rfl) 0).trans rfl, (blk_cell (HC.out.at_ 2 rfl) 1).trans rfl, (blk_cell (HC.out.at_ 2 rfl) 2).trans rfl, (blk_cell (HC.out.at_ 2 rfl) 3).trans rfl, (blk_cell (HC.out.at_ 2 rfl) 4).trans rfl, (blk_cell (HC.out.at_ 6 rfl) 0).trans rfl, (blk_cell (HC.out.at_ 6 rfl) 1).trans rfl, (blk_cell (HC.out.at_ 6 rfl) 2).trans rfl, (blk_cell (HC.out.at_ 6 rfl) 3).trans rfl, (blk_cell (HC.out.at_ 6 rfl) 4).trans rfl⟩ (fun hHeld => ?_)
  clear hK K
  refine norm_ (a' := ?_) ?_ ?_
  rotate_left
  · show Act.put _ (some 43) _ = _
    simp only [Act.put, List.setIfInBounds_toArray, List.set_cons_zero, List.set_cons_succ, i64_w, i32_w]
    rfl
  refine one_ (i := 3) (N := some 44) #[true, true, true, true, false] rfl rfl (by kernel_rfl) (by decide) (fun K hK => ?_)
  refine goes_ Try.func22 (by kernel_rfl) rfl #[.agg #[.int .i64 x8, .int .i64 x9, .slice A42 x10.length c43, .int .i64 x11, .slice A44 x12.length c45], .agg #[.int .i64 x8, .int .i64 x9, .slice A87 x10.length c88, .int .i64 x11, .slice A89 x12.length c90]] (by rfl) rfl rfl (by (try simp only [List.map_toArray, List.map_cons, List.map_nil]); first | done | rfl | (simp only [List.length_drop, List.length_take]; rfl)) ?_
  refine (laws_eqGroup.calls k x8 x9 _ _ x10 x11 _ _ x12 x8 x9 _ _ x10 x11 _ _ x12 true _ (Kd.R_reads' (HC.out.at_ 3 rfl).1).2.2 (Kd.R_reads' (HC.out.at_ 3 rfl).1).2.1 (Kd.S_reads' (HC.out.at_ 3 rfl).2).2.2 (Kd.S_reads' (HC.out.at_ 3 rfl).2).2.1 (Kd.R_reads' (HC.out.at_ 0 rfl).1).2.2 (Kd.R_reads' (HC.out.at_ 0 rfl).1).2.1 (Kd.S_reads' (HC.out.at_ 0 rfl).2).2.2 (Kd.S_reads' (HC.out.at_ 0 rfl).2).2.1 E93.out).mono ?_
  rintro e w9 ⟨rfl, hb⟩
  refine ⟨_, rfl, ?_⟩
  replace HC := Aside0.mk (HC.out.below hb)
  clear hb
  refine hK.out _ _ ⟨(blk_cell (HC.out.at_ 2 rfl) 0).trans rfl, (blk_cell (HC.out.at_ 2 rfl) 1).trans rfl, (blk_cell (HC.out.at_ 2 rfl) 2).trans rfl, (blk_cell (HC.out.at_ 2 rfl) 3).trans rfl, (blk_cell (HC.out.at_ 2 rfl) 4).trans rfl, (blk_cell (HC.out.at_ 6 rfl) 0).trans rfl, (blk_cell (HC.out.at_ 6 rfl) 1).trans rfl, (blk_cell (HC.out.at_ 6 rfl) 2).trans rfl, (blk_cell (HC.out.at_ 6 rfl) 3).trans rfl, (blk_cell (HC.out.at_ 6 rfl) 4).trans rfl⟩ (fun hHeld => ?_)
  clear hK K
  refine norm_ (a' := ?_) ?_ ?_
  rotate_left
  · show Act.put _ (some 44) _ = _
    simp only [Act.put, List.setIfInBounds_toArray, List.set_cons_zero, List.set_cons_succ, i64_w, i32_w]
    rfl
  refine pure_ (i := 4) (N := some 45) (v := ?_) (a' := ?_) #[true, true, true, true, true] rfl rfl (by kernel_rfl) (fun _ _ _ h => h) (Or.inl ⟨by rfl, ?_⟩) ?_ ?_
  rotate_left
  · intro w'
    go_simp
    with_reducible rfl
  rotate_left
  · simp only [Act.put, List.setIfInBounds_toArray, List.set_cons_zero, List.set_cons_succ, i64_w, i32_w]
    rfl
  refine done_ (by kernel_rfl) ?_
  clear b75 b76 b77 b78 b79 b80 b81 b82 b83 b84
  have b94 := (blk_cell (HC.out.at_ 2 rfl) 0).trans rfl
  have b95 := (blk_cell (HC.out.at_ 2 rfl) 1).trans rfl
  have b96 := (blk_cell (HC.out.at_ 2 rfl) 2).trans rfl
  have b97 := (blk_cell (HC.out.at_ 2 rfl) 3).trans rfl
  have b98 := (blk_cell (HC.out.at_ 2 rfl) 4).trans rfl
  have b99 := (blk_cell (HC.out.at_ 6 rfl) 0).trans rfl
  have b100 := (blk_cell (HC.out.at_ 6 rfl) 1).trans rfl
  have b101 := (blk_cell (HC.out.at_ 6 rfl) 2).trans rfl
  have b102 := (blk_cell (HC.out.at_ 6 rfl) 3).trans rfl
  have b103 := (blk_cell (HC.out.at_ 6 rfl) 4).trans rfl
  go_wp2_with fail
  obtain ⟨ms1_0, mp1_0, mq1_0, mt1_0, mn1_0, mg1_0, mf1_0, md1_0⟩ := row_R Br.int (HC.out.at_ 3 rfl).1
  obtain ⟨ms1_1, mp1_1, mq1_1, mt1_1, mn1_1, mg1_1, mf1_1, md1_1⟩ := row_S brReplica (HC.out.at_ 3 rfl).2
  refine (markGroup_ok _ ms1_0 mp1_0 _ ms1_1 mp1_1 x8 x9 x11 1 _ mq1_0 mq1_1 mt1_0 mt1_1 (by decide) (by rw [List.length_append, mn1_0, mn1_1]; have := hB0.out; have := hB1.out;  omega)).mono ?_
  rintro e w10 ⟨rfl, hw⟩
  replace HC := Aside0.mk (Ch.wr0 (L1 := [_, _, _]) HC.out hw (fun p h => by (try simp only [List.append_assoc] at h); exact (List.mem_append.1 h).elim (fun h => (mf1_0 p h).1) (fun h => (mf1_1 p h).1)))
  obtain ⟨km1, hkm⟩ : ∃ km_ : Int, km_ = 1 + ((mp1_0 ++ mp1_1).length : Int) := ⟨_, rfl⟩
  rw [← hkm]
  have km1p : Aside0 (0 ≤ km1) := ⟨by  omega⟩
  have km1b : Aside0 (km1 ≤ 200000001) := ⟨by rw [hkm]; rw [List.length_append, mn1_0, mn1_1]; have := hB0.out; have := hB1.out;  omega⟩
  have hd_km1 : decide (km1 < 0) = false := decide_eq_false (by have := km1p.out; omega)
  clear hkm hw ms1_0 mq1_0 mt1_0 mn1_0 mg1_0 mf1_0 md1_0 ms1_1 mq1_1 mt1_1 mn1_1 mg1_1 mf1_1 md1_1 
  clear b94 b95 b96 b97 b98 b99 b100 b101 b102 b103
  have b104 := (blk_cell (HC.out.at_ 2 rfl) 0).trans rfl
  have b105 := (blk_cell (HC.out.at_ 2 rfl) 1).trans rfl
  have b106 := (blk_cell (HC.out.at_ 2 rfl) 2).trans rfl
  have b107 := (blk_cell (HC.out.at_ 2 rfl) 3).trans rfl
  have b108 := (blk_cell (HC.out.at_ 2 rfl) 4).trans rfl
  have b109 := (blk_cell (HC.out.at_ 6 rfl) 0).trans rfl
  have b110 := (blk_cell (HC.out.at_ 6 rfl) 1).trans rfl
  have b111 := (blk_cell (HC.out.at_ 6 rfl) 2).trans rfl
  have b112 := (blk_cell (HC.out.at_ 6 rfl) 3).trans rfl
  have b113 := (blk_cell (HC.out.at_ 6 rfl) 4).trans rfl
  go_wp2_with fail
  refine (laws_eqRowS.calls k _ _ r27 _ _ r27 true _ (Kd.R_reads' (HC.out.at_ 1 rfl)).2.2 (Kd.R_reads' (HC.out.at_ 1 rfl)).2.1 (Kd.R_reads' (HC.out.at_ 4 rfl)).2.2 (Kd.R_reads' (HC.out.at_ 4 rfl)).2.1 E74.out).mono ?_
  rintro e w11 ⟨rfl, hb⟩
  replace HC := Aside0.mk (HC.out.below hb)
  clear hb
  clear b104 b105 b106 b107 b108 b109 b110 b111 b112 b113
  have b114 := (blk_cell (HC.out.at_ 2 rfl) 0).trans rfl
  have b115 := (blk_cell (HC.out.at_ 2 rfl) 1).trans rfl
  have b116 := (blk_cell (HC.out.at_ 2 rfl) 2).trans rfl
  have b117 := (blk_cell (HC.out.at_ 2 rfl) 3).trans rfl
  have b118 := (blk_cell (HC.out.at_ 2 rfl) 4).trans rfl
  have b119 := (blk_cell (HC.out.at_ 6 rfl) 0).trans rfl
  have b120 := (blk_cell (HC.out.at_ 6 rfl) 1).trans rfl
  have b121 := (blk_cell (HC.out.at_ 6 rfl) 2).trans rfl
  have b122 := (blk_cell (HC.out.at_ 6 rfl) 3).trans rfl
  have b123 := (blk_cell (HC.out.at_ 6 rfl) 4).trans rfl
  go_wp2_with fail
  obtain ⟨ms2_0, mp2_0, mq2_0, mt2_0, mn2_0, mg2_0, mf2_0, md2_0⟩ := row_R brRow (HC.out.at_ 1 rfl)
  refine (markRowS_ok _ ms2_0 mp2_0  1 _ mq2_0 mt2_0 (by decide) (by rw [mn2_0]; have := hB2.out;  omega)).mono ?_
  rintro e w12 ⟨rfl, hw⟩
  have mT : Pt w12 (ms2_0) (mp2_0) := (mt2_0).wr hw (mt2_0).a
  have mA : apart (mp2_0) := (md2_0 hX0.out (fun _ _ => rfl))
  have mH := hw.hs mA (mt2_0).a
  replace HC := Aside0.mk (Ch.wr (L1 := [_]) HC.out hw (fun p hp => (mf2_0 p hp).1) (foot_and (foot_pt mT mg2_0 (fun p hp => (mf2_0 p hp).1)) (foot_hs mH (fun p hp => (mf2_0 p hp).1))))
  have hl2 : Aside0 (1 + ((mp2_0).length : Int) ≤ 1000000000) := ⟨by rw [mn2_0]; have := hB2.out; omega⟩
  have Qmq2_0 := Aside0.mk mq2_0
  obtain ⟨km2, hkm⟩ : ∃ km_ : Int, km_ = 1 + ((mp2_0).length : Int) := ⟨_, rfl⟩
  have HK2 := Aside0.mk hkm
  rw [← hkm]
  have hd_km2 : decide (km2 < 0) = false := decide_eq_false (by omega)
  clear hkm hw mT mA mH mq2_0 mt2_0 mn2_0 mg2_0 mf2_0 md2_0
  clear b114 b115 b116 b117 b118 b119 b120 b121 b122 b123
  have b124 := (blk_cell (HC.out.at_ 2 rfl) 0).trans rfl
  have b125 := (blk_cell (HC.out.at_ 2 rfl) 1).trans rfl
  have b126 := (blk_cell (HC.out.at_ 2 rfl) 2).trans rfl
  have b127 := (blk_cell (HC.out.at_ 2 rfl) 3).trans rfl
  have b128 := (blk_cell (HC.out.at_ 2 rfl) 4).trans rfl
  have b129 := (blk_cell (HC.out.at_ 6 rfl) 0).trans rfl
  have b130 := (blk_cell (HC.out.at_ 6 rfl) 1).trans rfl
  have b131 := (blk_cell (HC.out.at_ 6 rfl) 2).trans rfl
  have b132 := (blk_cell (HC.out.at_ 6 rfl) 3).trans rfl
  have b133 := (blk_cell (HC.out.at_ 6 rfl) 4).trans rfl
  go_wp2_with fail
  refine (heldRowS_ok _ ms2_0 mp2_0  1 _ Qmq2_0.out (HC.out.at_ 1 rfl).1 (HC.out.at_ 1 rfl).2 (by decide) (by  exact hl2.out)).mono ?_
  rintro e w13 ⟨rfl, hb⟩
  replace HC := Aside0.mk (HC.out.below hb)
  rw [← HK2.out]
  clear hb
  clear b124 b125 b126 b127 b128 b129 b130 b131 b132 b133
  have b134 := (blk_cell (HC.out.at_ 2 rfl) 0).trans rfl
  have b135 := (blk_cell (HC.out.at_ 2 rfl) 1).trans rfl
  have b136 := (blk_cell (HC.out.at_ 2 rfl) 2).trans rfl
  have b137 := (blk_cell (HC.out.at_ 2 rfl) 3).trans rfl
  have b138 := (blk_cell (HC.out.at_ 2 rfl) 4).trans rfl
  have b139 := (blk_cell (HC.out.at_ 6 rfl) 0).trans rfl
  have b140 := (blk_cell (HC.out.at_ 6 rfl) 1).trans rfl
  have b141 := (blk_cell (HC.out.at_ 6 rfl) 2).trans rfl
  have b142 := (blk_cell (HC.out.at_ 6 rfl) 3).trans rfl
  have b143 := (blk_cell (HC.out.at_ 6 rfl) 4).trans rfl
  go_wp2_with fail
  refine (laws_toGroup.calls k a0_0 a0_1 _ _ l0_2 a0_3 _ _ l0_4 x8 x9 x10 x11 x12 _ (Kd.C_below HR0_2.out HC.out.b) hc0_2 (Kd.C_below HR0_4.out HC.out.b) hc0_4 E13.out).mono ?_
  rintro e w14 ⟨v144, v145, rfl, ho0, ho1, hb⟩
  obtain ⟨A146, c147, rfl⟩ := Kd.R_slice ho0
  obtain ⟨A148, c149, rfl⟩ := Kd.S_slice ho1
  obtain ⟨lo150, hi151, HC'⟩ := HC.out.push hb (Q := fun lo hi U => Kd.R (Kd.int .i64) 3 U lo (Bt lo hi) (.slice A146 x10.length c147) x10 ∧ Kd.S k80 80 U lo (Bt lo hi) (.slice A148 x12.length c149) x12) (foot_and (foot_R (in_R ho0)) (foot_S (in_S ho1)))
  replace HC := Aside0.mk HC'
  clear HC' hb ho0 ho1
  clear b134 b135 b136 b137 b138 b139 b140 b141 b142 b143
  have b152 := (blk_cell (HC.out.at_ 3 rfl) 0).trans rfl
  have b153 := (blk_cell (HC.out.at_ 3 rfl) 1).trans rfl
  have b154 := (blk_cell (HC.out.at_ 3 rfl) 2).trans rfl
  have b155 := (blk_cell (HC.out.at_ 3 rfl) 3).trans rfl
  have b156 := (blk_cell (HC.out.at_ 3 rfl) 4).trans rfl
  have b157 := (blk_cell (HC.out.at_ 7 rfl) 0).trans rfl
  have b158 := (blk_cell (HC.out.at_ 7 rfl) 1).trans rfl
  have b159 := (blk_cell (HC.out.at_ 7 rfl) 2).trans rfl
  have b160 := (blk_cell (HC.out.at_ 7 rfl) 3).trans rfl
  have b161 := (blk_cell (HC.out.at_ 7 rfl) 4).trans rfl
  go_wp2_with fail
  refine (impl_CommittedRows.calls k x8 x9 _ _ x10 x11 _ _ x12 r27 r28 _ (Kd.R_reads' (HC.out.at_ 0 rfl).1).2.2 (Kd.R_reads' (HC.out.at_ 0 rfl).1).2.1 (Kd.S_reads' (HC.out.at_ 0 rfl).2).2.2 (Kd.S_reads' (HC.out.at_ 0 rfl).2).2.1 E58.out).mono ?_
  rintro e w15 ⟨v162, rfl, ho0, hb⟩
  obtain ⟨A163, c164, rfl⟩ := Kd.R_slice ho0
  obtain ⟨lo165, hi166, HC'⟩ := HC.out.push hb (Q := fun lo hi U => Kd.R k92 92 U lo (Bt lo hi) (.slice A163 r27.length c164) r27) (foot_R (in_R ho0))
  replace HC := Aside0.mk HC'
  clear HC' hb ho0
  clear b152 b153 b154 b155 b156 b157 b158 b159 b160 b161
  have b167 := (blk_cell (HC.out.at_ 4 rfl) 0).trans rfl
  have b168 := (blk_cell (HC.out.at_ 4 rfl) 1).trans rfl
  have b169 := (blk_cell (HC.out.at_ 4 rfl) 2).trans rfl
  have b170 := (blk_cell (HC.out.at_ 4 rfl) 3).trans rfl
  have b171 := (blk_cell (HC.out.at_ 4 rfl) 4).trans rfl
  have b172 := (blk_cell (HC.out.at_ 8 rfl) 0).trans rfl
  have b173 := (blk_cell (HC.out.at_ 8 rfl) 1).trans rfl
  have b174 := (blk_cell (HC.out.at_ 8 rfl) 2).trans rfl
  have b175 := (blk_cell (HC.out.at_ 8 rfl) 3).trans rfl
  have b176 := (blk_cell (HC.out.at_ 8 rfl) 4).trans rfl
  go_wp2_with fail
  refine (laws_eqRowS.calls k _ _ r27 _ _ r27 true _ (Kd.R_reads' (HC.out.at_ 0 rfl)).2.2 (Kd.R_reads' (HC.out.at_ 0 rfl)).2.1 (Kd.R_reads' (HC.out.at_ 6 rfl)).2.2 (Kd.R_reads' (HC.out.at_ 6 rfl)).2.1 E74.out).mono ?_
  rintro e w16 ⟨rfl, hb⟩
  replace HC := Aside0.mk (HC.out.below hb)
  clear hb
  clear b167 b168 b169 b170 b171 b172 b173 b174 b175 b176
  have b177 := (blk_cell (HC.out.at_ 4 rfl) 0).trans rfl
  have b178 := (blk_cell (HC.out.at_ 4 rfl) 1).trans rfl
  have b179 := (blk_cell (HC.out.at_ 4 rfl) 2).trans rfl
  have b180 := (blk_cell (HC.out.at_ 4 rfl) 3).trans rfl
  have b181 := (blk_cell (HC.out.at_ 4 rfl) 4).trans rfl
  have b182 := (blk_cell (HC.out.at_ 8 rfl) 0).trans rfl
  have b183 := (blk_cell (HC.out.at_ 8 rfl) 1).trans rfl
  have b184 := (blk_cell (HC.out.at_ 8 rfl) 2).trans rfl
  have b185 := (blk_cell (HC.out.at_ 8 rfl) 3).trans rfl
  have b186 := (blk_cell (HC.out.at_ 8 rfl) 4).trans rfl
  go_wp2_with fail
  refine (heldRowS_ok _ ms2_0 mp2_0  1 _ Qmq2_0.out (HC.out.at_ 3 rfl).1 (HC.out.at_ 3 rfl).2 (by decide) (by  exact hl2.out)).mono ?_
  rintro e w17 ⟨rfl, hb⟩
  replace HC := Aside0.mk (HC.out.below hb)
  rw [← HK2.out]
  clear hb
  clear b177 b178 b179 b180 b181 b182 b183 b184 b185 b186
  have b187 := (blk_cell (HC.out.at_ 4 rfl) 0).trans rfl
  have b188 := (blk_cell (HC.out.at_ 4 rfl) 1).trans rfl
  have b189 := (blk_cell (HC.out.at_ 4 rfl) 2).trans rfl
  have b190 := (blk_cell (HC.out.at_ 4 rfl) 3).trans rfl
  have b191 := (blk_cell (HC.out.at_ 4 rfl) 4).trans rfl
  have b192 := (blk_cell (HC.out.at_ 8 rfl) 0).trans rfl
  have b193 := (blk_cell (HC.out.at_ 8 rfl) 1).trans rfl
  have b194 := (blk_cell (HC.out.at_ 8 rfl) 2).trans rfl
  have b195 := (blk_cell (HC.out.at_ 8 rfl) 3).trans rfl
  have b196 := (blk_cell (HC.out.at_ 8 rfl) 4).trans rfl
  go_wp2
  go_ret
  exact ⟨rfl, HC.out.b⟩
set_option maxHeartbeats 8000000 in
set_option maxRecDepth 100000 in
theorem FnExactCommittedRows_out0 (k : Nat) (a0_0 : Int) (a0_1 : Int) (A0_2 : Option Addr) (c0_2 : Nat) (l0_2 : List Int) (a0_3 : Int) (A0_4 : Option Addr) (c0_4 : Nat) (l0_4 : List S101) (w : World) (hr0_2 : Kd.C (Kd.int .i64) w A0_2 l0_2.length l0_2) (hc0_2 : l0_2.length ≤ c0_2) (hr0_4 : Kd.C k101 w A0_4 l0_4.length l0_4) (hc0_4 : l0_4.length ≤ c0_4) (z1 : Int) (eE2 : laws_szGroup.f k a0_0 a0_1 l0_2 a0_3 l0_4 1048576 = some z1)  (hz : z1 < 0)  :
    Calls Try.prog 10 #[.agg #[.int .i64 a0_0, .int .i64 a0_1, .slice A0_2 l0_2.length c0_2, .int .i64 a0_3, .slice A0_4 l0_4.length c0_4]] w fun e w' => e = .returned (.bool true) ∧ Below w.heap.size w w' := by
  have hu36 := Try.underlying36
  have hu44 := Try.underlying44
  have HR0_2 := Aside0.mk hr0_2
  clear hr0_2
  have HR0_4 := Aside0.mk hr0_4
  clear hr0_4
  have HC := Aside0.mk (Ch.start w)
  have E2 := Aside0.mk eE2
  clear eE2
  go_enter Try.func10, Try.ntmps10
  go_wp2_with fail
  replace HC := Aside0.mk (HC.out.box (.cells #[.int .i64 a0_0, .int .i64 a0_1, .slice A0_2 l0_2.length c0_2, .int .i64 a0_3, .slice A0_4 l0_4.length c0_4] 44))
  refine (laws_szGroup.calls k a0_0 a0_1 _ _ l0_2 a0_3 _ _ l0_4 1048576 z1 _ (Kd.C_below HR0_2.out HC.out.b) hc0_2 (Kd.C_below HR0_4.out HC.out.b) hc0_4 E2.out).mono ?_
  rintro e w1 ⟨rfl, hb⟩
  replace HC := Aside0.mk (HC.out.below hb)
  clear hb
  have hz_ : decide (z1 < 0) = true := decide_eq_true hz
  clear hz
  go_wp2
  go_ret
  exact ⟨rfl, HC.out.b⟩
def FnExactCommittedRows_Pure : Prop := ∀ (x0 : S44), (ok44 x0) → ∃ k : Nat, ∃ z1 : Int, laws_szGroup.f k x0.f0 x0.f1 x0.f2 x0.f3 x0.f4 1048576 = some z1 ∧ (z1 < 0 ∨ ¬ z1 < 0 ∧ (∃ (x8 : Int) (x9 : Int) (x10 : List Int) (x11 : Int) (x12 : List (S80)) (r27 : List (S92)) (r28 : Bool), laws_toGroup.f k x0.f0 x0.f1 x0.f2 x0.f3 x0.f4 = some (x8, x9, x10, x11, x12) ∧ spec_CommittedRows.f k x8 x9 x10 x11 x12 = some (r27, r28) ∧ impl_CommittedRows.f k x8 x9 x10 x11 x12 = some (r27, r28) ∧ laws_eqRowS.f k r27 r27 = some true ∧ laws_eqGroup.f k x8 x9 x10 x11 x12 x8 x9 x10 x11 x12 = some true ∧ tot (fun _ => 1) x10 ≤ 100000000 ∧ tot pcReplica x12 ≤ 100000000 ∧ tot pcRow r27 ≤ 100000000 ∧ (∀ x ∈ r27, peRow x)))
theorem FnExactCommittedRows_calls (hP : FnExactCommittedRows_Pure) (x0 : S44) (A0_2 : Option Addr) (c0_2 : Nat) (A0_4 : Option Addr) (c0_4 : Nat) (b0 : ok44 x0) (w : World) (hr0_2 : Kd.C (Kd.int .i64) w A0_2 x0.f2.length x0.f2) (hc0_2 : x0.f2.length ≤ c0_2) (hr0_4 : Kd.C k101 w A0_4 x0.f4.length x0.f4) (hc0_4 : x0.f4.length ≤ c0_4) :
    Calls Try.prog 10 #[.agg #[.int .i64 x0.f0, .int .i64 x0.f1, .slice A0_2 x0.f2.length c0_2, .int .i64 x0.f3, .slice A0_4 x0.f4.length c0_4]] w fun e w' => e = .returned (.bool true) ∧ Below w.heap.size w w' := by
  obtain ⟨k, hk⟩ := hP x0 b0
  obtain ⟨z1, eE2, hk⟩ := hk
  rcases hk with hz | ⟨hz_z1n, hk⟩
  · exact FnExactCommittedRows_out0 k x0.f0 x0.f1 A0_2 c0_2 x0.f2 x0.f3 A0_4 c0_4 x0.f4 w hr0_2 hc0_2 hr0_4 hc0_4 z1 eE2  hz 
  obtain ⟨x8, x9, x10, x11, x12, r27, r28, eE13, eE29, eE58, eE74, eE93, hB0_, hB1_, hB2_, hX0_⟩ := hk
  exact FnExactCommittedRows_law k x0.f0 x0.f1 A0_2 c0_2 x0.f2 x0.f3 A0_4 c0_4 x0.f4 w hr0_2 hc0_2 hr0_4 hc0_4 z1 eE2 hz_z1n x8 x9 x10 x11 x12 r27 r28 eE13 eE29 eE58 eE74 eE93 hB0_ hB1_ hB2_ hX0_ 
end Go.Proofs.Ytfdgmknjmljhbaa.Mk
end
section
namespace Go.Proofs.Ytfdgmknjmljhbaa.Pl
open Go.RowKit Go.Proofs.YtfdgmknjmljhbaaW.PrintWords Go.Proofs.YtfdgmknjmljhbaaW.PrintLast Go.Proofs.YtfdgmknjmljhbaaW.PrintMore
theorem wrap_in {x : Int} (h0 : -9223372036854775808 ≤ x) (h1 : x ≤ 9223372036854775807) : wrap64 x = x := by
  unfold wrap64
  omega
theorem wrap_len {n m : Nat} (h : n < m) (hm : m ≤ 4611686018427387904) : wrap64 ((n : Int) + 1) = ((n + 1 : Nat) : Int) := by
  rw [wrap_in (by omega) (by omega)]
  omega
theorem round {k d : Nat} (h : d < k) : ∃ m, k = m + 1 := ⟨k - 1, by omega⟩
theorem rd_mid (pre : List Int) (h : Int) (t : List Int) : rd (pre ++ h :: t) (pre.length : Int) = h := by
  simp [rd]
theorem rd_at {pre t l : List Int} {h : Int} (e : pre ++ h :: t = l) : rd l (pre.length : Int) = h := by
  rw [← e]; exact rd_mid pre h t
theorem len_mid {α : Type} {pre t : List α} {h : α} {l : List α} (e : pre ++ h :: t = l) : pre.length < l.length := by
  rw [← e]; simp
theorem len_end {α : Type} {pre l : List α} (e : pre ++ [] = l) : pre.length = l.length := by
  rw [← e]; simp
theorem app_mid {α : Type} {pre t : List α} {h : α} {l : List α} (e : pre ++ h :: t = l) : (pre ++ [h]) ++ t = l := by
  rw [← e]; simp
theorem len_one {α : Type} (pre : List α) (h : α) : (pre ++ [h]).length = pre.length + 1 := by simp
theorem rd_last {pre rest l : List Int} {p : Int} (e : pre ++ rest = l) (h : pre.getLast? = some p) : 0 < pre.length ∧ rd l ((pre.length : Int) - 1) = p := by
  obtain ⟨q, rfl⟩ := List.getLast?_eq_some_iff.1 h
  refine ⟨by simp, ?_⟩
  have h2 : q ++ [p] ++ rest = q ++ p :: rest := by simp
  rw [← e, h2, len_one, show (((q.length + 1 : Nat) : Int) - 1) = (q.length : Int) by omega]
  exact rd_mid q p rest
theorem no_last {α : Type} {pre : List α} (h : pre.getLast? = none) : pre = [] := by
  simpa using h
end Go.Proofs.Ytfdgmknjmljhbaa.Pl
end
section
namespace Go.Proofs.Ytfdgmknjmljhbaa.EvN
def Cm {α : Type} (f : Nat → Option α) (v : α) : Prop := ∃ K, ∀ k, K ≤ k → f k = some v
theorem cm_now {α : Type} {f : Nat → Option α} {v : α} (h : ∀ k, f k = some v) : Cm f v := ⟨0, fun k _ => h k⟩
theorem cm_step {α : Type} {f g : Nat → Option α} {v : α} (h : ∀ k, f (k + 1) = g k) (hg : Cm g v) : Cm f v := by
  obtain ⟨K, hK⟩ := hg
  refine ⟨K + 1, fun k hk => ?_⟩
  obtain ⟨m, rfl⟩ : ∃ m, k = m + 1 := ⟨k - 1, by omega⟩
  rw [h, hK m (by omega)]
theorem cm_same {α : Type} {f g : Nat → Option α} {v : α} (h : ∀ k, f k = g k) (hg : Cm g v) : Cm f v := by
  obtain ⟨K, hK⟩ := hg
  exact ⟨K, fun k hk => by rw [h, hK k hk]⟩
theorem cm_bind {α β : Type} {a : Nat → Option α} {t : α} {g : Nat → α → Option β} {v : β} (ha : Cm a t) (hg : Cm (fun k => g k t) v) : Cm (fun k => (a k).bind (g k)) v := by
  obtain ⟨K, hK⟩ := ha
  obtain ⟨M, hM⟩ := hg
  exact ⟨K + M, fun k hk => by simp only [hK k (by omega)]; exact hM k (by omega)⟩
theorem cm_yes {α : Type} {c : Prop} [Decidable c] {x y : Nat → Option α} {v : α} (h : c) (h2 : Cm x v) : Cm (fun k => if c then x k else y k) v :=
  cm_same (fun _ => if_pos h) h2
theorem cm_no {α : Type} {c : Prop} [Decidable c] {x y : Nat → Option α} {v : α} (h : ¬ c) (h2 : Cm y v) : Cm (fun k => if c then x k else y k) v :=
  cm_same (fun _ => if_neg h) h2
end Go.Proofs.Ytfdgmknjmljhbaa.EvN
end
section
namespace Go.Proofs.Ytfdgmknjmljhbaa.Lp
open Go.RowKit Go.Proofs.YtfdgmknjmljhbaaW.PrintWords
open Go.Proofs.Ytfdgmknjmljhbaa.Pl Go.Proofs.Ytfdgmknjmljhbaa.EvN
def okFrom {α : Type} (p : List α → α → Bool) : List α → List α → Bool
  | _, [] => true
  | pre, h :: t => p pre h && okFrom p (pre ++ [h]) t
theorem okFrom_iff {α : Type} (p : List α → α → Bool) : ∀ (rest pre : List α), okFrom p pre rest = true ↔ ∀ a h t, a ++ h :: t = rest → p (pre ++ a) h = true
  | [], pre => by
    simp only [okFrom, true_iff]
    intro a h t e
    simp at e
  | x :: t, pre => by
    simp only [okFrom, Bool.and_eq_true]
    rw [okFrom_iff p t (pre ++ [x])]
    constructor
    · rintro ⟨h1, h2⟩ a h t' e
      cases a with
      | nil =>
        simp only [List.nil_append, List.cons.injEq] at e
        obtain ⟨rfl, rfl⟩ := e
        simpa using h1
      | cons y a =>
        simp only [List.cons_append, List.cons.injEq] at e
        obtain ⟨rfl, e⟩ := e
        have := h2 a h t' e
        simpa using this
    · intro h
      refine ⟨by simpa using h [] x t rfl, fun a h' t' e => ?_⟩
      have := h (x :: a) h' t' (by simp [e])
      simpa using this
theorem all_cm {α ρ : Type} {L : Nat → Int → Option ρ} (xs : List α) (p : List α → α → Bool) {fin no : ρ}
    (hstep : ∀ pre h t, pre ++ h :: t = xs → pre.length < xs.length → p pre h = true → ∀ v, Cm (fun k => L k ((pre.length + 1 : Nat) : Int)) v → Cm (fun k => L k (pre.length : Int)) v)
    (hno : ∀ pre h t, pre ++ h :: t = xs → pre.length < xs.length → p pre h = false → Cm (fun k => L k (pre.length : Int)) no)
    (hend : okFrom p [] xs = true → Cm (fun k => L k (xs.length : Int)) fin) : Cm (fun k => L k 0) (if okFrom p [] xs = true then fin else no) := by
  have key : ∀ (rest pre : List α), pre ++ rest = xs → (okFrom p pre rest = okFrom p [] xs) → Cm (fun k => L k (pre.length : Int)) (if okFrom p pre rest = true then fin else no) := by
    intro rest
    induction rest with
    | nil =>
      intro pre e h
      rw [List.append_nil] at e
      subst e
      simp only [okFrom, if_true] at h ⊢
      exact hend h.symm
    | cons x t ih =>
      intro pre e h
      by_cases c : p pre x = true
      · have h2 : okFrom p pre (x :: t) = okFrom p (pre ++ [x]) t := by simp only [okFrom, c, Bool.true_and]
        rw [h2] at h ⊢
        have h3 := ih (pre ++ [x]) (app_mid e) h
        rw [len_one] at h3
        exact hstep pre x t e (len_mid e) c _ h3
      · have c2 : p pre x = false := by simpa using c
        have h2 : okFrom p pre (x :: t) = false := by simp only [okFrom, c2, Bool.false_and]
        rw [h2]
        simpa using hno pre x t e (len_mid e) c2
  exact key xs [] rfl rfl
theorem okFrom_all {α : Type} (p : α → Bool) : ∀ (rest pre : List α), okFrom (fun _ h => p h) pre rest = rest.all p
  | [], _ => rfl
  | x :: t, pre => by simp only [okFrom, List.all_cons, okFrom_all p t]
theorem every_cm {α ρ : Type} {L : Nat → Int → Option ρ} (xs : List α) (p : α → Bool) {fin no : ρ}
    (hstep : ∀ pre h t, pre ++ h :: t = xs → pre.length < xs.length → p h = true → ∀ v, Cm (fun k => L k ((pre.length + 1 : Nat) : Int)) v → Cm (fun k => L k (pre.length : Int)) v)
    (hno : ∀ pre h t, pre ++ h :: t = xs → pre.length < xs.length → p h = false → Cm (fun k => L k (pre.length : Int)) no)
    (hend : xs.all p = true → Cm (fun k => L k (xs.length : Int)) fin) : Cm (fun k => L k 0) (if xs.all p = true then fin else no) := by
  have := all_cm (L := L) xs (fun _ h => p h) hstep hno (by rw [okFrom_all]; exact hend)
  rw [okFrom_all] at this
  exact this
def foundAt {α ρ : Type} (p : α → Bool) (found : Nat → α → ρ) (none_ : ρ) : Nat → List α → ρ
  | _, [] => none_
  | i, h :: t => if p h = true then found i h else foundAt p found none_ (i + 1) t
theorem find_cm {α ρ : Type} {L : Nat → Int → Option ρ} (xs : List α) (p : α → Bool) (found : Nat → α → ρ) {none_ : ρ}
    (hstep : ∀ pre h t, pre ++ h :: t = xs → pre.length < xs.length → p h = false → ∀ v, Cm (fun k => L k ((pre.length + 1 : Nat) : Int)) v → Cm (fun k => L k (pre.length : Int)) v)
    (hyes : ∀ pre h t, pre ++ h :: t = xs → pre.length < xs.length → p h = true → Cm (fun k => L k (pre.length : Int)) (found pre.length h))
    (hend : Cm (fun k => L k (xs.length : Int)) none_) : Cm (fun k => L k 0) (foundAt p found none_ 0 xs) := by
  have key : ∀ (rest pre : List α), pre ++ rest = xs → Cm (fun k => L k (pre.length : Int)) (foundAt p found none_ pre.length rest) := by
    intro rest
    induction rest with
    | nil =>
      intro pre e
      rw [List.append_nil] at e
      subst e
      exact hend
    | cons x t ih =>
      intro pre e
      unfold foundAt
      by_cases c : p x = true
      · rw [if_pos c]
        exact hyes pre x t e (len_mid e) c
      · rw [if_neg c]
        have h3 := ih (pre ++ [x]) (app_mid e)
        rw [len_one] at h3
        exact hstep pre x t e (len_mid e) (by simpa using c) _ h3
  exact key xs [] rfl
theorem found_any {α : Type} (p : α → Bool) : ∀ (l : List α) (i : Nat), decide (foundAt p (fun i _ => (i : Int)) (-1) i l ≥ 0) = l.any p
  | [], _ => by simp [foundAt]
  | h :: t, i => by
    unfold foundAt
    by_cases c : p h = true
    · rw [if_pos c]; simp [c]
    · rw [if_neg c, found_any p t (i + 1)]; simp [c]
theorem same_cm {α ρ : Type} {L : Nat → Int → Option ρ} (xs : List α) {fin : ρ}
    (hstep : ∀ pre h t, pre ++ h :: t = xs → pre.length < xs.length → ∀ v, Cm (fun k => L k ((pre.length + 1 : Nat) : Int)) v → Cm (fun k => L k (pre.length : Int)) v)
    (hend : Cm (fun k => L k (xs.length : Int)) fin) : Cm (fun k => L k 0) fin := by
  have := every_cm (L := L) xs (fun _ => true) (fin := fin) (no := fin) (fun pre h t e hl _ => hstep pre h t e hl) (fun _ _ _ _ _ hp => by cases hp) (fun _ => hend)
  have h : (xs.all fun _ => true) = true := by simp
  rw [if_pos h] at this
  exact this
theorem map_cm {α β : Type} {L : Nat → Int → List β → Option (List β)} (xs : List α) (c : α → β) (z : β)
    (hstep : ∀ pre h t acc, pre ++ h :: t = xs → pre.length < xs.length → acc.length = xs.length → ∀ u, Cm (fun k => L k ((pre.length + 1 : Nat) : Int) (acc.set pre.length (c h))) u → Cm (fun k => L k (pre.length : Int) acc) u)
    (hend : ∀ acc, acc.length = xs.length → Cm (fun k => L k (xs.length : Int) acc) acc) : Cm (fun k => L k 0 (List.replicate xs.length z)) (xs.map c) := by
  have key : ∀ (rest pre : List α) (tl : List β), pre ++ rest = xs → tl.length = rest.length → Cm (fun k => L k (pre.length : Int) (pre.map c ++ tl)) (xs.map c) := by
    intro rest
    induction rest with
    | nil =>
      intro pre tl e ht
      have ht2 : tl = [] := List.length_eq_zero_iff.1 ht
      rw [List.append_nil] at e
      subst ht2 e
      rw [List.append_nil]
      exact hend _ (by simp)
    | cons h t ih =>
      intro pre tl e ht
      match tl, ht with
      | y :: tl, ht =>
        refine hstep pre h t _ e (len_mid e) (by rw [← e]; simp at ht ⊢; omega) _ ?_
        have e2 : (pre.map c ++ y :: tl).set pre.length (c h) = (pre ++ [h]).map c ++ tl := by
          have : pre.length = (pre.map c).length := by simp
          rw [this]
          simp
        rw [e2]
        have := ih (pre ++ [h]) tl (app_mid e) (by simpa using ht)
        rw [len_one] at this
        exact this
  have := key xs [] (List.replicate xs.length z) rfl (by simp)
  simpa using this
theorem cm_if {α : Type} {c : Prop} [Decidable c] {x y : Nat → Option α} {v : α} (h : c → Cm x v) (h2 : ¬ c → Cm y v) : Cm (fun k => if c then x k else y k) v := by
  by_cases hc : c
  · exact cm_yes hc (h hc)
  · exact cm_no hc (h2 hc)
theorem getD_at {α : Type} {pre t l : List α} {h : α} (e : pre ++ h :: t = l) (d : α) : l.getD ((pre.length : Int)).toNat d = h := by
  rw [← e]; simp
theorem getLast_at {α : Type} {pre rest l : List α} (e : pre ++ rest = l) (d : α) {q : α} (h : pre.getLast? = some q) : 0 < pre.length ∧ l.getD ((pre.length : Int) - 1).toNat d = q := by
  obtain ⟨z, rfl⟩ := List.getLast?_eq_some_iff.1 h
  refine ⟨by simp, ?_⟩
  have h3 : ((((z ++ [q]).length : Nat) : Int) - 1).toNat = z.length := by simp
  rw [← e, h3]
  simp
theorem wrap_less {n : Nat} (h : 0 < n) (hm : n ≤ 4611686018427387904) : wrap64 ((n : Int) - 1) = (n : Int) - 1 := wrap_in (by omega) (by omega)
theorem cm_val {α : Type} {f : Nat → Option α} {u v : α} (h : Cm f u) (e : u = v) : Cm f v := e ▸ h
end Go.Proofs.Ytfdgmknjmljhbaa.Lp
end
section
namespace Go.Proofs.Ytfdgmknjmljhbaa.Hs
open Go.RowKit Go.Proofs.Ytfdgmknjmljhbaa.P Go.Proofs.YtfdgmknjmljhbaaW.PrintWords Go.Proofs.YtfdgmknjmljhbaaW.PrintLast Go.Proofs.YtfdgmknjmljhbaaW.PrintMore
open Go.Proofs.Ytfdgmknjmljhbaa.Pl Go.Proofs.Ytfdgmknjmljhbaa.EvN Go.Proofs.Ytfdgmknjmljhbaa.Lp
set_option linter.unusedSimpArgs false
set_option linter.unusedVariables false
theorem toIntS_f (l : List Int) (h : l.length * 8 ≤ 140737488351232) : Cm (fun k => laws_toIntS.f k l) l := by
  unfold laws_toIntS.f
  refine cm_yes (by omega) (cm_yes (by omega) ?_)
  have := map_cm (L := fun k i s => laws_toIntS.l0 k l s i) l (fun x => x) 0 ?_ ?_
  · simpa using this
  · intro pre x t acc e hlt ha u hu
    refine cm_step (fun k => by rw [laws_toIntS.l0]) ?_
    simp only [rd_at e, wrap_len hlt (show l.length ≤ 4611686018427387904 by omega), Int.toNat_natCast]
    repeat (first | assumption | exact cm_now (fun _ => rfl) | refine cm_yes (by first | omega | assumption | (simp; done) | (simp; omega)) ?_ | refine cm_no (by first | omega | assumption | (simp; done) | (simp; omega)) ?_)
  · intro acc ha
    refine cm_step (fun k => by rw [laws_toIntS.l0]) ?_
    repeat (first | assumption | exact cm_now (fun _ => rfl) | refine cm_yes (by first | omega | assumption | (simp; done) | (simp; omega)) ?_ | refine cm_no (by first | omega | assumption | (simp; done) | (simp; omega)) ?_)
theorem eqIntS_same (l : List Int) (h : l.length ≤ 4611686018427387904) : Cm (fun k => laws_eqIntS.f k l l) true := by
  unfold laws_eqIntS.f
  refine cm_yes rfl ?_
  refine same_cm (L := fun k i => laws_eqIntS.l0 k l l i) l ?_ ?_
  · intro pre x t e hlt v hv
    refine cm_step (fun k => by rw [laws_eqIntS.l0]) ?_
    simp only [rd_at e, wrap_len hlt h]
    repeat (first | assumption | exact cm_now (fun _ => rfl) | refine cm_yes (by first | omega | assumption | (simp; done) | (simp; omega) | exact rfl) ?_ | refine cm_no (by first | omega | assumption | (simp; done) | (simp; omega) | exact rfl) ?_)
  · refine cm_step (fun k => by rw [laws_eqIntS.l0]) ?_
    repeat (first | assumption | exact cm_now (fun _ => rfl) | refine cm_yes (by first | omega | assumption | (simp; done) | (simp; omega)) ?_ | refine cm_no (by first | omega | assumption | (simp; done) | (simp; omega)) ?_)
end Go.Proofs.Ytfdgmknjmljhbaa.Hs
end
section
namespace Go.Proofs.Ytfdgmknjmljhbaa.Hg
open Go.RowKit Go.Proofs.Ytfdgmknjmljhbaa.P Go.Proofs.YtfdgmknjmljhbaaW.PrintWords Go.Proofs.YtfdgmknjmljhbaaW.PrintLast Go.Proofs.YtfdgmknjmljhbaaW.PrintMore
open Go.Proofs.Ytfdgmknjmljhbaa.Pl Go.Proofs.Ytfdgmknjmljhbaa.EvN Go.Proofs.Ytfdgmknjmljhbaa.Lp Go.Proofs.Ytfdgmknjmljhbaa.Hs
set_option linter.unusedSimpArgs false
set_option linter.unusedVariables false
theorem rdT110_at {pre t l : List S110} {h : S110} (e : pre ++ h :: t = l) : rd_T110 l (pre.length : Int) = h := getD_at e _
theorem rdT92_at {pre t l : List S92} {h : S92} (e : pre ++ h :: t = l) : rd_T92 l (pre.length : Int) = h := getD_at e _
def cRow (x : S110) : S92 := ⟨x.f0, x.f1⟩
def smRow (x : S92) : Prop := (True) ∧ (True)
theorem sm_cRow (x : S110) (h : ok110 x) : smRow (cRow x) := by
  obtain ⟨h0, h1⟩ := h
  exact ⟨trivial, trivial⟩
theorem toRow_f (x : S110) (h : ok110 x) : Cm (fun k => laws_toRow.f x.f0 x.f1) ((cRow x).f0, (cRow x).f1) := by
  obtain ⟨h0, h1⟩ := h
  unfold laws_toRow.f
  exact cm_now fun _ => rfl
theorem toRowS_f (l : List S110) (h : l.length ≤ maxLen ∧ l.length * 16 ≤ 140737488351232 ∧ ∀ x_ ∈ l, ok110 x_) : Cm (fun k => laws_toRowS.f k l) (l.map cRow) := by
  have hl := h.2.1
  unfold laws_toRowS.f
  refine cm_yes (by omega) (cm_yes (by omega) ?_)
  rw [Int.toNat_natCast]
  refine map_cm (L := fun k i s => laws_toRowS.l0 k l s i) l cRow z92 ?_ ?_
  · intro pre x t acc e hlt ha u hu
    have hx := h.2.2 x (by rw [← e]; simp)
    refine cm_step (fun k => by rw [laws_toRowS.l0]) ?_
    simp only [rdT110_at e, wrap_len hlt (show l.length ≤ 4611686018427387904 by omega), Int.toNat_natCast]
    refine cm_yes (by omega) (cm_yes (by omega) (cm_bind (toRow_f x hx) (cm_yes (by omega) ?_)))
    exact hu
  · intro acc ha
    refine cm_step (fun k => by rw [laws_toRowS.l0]) ?_
    exact cm_no (by omega) (cm_now fun _ => rfl)
theorem eqRow_same (x : S92) (h : smRow x) : Cm (fun k => laws_eqRow.f x.f0 x.f1 x.f0 x.f1) true := by
  obtain ⟨h0, h1⟩ := h
  unfold laws_eqRow.f
  exact cm_yes rfl (cm_yes rfl (cm_now fun _ => rfl))
theorem eqRowS_same (l : List S92) (h : l.length ≤ 4611686018427387904 ∧ ∀ y ∈ l, smRow y) : Cm (fun k => laws_eqRowS.f k l l) true := by
  unfold laws_eqRowS.f
  refine cm_yes rfl ?_
  refine same_cm (L := fun k i => laws_eqRowS.l0 k l l i) l ?_ ?_
  · intro pre x t e hlt v hv
    have hx := h.2 x (by rw [← e]; simp)
    refine cm_step (fun k => by rw [laws_eqRowS.l0]) ?_
    simp only [rdT92_at e, wrap_len hlt h.1]
    exact cm_yes (by omega) (cm_yes (by omega) (cm_yes (by omega) (cm_bind (eqRow_same x hx) (cm_yes rfl hv))))
  · refine cm_step (fun k => by rw [laws_eqRowS.l0]) ?_
    exact cm_no (by omega) (cm_now fun _ => rfl)
theorem rdT101_at {pre t l : List S101} {h : S101} (e : pre ++ h :: t = l) : rd_T101 l (pre.length : Int) = h := getD_at e _
theorem rdT80_at {pre t l : List S80} {h : S80} (e : pre ++ h :: t = l) : rd_T80 l (pre.length : Int) = h := getD_at e _
def cReplica (x : S101) : S80 := ⟨x.f0.map cRow, x.f1, x.f2⟩
def smReplica (x : S80) : Prop := (x.f0.length ≤ 4611686018427387904 ∧ ∀ y ∈ x.f0, smRow y) ∧ (True) ∧ (True)
theorem sm_cReplica (x : S101) (h : ok101 x) : smReplica (cReplica x) := by
  obtain ⟨h0, h1, h2⟩ := h
  exact ⟨⟨by have := h0.2.1; simp only [cReplica, List.length_map]; omega, fun y hy => by obtain ⟨z, hz, rfl⟩ := List.mem_map.1 hy; exact sm_cRow z (h0.2.2 z hz)⟩, trivial, trivial⟩
theorem toReplica_f (x : S101) (h : ok101 x) : Cm (fun k => laws_toReplica.f k x.f0 x.f1 x.f2) ((cReplica x).f0, (cReplica x).f1, (cReplica x).f2) := by
  obtain ⟨h0, h1, h2⟩ := h
  unfold laws_toReplica.f
  exact cm_bind (toRowS_f _ h0) (cm_now fun _ => rfl)
theorem toReplicaS_f (l : List S101) (h : l.length ≤ maxLen ∧ l.length * 40 ≤ 140737488351232 ∧ ∀ x_ ∈ l, ok101 x_) : Cm (fun k => laws_toReplicaS.f k l) (l.map cReplica) := by
  have hl := h.2.1
  unfold laws_toReplicaS.f
  refine cm_yes (by omega) (cm_yes (by omega) ?_)
  rw [Int.toNat_natCast]
  refine map_cm (L := fun k i s => laws_toReplicaS.l0 k l s i) l cReplica z80 ?_ ?_
  · intro pre x t acc e hlt ha u hu
    have hx := h.2.2 x (by rw [← e]; simp)
    refine cm_step (fun k => by rw [laws_toReplicaS.l0]) ?_
    simp only [rdT101_at e, wrap_len hlt (show l.length ≤ 4611686018427387904 by omega), Int.toNat_natCast]
    refine cm_yes (by omega) (cm_yes (by omega) (cm_bind (toReplica_f x hx) (cm_yes (by omega) ?_)))
    exact hu
  · intro acc ha
    refine cm_step (fun k => by rw [laws_toReplicaS.l0]) ?_
    exact cm_no (by omega) (cm_now fun _ => rfl)
theorem eqReplica_same (x : S80) (h : smReplica x) : Cm (fun k => laws_eqReplica.f k x.f0 x.f1 x.f2 x.f0 x.f1 x.f2) true := by
  obtain ⟨h0, h1, h2⟩ := h
  unfold laws_eqReplica.f
  exact cm_bind (eqRowS_same _ h0) (cm_yes rfl (cm_yes rfl (cm_yes rfl (cm_now fun _ => rfl))))
theorem eqReplicaS_same (l : List S80) (h : l.length ≤ 4611686018427387904 ∧ ∀ y ∈ l, smReplica y) : Cm (fun k => laws_eqReplicaS.f k l l) true := by
  unfold laws_eqReplicaS.f
  refine cm_yes rfl ?_
  refine same_cm (L := fun k i => laws_eqReplicaS.l0 k l l i) l ?_ ?_
  · intro pre x t e hlt v hv
    have hx := h.2 x (by rw [← e]; simp)
    refine cm_step (fun k => by rw [laws_eqReplicaS.l0]) ?_
    simp only [rdT80_at e, wrap_len hlt h.1]
    exact cm_yes (by omega) (cm_yes (by omega) (cm_yes (by omega) (cm_bind (eqReplica_same x hx) (cm_yes rfl hv))))
  · refine cm_step (fun k => by rw [laws_eqReplicaS.l0]) ?_
    exact cm_no (by omega) (cm_now fun _ => rfl)
def cGroup (x : S44) : S36 := ⟨x.f0, x.f1, x.f2, x.f3, x.f4.map cReplica⟩
def smGroup (x : S36) : Prop := (True) ∧ (True) ∧ (x.f2.length ≤ 4611686018427387904) ∧ (True) ∧ (x.f4.length ≤ 4611686018427387904 ∧ ∀ y ∈ x.f4, smReplica y)
theorem sm_cGroup (x : S44) (h : ok44 x) : smGroup (cGroup x) := by
  obtain ⟨h0, h1, h2, h3, h4⟩ := h
  exact ⟨trivial, trivial, by have := h2.2.1; simp only [cGroup]; omega, trivial, ⟨by have := h4.2.1; simp only [cGroup, List.length_map]; omega, fun y hy => by obtain ⟨z, hz, rfl⟩ := List.mem_map.1 hy; exact sm_cReplica z (h4.2.2 z hz)⟩⟩
theorem toGroup_f (x : S44) (h : ok44 x) : Cm (fun k => laws_toGroup.f k x.f0 x.f1 x.f2 x.f3 x.f4) ((cGroup x).f0, (cGroup x).f1, (cGroup x).f2, (cGroup x).f3, (cGroup x).f4) := by
  obtain ⟨h0, h1, h2, h3, h4⟩ := h
  unfold laws_toGroup.f
  exact cm_bind (toIntS_f _ h2.2.1) (cm_bind (toReplicaS_f _ h4) (cm_now fun _ => rfl))
theorem eqGroup_same (x : S36) (h : smGroup x) : Cm (fun k => laws_eqGroup.f k x.f0 x.f1 x.f2 x.f3 x.f4 x.f0 x.f1 x.f2 x.f3 x.f4) true := by
  obtain ⟨h0, h1, h2, h3, h4⟩ := h
  unfold laws_eqGroup.f
  exact cm_yes rfl (cm_yes rfl (cm_bind (eqIntS_same _ h2) (cm_yes rfl (cm_yes rfl (cm_bind (eqReplicaS_same _ h4) (cm_yes rfl (cm_now fun _ => rfl)))))))
end Go.Proofs.Ytfdgmknjmljhbaa.Hg
end
section
namespace Go.Proofs.Ytfdgmknjmljhbaa.Sz
open Go.RowKit Go.Proofs.Ytfdgmknjmljhbaa.P Go.Proofs.YtfdgmknjmljhbaaW.PrintWords Go.Proofs.YtfdgmknjmljhbaaW.PrintLast Go.Proofs.YtfdgmknjmljhbaaW.PrintMore
open Go.Proofs.Ytfdgmknjmljhbaa.Pl Go.Proofs.Ytfdgmknjmljhbaa.EvN Go.Proofs.Ytfdgmknjmljhbaa.Lp Go.Proofs.Ytfdgmknjmljhbaa.Hs
theorem wt_cm {α : Type} {L : Nat → Int → Int → Option Int} (xs : List α) (wt : α → Nat)
    (hstep : ∀ pre h t s, pre ++ h :: t = xs → pre.length < xs.length → 0 ≤ s → s ≤ 1099511627776 → (∃ v, v < 0 ∧ Cm (fun k => L k (pre.length : Int) s) v) ∨ ∃ s' : Int, 0 ≤ s' ∧ s' + (wt h : Int) = s ∧ ∀ u, Cm (fun k => L k ((pre.length + 1 : Nat) : Int) s') u → Cm (fun k => L k (pre.length : Int) s) u)
    (hend : ∀ s, Cm (fun k => L k (xs.length : Int) s) s) (s0 : Int) (h0 : 0 ≤ s0) (h1 : s0 ≤ 1099511627776) : ∃ v, Cm (fun k => L k 0 s0) v ∧ (v < 0 ∨ v + (((xs.map wt).sum : Nat) : Int) = s0) := by
  have key : ∀ (rest pre : List α) (s : Int), pre ++ rest = xs → 0 ≤ s → s ≤ 1099511627776 → ∃ v, Cm (fun k => L k (pre.length : Int) s) v ∧ (v < 0 ∨ v + (((rest.map wt).sum : Nat) : Int) = s) := by
    intro rest
    induction rest with
    | nil =>
      intro pre s e h0 h1
      rw [List.append_nil] at e
      subst e
      exact ⟨s, hend s, .inr (by simp)⟩
    | cons h t ih =>
      intro pre s e h0 h1
      rcases hstep pre h t s e (len_mid e) h0 h1 with ⟨v, hv, hc⟩ | ⟨s', hs', hw, hc⟩
      · exact ⟨v, hc, .inl hv⟩
      · obtain ⟨v, hv, hd⟩ := ih (pre ++ [h]) s' (app_mid e) hs' (by omega)
        rw [len_one] at hv
        refine ⟨v, hc v hv, hd.imp_right (fun hd => ?_)⟩
        rw [List.map_cons, List.sum_cons]
        push_cast
        omega
  exact key xs [] s0 rfl h0 h1
theorem off_wrap {n : Nat} {m : Int} (h0 : 0 ≤ m) (h1 : m ≤ 1099511627776) (h : n ≤ 4611686018427387904) : wrap64 (m - (n : Int)) = m - (n : Int) := wrap_in (by omega) (by omega)
theorem szIntS_wt (l : List Int) (hl : l.length ≤ 4611686018427387904) (m : Int) (h0 : 0 ≤ m) (h1 : m ≤ 1099511627776) : ∃ v, Cm (fun _ => laws_szIntS.f l m) v ∧ (v < 0 ∨ v + (l.length : Int) = m) := by
  unfold laws_szIntS.f
  rw [off_wrap h0 h1 hl]
  by_cases c : m - (l.length : Int) < 0
  · exact ⟨_, cm_yes c (cm_now fun _ => rfl), .inl (by omega)⟩
  · exact ⟨_, cm_no c (cm_now fun _ => rfl), .inr (by omega)⟩
theorem tot_map {α β : Type} (c : β → Nat) (g : α → β) (w : α → Nat) (l : List α) (h : ∀ x ∈ l, c (g x) ≤ 10 * (1 + w x)) : Mk.tot c (l.map g) ≤ 10 * (l.length + (l.map w).sum) := by
  induction l with
  | nil => exact Nat.zero_le _
  | cons x l ih =>
    have := ih (fun y hy => h y (List.mem_cons_of_mem _ hy))
    have := h x List.mem_cons_self
    unfold Mk.tot at *
    simp only [List.map_cons, List.sum_cons, List.length_cons] at *
    omega
theorem w_mem {α : Type} (w : α → Nat) {l : List α} {x : α} (h : x ∈ l) : w x ≤ (l.map w).sum := by
  induction l with
  | nil => simp at h
  | cons y l ih =>
    rw [List.map_cons, List.sum_cons]
    rcases List.mem_cons.1 h with rfl | h
    · omega
    · have := ih h
      omega
theorem tot_le {α : Type} (c : α → Nat) (m : Nat) : ∀ (l : List α), (∀ x ∈ l, c x ≤ m) → Mk.tot c l ≤ m * l.length
  | [], _ => Nat.zero_le _
  | x :: l, h => by
    have := tot_le c m l (fun y hy => h y (List.mem_cons_of_mem _ hy))
    have := h x List.mem_cons_self
    unfold Mk.tot at *
    simp only [List.map_cons, List.sum_cons, List.length_cons, Nat.mul_succ]
    omega
end Go.Proofs.Ytfdgmknjmljhbaa.Sz
end
section
namespace Go.Proofs.Ytfdgmknjmljhbaa.Sz
open Go.RowKit Go.Proofs.Ytfdgmknjmljhbaa.P Go.Proofs.YtfdgmknjmljhbaaW.PrintWords Go.Proofs.YtfdgmknjmljhbaaW.PrintLast Go.Proofs.YtfdgmknjmljhbaaW.PrintMore
open Go.Proofs.Ytfdgmknjmljhbaa.Pl Go.Proofs.Ytfdgmknjmljhbaa.EvN Go.Proofs.Ytfdgmknjmljhbaa.Lp Go.Proofs.Ytfdgmknjmljhbaa.Hs Go.Proofs.Ytfdgmknjmljhbaa.Hg
set_option linter.unusedSimpArgs false
set_option linter.unusedVariables false
def wRow (x : S110) : Nat := 0
def wRowS (l : List S110) : Nat := l.length + (l.map wRow).sum
theorem szRowS_wt (l : List S110) (h : l.length ≤ maxLen ∧ l.length * 16 ≤ 140737488351232 ∧ ∀ x_ ∈ l, ok110 x_) (m : Int) (hm0 : 0 ≤ m) (hm1 : m ≤ 1099511627776) : ∃ v, Cm (fun k => laws_szRowS.f l m) v ∧ (v < 0 ∨ v + (wRowS l : Int) = m) := by
  have hl := h.2.1
  unfold laws_szRowS.f wRowS
  rw [off_wrap hm0 hm1 (by omega)]
  by_cases c : m - (l.length : Int) < 0
  · exact ⟨_, cm_yes c (cm_now fun _ => rfl), .inl (by omega)⟩
  · refine ⟨_, cm_no c (cm_now fun _ => rfl), .inr ?_⟩
    have e0 : (l.map wRow).sum = 0 := by
      clear h hl c
      induction l with
      | nil => rfl
      | cons y l ih => rw [List.map_cons, List.sum_cons, ih]; rfl
    rw [e0]
    push_cast
    omega
theorem pcRow_le (x : S110) : Mk.pcRow (cRow x) ≤ 10 * (1 + wRow x) := by
  simp only [Mk.pcRow, cRow, wRow]
  omega
def wReplica (x : S101) : Nat := wRowS x.f0
def wReplicaS (l : List S101) : Nat := l.length + (l.map wReplica).sum
theorem szReplica_wt (x : S101) (h : ok101 x) (m : Int) (hm0 : 0 ≤ m) (hm1 : m ≤ 1099511627776) : ∃ v, Cm (fun k => laws_szReplica.f x.f0 x.f1 x.f2 m) v ∧ (v < 0 ∨ v + (wReplica x : Int) = m) := by
  obtain ⟨h0, h1, h2⟩ := h
  unfold laws_szReplica.f wReplica
  obtain ⟨v0, w0, d0⟩ := szRowS_wt x.f0 h0 m (by omega) (by omega)
  by_cases c0 : v0 < 0
  · exact ⟨-1, cm_bind w0 (cm_yes c0 (cm_now fun _ => rfl)), .inl (by omega)⟩
  exact ⟨v0, cm_bind w0 (cm_no c0 (cm_now fun _ => rfl)), .inr (by push_cast; omega)⟩
theorem szReplicaS_wt (l : List S101) (h : l.length ≤ maxLen ∧ l.length * 40 ≤ 140737488351232 ∧ ∀ x_ ∈ l, ok101 x_) (m : Int) (hm0 : 0 ≤ m) (hm1 : m ≤ 1099511627776) : ∃ v, Cm (fun k => laws_szReplicaS.f k l m) v ∧ (v < 0 ∨ v + (wReplicaS l : Int) = m) := by
  have hl := h.2.1
  unfold laws_szReplicaS.f wReplicaS
  rw [off_wrap hm0 hm1 (by omega)]
  by_cases c : m - (l.length : Int) < 0
  · exact ⟨_, cm_yes c (cm_now fun _ => rfl), .inl (by omega)⟩
  · obtain ⟨v, hv, hd⟩ := wt_cm (L := fun k i s => laws_szReplicaS.l0 k l s i) l wReplica (fun pre x t s e hlt g0 g1 => by
      obtain ⟨v, hv, hd⟩ := szReplica_wt x (h.2.2 x (by rw [← e]; simp)) s g0 g1
      by_cases c2 : v < 0
      · refine .inl ⟨-1, by omega, ?_⟩
        refine cm_step (fun k => by rw [laws_szReplicaS.l0]) ?_
        simp only [rdT101_at e, wrap_len hlt (show l.length ≤ 4611686018427387904 by omega)]
        exact cm_yes (by omega) (cm_yes (by omega) (cm_bind hv (cm_yes c2 (cm_now fun _ => rfl))))
      · refine .inr ⟨v, by omega, by omega, fun u hu => ?_⟩
        refine cm_step (fun k => by rw [laws_szReplicaS.l0]) ?_
        simp only [rdT101_at e, wrap_len hlt (show l.length ≤ 4611686018427387904 by omega)]
        exact cm_yes (by omega) (cm_yes (by omega) (cm_bind hv (cm_no c2 hu)))) (fun s => by
      refine cm_step (fun k => by rw [laws_szReplicaS.l0]) ?_
      exact cm_no (by omega) (cm_now fun _ => rfl)) (m - (l.length : Int)) (by omega) (by omega)
    exact ⟨v, cm_no c hv, by push_cast; omega⟩
theorem pcReplica_le (x : S101) : Mk.pcReplica (cReplica x) ≤ 10 * (1 + wReplica x) := by
  have t0 : Mk.tot Mk.pcRow (x.f0.map cRow) ≤ 10 * wRowS x.f0 := tot_map _ _ _ _ (fun y _ => pcRow_le y)
  simp only [Mk.pcReplica, cReplica, wReplica]
  omega
theorem totReplica_le (l : List S101) : Mk.tot Mk.pcReplica (l.map cReplica) ≤ 10 * wReplicaS l := tot_map _ _ _ _ (fun y _ => pcReplica_le y)
def wGroup (x : S44) : Nat := x.f2.length + wReplicaS x.f4
theorem szGroup_wt (x : S44) (h : ok44 x) (m : Int) (hm0 : 0 ≤ m) (hm1 : m ≤ 1099511627776) : ∃ v, Cm (fun k => laws_szGroup.f k x.f0 x.f1 x.f2 x.f3 x.f4 m) v ∧ (v < 0 ∨ v + (wGroup x : Int) = m) := by
  obtain ⟨h0, h1, h2, h3, h4⟩ := h
  unfold laws_szGroup.f wGroup
  obtain ⟨v0, w0, d0⟩ := szIntS_wt x.f2 (by have := h2.2.1; omega) m (by omega) (by omega)
  by_cases c0 : v0 < 0
  · exact ⟨-1, cm_bind w0 (cm_yes c0 (cm_now fun _ => rfl)), .inl (by omega)⟩
  obtain ⟨v1, w1, d1⟩ := szReplicaS_wt x.f4 h4 v0 (by omega) (by omega)
  by_cases c1 : v1 < 0
  · exact ⟨-1, cm_bind w0 (cm_no c0 (cm_bind w1 (cm_yes c1 (cm_now fun _ => rfl)))), .inl (by omega)⟩
  exact ⟨v1, cm_bind w0 (cm_no c0 (cm_bind w1 (cm_no c1 (cm_now fun _ => rfl)))), .inr (by push_cast; omega)⟩
end Go.Proofs.Ytfdgmknjmljhbaa.Sz
end
section
namespace Go.Proofs.Ytfdgmknjmljhbaa.Sets
open Go.RowKit Go.Proofs.YtfdgmknjmljhbaaW.PrintWords Go.Proofs.YtfdgmknjmljhbaaW.PrintLast Go.Proofs.YtfdgmknjmljhbaaW.PrintMore
open Go.Proofs.Ytfdgmknjmljhbaa.Pl Go.Proofs.Ytfdgmknjmljhbaa.EvN Go.Proofs.Ytfdgmknjmljhbaa.Lp
set_option linter.unusedSimpArgs false
set_option linter.unusedVariables false
theorem and_self (a b : Nat) : a &&& b = b ↔ ∀ i, b.testBit i = true → a.testBit i = true := by
  constructor
  · intro h i h2
    have : (a &&& b).testBit i = true := by rw [h]; exact h2
    rw [Nat.testBit_and] at this
    simp_all
  · intro h
    apply Nat.eq_of_testBit_eq
    intro i
    rw [Nat.testBit_and]
    have := h i
    cases h1 : a.testBit i <;> cases h2 : b.testBit i <;> simp_all
def rises (many : Int) (pre : List Int) (h : Int) : Bool := decide (0 ≤ h ∧ h < many) && (match pre.getLast? with | some q => decide (q < h) | none => true)
def members (many : Int) (l : List Int) : Bool := okFrom (rises many) [] l
theorem members_in {many : Int} {l : List Int} (h : members many l = true) : ∀ x ∈ l, 0 ≤ x ∧ x < many := by
  intro x hx
  obtain ⟨a, t, e⟩ := List.append_of_mem hx
  have := (okFrom_iff (rises many) l []).1 h a x t e.symm
  simp only [rises, Bool.and_eq_true, decide_eq_true_eq] at this
  exact this.1
end Go.Proofs.Ytfdgmknjmljhbaa.Sets
end
section
namespace Go.Proofs.Ytfdgmknjmljhbaa.Mem
open Go.RowKit Go.Proofs.Ytfdgmknjmljhbaa.P Go.Proofs.YtfdgmknjmljhbaaW.PrintWords Go.Proofs.YtfdgmknjmljhbaaW.PrintLast Go.Proofs.YtfdgmknjmljhbaaW.PrintMore
open Go.Proofs.Ytfdgmknjmljhbaa.Pl Go.Proofs.Ytfdgmknjmljhbaa.EvN Go.Proofs.Ytfdgmknjmljhbaa.Lp Go.Proofs.Ytfdgmknjmljhbaa.Sets
set_option linter.unusedSimpArgs false
set_option linter.unusedVariables false
theorem in_f (a b c : Int) : impl_in.f a b c = some (decide (b ≤ a ∧ a ≤ c)) := by
  unfold impl_in.f
  by_cases h : a ≥ b
  · rw [if_pos h]; congr 1; rw [decide_eq_decide]; omega
  · rw [if_neg h]; congr 1; symm; rw [decide_eq_false_iff_not]; omega
theorem l1In_f (a b c : Int) : spec_l1In.f a b c = some (decide (b ≤ a ∧ a ≤ c)) := by
  unfold spec_l1In.f
  by_cases h : a ≥ b
  · rw [if_pos h]; congr 1; rw [decide_eq_decide]; omega
  · rw [if_neg h]; congr 1; symm; rw [decide_eq_false_iff_not]; omega
theorem if_self (b : Bool) : (if b = true then true else false) = b := by cases b <;> rfl
theorem rises_no {many : Int} {pre : List Int} {h : Int} (hp : rises many pre h = false) (h0 : 0 ≤ h) (h1 : h < many) : ∃ q, pre.getLast? = some q ∧ h ≤ q := by
  unfold rises at hp
  cases e : pre.getLast? with
  | none => rw [e] at hp; simp at hp; omega
  | some q =>
    rw [e] at hp
    simp at hp
    exact ⟨q, rfl, by omega⟩
theorem rises_yes {many : Int} {pre : List Int} {h : Int} (hp : rises many pre h = true) : (0 ≤ h ∧ h < many) ∧ ∀ q, pre.getLast? = some q → q < h := by
  unfold rises at hp
  simp only [Bool.and_eq_true, decide_eq_true_eq] at hp
  refine ⟨hp.1, fun q e => ?_⟩
  have h2 := hp.2
  rw [e] at h2
  simpa using h2
theorem last_cases {α : Type} (pre : List α) : pre = [] ∨ ∃ q, pre.getLast? = some q := by
  cases e : pre.getLast? with
  | none => exact .inl (no_last e)
  | some q => exact .inr ⟨q, rfl⟩
end Go.Proofs.Ytfdgmknjmljhbaa.Mem
end
section
namespace Go.Proofs.Ytfdgmknjmljhbaa.Mem
open Go.RowKit Go.Proofs.Ytfdgmknjmljhbaa.P Go.Proofs.YtfdgmknjmljhbaaW.PrintWords Go.Proofs.YtfdgmknjmljhbaaW.PrintLast Go.Proofs.YtfdgmknjmljhbaaW.PrintMore
open Go.Proofs.Ytfdgmknjmljhbaa.Pl Go.Proofs.Ytfdgmknjmljhbaa.EvN Go.Proofs.Ytfdgmknjmljhbaa.Lp Go.Proofs.Ytfdgmknjmljhbaa.Sets
set_option linter.unusedSimpArgs false
set_option linter.unusedVariables false
theorem has_f (l : List Int) (n : Int) (hl : l.length ≤ 4611686018427387904) : Cm (fun k => spec_l1Has.f k l n) (decide (n ∈ l)) := by
  unfold spec_l1Has.f
  have := every_cm (L := fun k i => spec_l1Has.l0 k n l (l.length : Int) i) l (fun x => decide (x ≠ n)) (fin := false) (no := true) ?_ ?_ ?_
  · refine cm_val this ?_
    by_cases c : n ∈ l
    · simp [c]
    · simp [c]
      intro x hx e
      subst e
      exact c hx
  · intro pre h t e hlt hp v hv
    simp only [decide_eq_true_eq] at hp
    refine cm_step (fun k => by rw [spec_l1Has.l0]) ?_
    simp only [rd_at e, wrap_len hlt hl]
    repeat (first | assumption | exact cm_now (fun _ => rfl) | refine cm_yes (by first | omega | assumption | (simp; done) | (simp; omega)) ?_ | refine cm_no (by first | omega | assumption | (simp; done) | (simp; omega)) ?_)
  · intro pre h t e hlt hp
    simp only [decide_eq_false_iff_not, ne_eq, Decidable.not_not] at hp
    refine cm_step (fun k => by rw [spec_l1Has.l0]) ?_
    simp only [rd_at e, wrap_len hlt hl]
    repeat (first | assumption | exact cm_now (fun _ => rfl) | refine cm_yes (by first | omega | assumption | (simp; done) | (simp; omega)) ?_ | refine cm_no (by first | omega | assumption | (simp; done) | (simp; omega)) ?_)
  · intro _
    refine cm_step (fun k => by rw [spec_l1Has.l0]) ?_
    repeat (first | assumption | exact cm_now (fun _ => rfl) | refine cm_yes (by first | omega | assumption | (simp; done) | (simp; omega)) ?_ | refine cm_no (by first | omega | assumption | (simp; done) | (simp; omega)) ?_)
theorem group_f (l : List Int) (many : Int) (hl : l.length ≤ 4611686018427387904) : Cm (fun k => spec_l6Group.f k l many) (members many l) := by
  unfold spec_l6Group.f
  have := all_cm (L := fun k i => spec_l6Group.l0 k l many l (l.length : Int) i) l (rises many) (fin := true) (no := false) ?_ ?_ ?_
  · exact cm_val this (if_self _)
  · intro pre h t e hlt hp v hv
    obtain ⟨⟨h0, h1⟩, h2⟩ := rises_yes hp
    refine cm_step (fun k => by rw [spec_l6Group.l0]) ?_
    simp only [rd_at e, wrap_len hlt hl]
    refine cm_yes (by omega) (cm_yes (by omega) (cm_yes (by omega) (cm_no (by omega) (cm_no (by omega) ?_))))
    rcases last_cases pre with rfl | ⟨q, hq⟩
    · exact cm_no (by simp) hv
    · obtain ⟨h3, h4⟩ := rd_last e hq
      have h5 := h2 q hq
      rw [wrap_less h3 (by omega), h4]
      repeat (first | assumption | exact cm_now (fun _ => rfl) | refine cm_yes (by first | omega | assumption | (simp; done) | (simp; omega)) ?_ | refine cm_no (by first | omega | assumption | (simp; done) | (simp; omega)) ?_)
  · intro pre h t e hlt hp
    refine cm_step (fun k => by rw [spec_l6Group.l0]) ?_
    simp only [rd_at e, wrap_len hlt hl]
    refine cm_yes (by omega) (cm_yes (by omega) (cm_yes (by omega) ?_))
    refine cm_if (fun _ => cm_now fun _ => rfl) (fun c0 => cm_if (fun _ => cm_now fun _ => rfl) (fun c1 => ?_))
    obtain ⟨q, hq, h5⟩ := rises_no hp (by omega) (by omega)
    obtain ⟨h3, h4⟩ := rd_last e hq
    rw [wrap_less h3 (by omega), h4]
    repeat (first | assumption | exact cm_now (fun _ => rfl) | refine cm_yes (by first | omega | assumption | (simp; done) | (simp; omega)) ?_ | refine cm_no (by first | omega | assumption | (simp; done) | (simp; omega)) ?_)
  · intro _
    refine cm_step (fun k => by rw [spec_l6Group.l0]) ?_
    repeat (first | assumption | exact cm_now (fun _ => rfl) | refine cm_yes (by first | omega | assumption | (simp; done) | (simp; omega)) ?_ | refine cm_no (by first | omega | assumption | (simp; done) | (simp; omega)) ?_)
theorem areMembers_f (l : List Int) (many : Int) (hl : l.length ≤ 4611686018427387904) (hm : 0 ≤ many ∧ many ≤ 4611686018427387904) : Cm (fun k => impl_areMembers.f k l many) (members many l) := by
  have hw : wrap64 (many - 1) = many - 1 := wrap_in (by omega) (by omega)
  unfold impl_areMembers.f
  have := all_cm (L := fun k i => impl_areMembers.l0 k l many l (l.length : Int) i) l (rises many) (fin := true) (no := false) ?_ ?_ ?_
  · exact cm_val this (if_self _)
  · intro pre h t e hlt hp v hv
    obtain ⟨⟨h0, h1⟩, h2⟩ := rises_yes hp
    refine cm_step (fun k => by rw [impl_areMembers.l0]) ?_
    simp only [rd_at e, wrap_len hlt hl, hw]
    refine cm_yes (by omega) (cm_yes (by omega) (cm_yes (by omega) (cm_bind (cm_now fun _ => in_f _ _ _) (cm_yes (by simp; omega) ?_))))
    rcases last_cases pre with rfl | ⟨q, hq⟩
    · exact cm_no (by simp) hv
    · obtain ⟨h3, h4⟩ := rd_last e hq
      have h5 := h2 q hq
      rw [wrap_less h3 (by omega), h4]
      repeat (first | assumption | exact cm_now (fun _ => rfl) | refine cm_yes (by first | omega | assumption | (simp; done) | (simp; omega)) ?_ | refine cm_no (by first | omega | assumption | (simp; done) | (simp; omega)) ?_)
  · intro pre h t e hlt hp
    refine cm_step (fun k => by rw [impl_areMembers.l0]) ?_
    simp only [rd_at e, wrap_len hlt hl, hw]
    refine cm_yes (by omega) (cm_yes (by omega) (cm_yes (by omega) (cm_bind (cm_now fun _ => in_f _ _ _) ?_)))
    refine cm_if (fun c0 => ?_) (fun _ => cm_now fun _ => rfl)
    simp only [decide_eq_true_eq] at c0
    obtain ⟨q, hq, h5⟩ := rises_no hp (by omega) (by omega)
    obtain ⟨h3, h4⟩ := rd_last e hq
    rw [wrap_less h3 (by omega), h4]
    repeat (first | assumption | exact cm_now (fun _ => rfl) | refine cm_yes (by first | omega | assumption | (simp; done) | (simp; omega)) ?_ | refine cm_no (by first | omega | assumption | (simp; done) | (simp; omega)) ?_)
  · intro _
    refine cm_step (fun k => by rw [impl_areMembers.l0]) ?_
    repeat (first | assumption | exact cm_now (fun _ => rfl) | refine cm_yes (by first | omega | assumption | (simp; done) | (simp; omega)) ?_ | refine cm_no (by first | omega | assumption | (simp; done) | (simp; omega)) ?_)
theorem contains_f (l : List Int) (n : Int) (hl : l.length ≤ 4611686018427387904) : Cm (fun k => slices_Contains_int_int.f k l n) (decide (n ∈ l)) := by
  unfold slices_Contains_int_int.f slices_Index_int_int.f
  refine cm_bind (t := foundAt (fun x => decide (n = x)) (fun i _ => (i : Int)) (-1) 0 l) ?_ (cm_now fun _ => ?_)
  · refine find_cm (L := fun k i => slices_Index_int_int.l0 k l n (l.length : Int) i) l (fun x => decide (n = x)) (fun i _ => (i : Int)) (none_ := (-1 : Int)) ?_ ?_ ?_
    · intro pre h t e hlt hp v hv
      simp only [decide_eq_false_iff_not] at hp
      refine cm_step (fun k => by rw [slices_Index_int_int.l0]) ?_
      simp only [rd_at e, wrap_len hlt hl]
      repeat (first | assumption | exact cm_now (fun _ => rfl) | refine cm_yes (by first | omega | assumption | (simp; done) | (simp; omega)) ?_ | refine cm_no (by first | omega | assumption | (simp; done) | (simp; omega)) ?_)
    · intro pre h t e hlt hp
      simp only [decide_eq_true_eq] at hp
      refine cm_step (fun k => by rw [slices_Index_int_int.l0]) ?_
      simp only [rd_at e, wrap_len hlt hl]
      repeat (first | assumption | exact cm_now (fun _ => rfl) | refine cm_yes (by first | omega | assumption | (simp; done) | (simp; omega)) ?_ | refine cm_no (by first | omega | assumption | (simp; done) | (simp; omega)) ?_)
    · refine cm_step (fun k => by rw [slices_Index_int_int.l0]) ?_
      repeat (first | assumption | exact cm_now (fun _ => rfl) | refine cm_yes (by first | omega | assumption | (simp; done) | (simp; omega)) ?_ | refine cm_no (by first | omega | assumption | (simp; done) | (simp; omega)) ?_)
  · rw [found_any]
    congr 1
    rw [Bool.eq_iff_iff]
    simp
end Go.Proofs.Ytfdgmknjmljhbaa.Mem
end
section
namespace Go.Proofs.Ytfdgmknjmljhbaa.Grp
open Go.RowKit Go.Proofs.Ytfdgmknjmljhbaa.P Go.Proofs.YtfdgmknjmljhbaaW.PrintWords Go.Proofs.YtfdgmknjmljhbaaW.PrintLast Go.Proofs.YtfdgmknjmljhbaaW.PrintMore
open Go.Proofs.Ytfdgmknjmljhbaa.Pl Go.Proofs.Ytfdgmknjmljhbaa.EvN Go.Proofs.Ytfdgmknjmljhbaa.Lp Go.Proofs.Ytfdgmknjmljhbaa.Sets Go.Proofs.Ytfdgmknjmljhbaa.Mem Go.Proofs.Ytfdgmknjmljhbaa.Hg
set_option linter.unusedSimpArgs false
set_option linter.unusedVariables false
def goodRow1 (m : Int) (pre : List S92) (h : S92) : Bool := decide ((0 ≤ h.f0 ∧ h.f0 ≤ m) ∧ (0 ≤ h.f1 ∧ h.f1 ≤ 99)) && (match pre.getLast? with | some q => decide (q.f0 ≤ h.f0) | none => true)
def goodRows (m : Int) (l : List S92) : Bool := okFrom (goodRow1 m) [] l && decide (l.length ≤ 30)
theorem log_yes {m : Int} {pre : List S92} {h : S92} (hp : goodRow1 m pre h = true) : (0 ≤ h.f0 ∧ h.f0 ≤ m) ∧ (0 ≤ h.f1 ∧ h.f1 ≤ 99) ∧ ∀ q, pre.getLast? = some q → q.f0 ≤ h.f0 := by
  unfold goodRow1 at hp
  simp only [Bool.and_eq_true, decide_eq_true_eq] at hp
  refine ⟨hp.1.1, hp.1.2, fun q e => ?_⟩
  have h2 := hp.2
  rw [e] at h2
  simpa using h2
theorem log_no {m : Int} {pre : List S92} {h : S92} (hp : goodRow1 m pre h = false) (h0 : 0 ≤ h.f0 ∧ h.f0 ≤ m) (h1 : 0 ≤ h.f1 ∧ h.f1 ≤ 99) : ∃ q, pre.getLast? = some q ∧ h.f0 < q.f0 := by
  unfold goodRow1 at hp
  cases e : pre.getLast? with
  | none => rw [e] at hp; simp at hp; omega
  | some q =>
    rw [e] at hp
    simp at hp
    exact ⟨q, rfl, by omega⟩
theorem rd92_last {pre rest l : List S92} (e : pre ++ rest = l) {q : S92} (h : pre.getLast? = some q) : 0 < pre.length ∧ rd_T92 l ((pre.length : Int) - 1) = q := getLast_at e _ h
theorem l11Log_f (l : List S92) (m : Int) (hl : l.length ≤ 4611686018427387904) : Cm (fun k => spec_l11Log.f k l m) (goodRows m l) := by
  unfold spec_l11Log.f
  refine cm_val (all_cm (L := fun k i => spec_l11Log.l0 k l m l (l.length : Int) i) l (goodRow1 m) (fin := decide (l.length ≤ 30)) (no := false) ?_ ?_ ?_) ?_
  · intro pre h t e hlt hp v hv
    obtain ⟨h0, h1, h2⟩ := log_yes hp
    refine cm_step (fun k => by rw [spec_l11Log.l0]) ?_
    simp only [rdT92_at e, wrap_len hlt hl]
    refine cm_yes (by omega) (cm_yes (by omega) (cm_yes (by omega) (cm_bind (cm_now fun _ => l1In_f _ _ _) (cm_yes (by simp [h0]) (cm_bind (cm_now fun _ => l1In_f _ _ _) (cm_yes (by simp [h1]) ?_))))))
    rcases last_cases pre with rfl | ⟨q, hq⟩
    · exact cm_no (by simp) hv
    · obtain ⟨h3, h4⟩ := rd92_last e hq
      have h5 := h2 q hq
      rw [wrap_less h3 (by omega), h4]
      exact cm_yes (by omega) (cm_yes (by omega) (cm_yes (by omega) (cm_no (by omega) hv)))
  · intro pre h t e hlt hp
    refine cm_step (fun k => by rw [spec_l11Log.l0]) ?_
    simp only [rdT92_at e, wrap_len hlt hl]
    refine cm_yes (by omega) (cm_yes (by omega) (cm_yes (by omega) (cm_bind (cm_now fun _ => l1In_f _ _ _) (cm_if (fun c0 => cm_bind (cm_now fun _ => l1In_f _ _ _) (cm_if (fun c1 => ?_) (fun _ => cm_now fun _ => rfl))) (fun _ => cm_now fun _ => rfl)))))
    simp only [decide_eq_true_eq] at c0 c1
    obtain ⟨q, hq, h5⟩ := log_no hp c0 c1
    obtain ⟨h3, h4⟩ := rd92_last e hq
    rw [wrap_less h3 (by omega), h4]
    exact cm_yes (by omega) (cm_yes (by omega) (cm_yes (by omega) (cm_yes (by omega) (cm_now fun _ => rfl))))
  · intro _
    refine cm_step (fun k => by rw [spec_l11Log.l0]) ?_
    exact cm_no (by omega) (cm_now fun _ => by congr 1; rw [decide_eq_decide]; omega)
  · unfold goodRows
    cases okFrom (goodRow1 m) [] l <;> simp
def lastTerm (pre : List S92) : Int := match pre.getLast? with | some q => q.f0 | none => 0
theorem isRows_l0 (l : List S92) (m : Int) (hl : l.length ≤ 4611686018427387904) : ∀ (rest pre : List S92), pre ++ rest = l → 0 ≤ lastTerm pre →
    Cm (fun k => impl_isRows.l0 k l m (lastTerm pre) l (l.length : Int) (pre.length : Int)) (okFrom (goodRow1 m) pre rest && decide (l.length ≤ 30))
  | [], pre, e, _ => by
    have := len_end e
    refine cm_step (fun k => by rw [impl_isRows.l0]) ?_
    refine cm_no (by omega) (cm_now fun _ => ?_)
    simp only [okFrom, Bool.true_and]
    congr 1
    rw [decide_eq_decide]
    omega
  | h :: t, pre, e, h0 => by
    have hlt := len_mid e
    refine cm_step (fun k => by rw [impl_isRows.l0]) ?_
    simp only [rdT92_at e, wrap_len hlt hl]
    refine cm_yes (by omega) (cm_yes (by omega) (cm_yes (by omega) (cm_bind (cm_now fun _ => in_f _ _ _) ?_)))
    have hlast : lastTerm (pre ++ [h]) = h.f0 := by simp [lastTerm]
    have hg : goodRow1 m pre h = decide ((lastTerm pre ≤ h.f0 ∧ h.f0 ≤ m) ∧ (0 ≤ h.f1 ∧ h.f1 ≤ 99)) := by
      unfold goodRow1
      unfold lastTerm at h0 ⊢
      cases e2 : pre.getLast? with
      | none => simp
      | some q =>
        rw [e2] at h0
        simp only at h0 ⊢
        rw [← Bool.decide_and, decide_eq_decide]
        omega
    refine cm_if (fun c => cm_bind (cm_now fun _ => in_f _ _ _) (cm_if (fun c2 => ?_) (fun c2 => cm_now fun _ => ?_))) (fun c => cm_now fun _ => ?_)
    · simp only [decide_eq_true_eq] at c c2
      have ih := isRows_l0 l m hl t (pre ++ [h]) (app_mid e) (by rw [hlast]; omega)
      rw [hlast, len_one] at ih
      refine cm_val ih ?_
      simp only [okFrom, hg, c, c2, _root_.and_self, decide_true, Bool.true_and]
    · simp only [decide_eq_true_eq] at c c2
      simp only [okFrom, hg, c2, and_false, decide_false, Bool.false_and]
    · simp only [decide_eq_true_eq] at c
      simp only [okFrom, hg, c, false_and, decide_false, Bool.false_and]
theorem isRows_f (l : List S92) (m : Int) (hl : l.length ≤ 4611686018427387904) : Cm (fun k => impl_isRows.f k l m) (goodRows m l) := by
  unfold impl_isRows.f
  exact isRows_l0 l m hl l [] rfl (by simp [lastTerm])
def same : List S92 → List S92 → Nat
  | a :: xs, b :: ys => if a.f0 = b.f0 ∧ a.f1 = b.f1 then same xs ys + 1 else 0
  | _, _ => 0
theorem same_nil (x : List S92) : same x [] = 0 := by cases x <;> rfl
theorem same_le : ∀ (x y : List S92), same x y ≤ y.length
  | [], y => by simp [same]
  | a :: xs, [] => by simp [same]
  | a :: xs, b :: ys => by
    have := same_le xs ys
    unfold same
    split
    · simp only [List.length_cons]; omega
    · omega
theorem rd92_get (x : List S92) {i : Nat} (h : i < x.length) : rd_T92 x (i : Int) = x[i] := by
  unfold rd_T92
  rw [Int.toNat_natCast, List.getD_eq_getElem?_getD, List.getElem?_eq_getElem h, Option.getD_some]
theorem like92 {a b : S92} : ((a.f0 == b.f0 && a.f1 == b.f1) = true) ↔ (a.f0 = b.f0 ∧ a.f1 = b.f1) := by simp
theorem specSame_l0 (x y : List S92) (hx : x.length ≤ 4611686018427387904) : ∀ (n i : Nat), x.length - i = n → i ≤ x.length → Cm (fun k => spec_l11Same.l0 k x y (i : Int)) (((i + same (x.drop i) (y.drop i) : Nat)) : Int)
  | 0, i, hn, hi => by
    have e : x.drop i = [] := List.drop_eq_nil_of_le (by omega)
    refine cm_step (fun k => by rw [spec_l11Same.l0]) ?_
    refine cm_no (by omega) (cm_now fun _ => ?_)
    rw [e]
    rfl
  | n + 1, i, hn, hi => by
    have hlt : i < x.length := by omega
    have ex : x.drop i = x[i] :: x.drop (i + 1) := List.drop_eq_getElem_cons hlt
    refine cm_step (fun k => by rw [spec_l11Same.l0]) ?_
    refine cm_yes (by omega) (cm_if (fun c => cm_yes (by omega) ?_) (fun c => cm_now fun _ => ?_))
    · have hy : i < y.length := by omega
      have ey : y.drop i = y[i] :: y.drop (i + 1) := List.drop_eq_getElem_cons hy
      rw [rd92_get x hlt, rd92_get y hy]
      rw [ex, ey]
      refine cm_if (fun c2 => ?_) (fun c2 => cm_now fun _ => ?_)
      · rw [like92] at c2
        have ih := specSame_l0 x y hx n (i + 1) (by omega) (by omega)
        rw [wrap_len hlt hx]
        refine cm_val ih ?_
        rw [same, if_pos c2]
        omega
      · rw [like92] at c2
        rw [same, if_neg c2]
        rfl
    · have ey : y.drop i = [] := List.drop_eq_nil_of_le (by omega)
      rw [ey, same_nil]
      rfl
theorem specSame_f (x y : List S92) (hx : x.length ≤ 4611686018427387904) : Cm (fun k => spec_l11Same.f k x y) ((same x y : Nat) : Int) := by
  unfold spec_l11Same.f
  have := specSame_l0 x y hx x.length 0 (by omega) (by omega)
  simpa using this
theorem implSame_l0 (x y : List S92) (hx : x.length ≤ 4611686018427387904) : ∀ (n i : Nat), x.length - i = n → i ≤ x.length → Cm (fun k => impl_Group_shared.l0 k x y (i : Int)) (((i + same (x.drop i) (y.drop i) : Nat)) : Int)
  | 0, i, hn, hi => by
    have e : x.drop i = [] := List.drop_eq_nil_of_le (by omega)
    have hm : mn (x.length : Int) (y.length : Int) = ((min x.length y.length : Nat) : Int) := by unfold mn; split <;> omega
    refine cm_step (fun k => by rw [impl_Group_shared.l0]) ?_
    rw [hm]
    refine cm_no (by omega) (cm_now fun _ => ?_)
    rw [e]
    rfl
  | n + 1, i, hn, hi => by
    have hlt : i < x.length := by omega
    have ex : x.drop i = x[i] :: x.drop (i + 1) := List.drop_eq_getElem_cons hlt
    have hm : mn (x.length : Int) (y.length : Int) = ((min x.length y.length : Nat) : Int) := by unfold mn; split <;> omega
    refine cm_step (fun k => by rw [impl_Group_shared.l0]) ?_
    rw [hm]
    refine cm_if (fun c => cm_yes (by omega) (cm_yes (by omega) (cm_yes (by omega) ?_))) (fun c => cm_now fun _ => ?_)
    · have hy : i < y.length := by omega
      have ey : y.drop i = y[i] :: y.drop (i + 1) := List.drop_eq_getElem_cons hy
      rw [rd92_get x hlt, rd92_get y hy]
      rw [ex, ey]
      refine cm_if (fun c2 => ?_) (fun c2 => cm_now fun _ => ?_)
      · rw [like92] at c2
        have ih := implSame_l0 x y hx n (i + 1) (by omega) (by omega)
        rw [wrap_len hlt hx]
        refine cm_val ih ?_
        rw [same, if_pos c2]
        omega
      · rw [like92] at c2
        rw [same, if_neg c2]
        rfl
    · have ey : y.drop i = [] := List.drop_eq_nil_of_le (by omega)
      rw [ey, same_nil]
      rfl
def ahead (rs : List S80) (lead i : Int) : Nat := same ((rd_T80 rs i).f0) ((rd_T80 rs lead).f0)
theorem rd80_in {rs : List S80} {i : Int} (h : 0 ≤ i ∧ i < (rs.length : Int)) : rd_T80 rs i ∈ rs := by
  unfold rd_T80
  rw [List.getD_eq_getElem?_getD, List.getElem?_eq_getElem (by omega), Option.getD_some]
  exact List.getElem_mem _
theorem shared_f (ep lead : Int) (sync : List Int) (com : Int) (rs : List S80) (i : Int) (hs : ∀ y ∈ rs, smReplica y) (hl : 0 ≤ lead ∧ lead < (rs.length : Int)) (hi : 0 ≤ i ∧ i < (rs.length : Int)) : Cm (fun k => impl_Group_shared.f k ep lead sync com rs i) ((ahead rs lead i : Nat) : Int) := by
  unfold impl_Group_shared.f
  refine cm_yes hi.1 (cm_yes hi.2 (cm_yes hl.1 (cm_yes hl.2 ?_)))
  have hx := (hs _ (rd80_in hi)).1.1
  have := implSame_l0 ((rd_T80 rs i).f0) ((rd_T80 rs lead).f0) hx ((rd_T80 rs i).f0).length 0 (by omega) (by omega)
  unfold ahead
  simpa using this
def goodRep (ep lead : Int) (sync : List Int) (com : Int) (rs : List S80) (pre : List S80) (h : S80) : Bool := goodRows ep h.f0 && decide ((0 ≤ h.f1 ∧ h.f1 ≤ ep) ∧ (0 ≤ h.f2 ∧ h.f2 ≤ (h.f0.length : Int)) ∧ (h.f1 = ep → h.f2 ≤ (same h.f0 ((rd_T80 rs lead).f0) : Int)) ∧ ((pre.length : Int) ∈ sync → com ≤ (same h.f0 ((rd_T80 rs lead).f0) : Int)))
def headOk (x : S36) : Bool := decide ((2 ≤ x.f4.length ∧ x.f4.length ≤ 4) ∧ (0 ≤ x.f0 ∧ x.f0 ≤ 100)) && members (x.f4.length : Int) x.f2 && decide (x.f1 ∈ x.f2 ∧ 0 ≤ x.f3)
def good (x : S36) : Bool := headOk x && okFrom (goodRep x.f0 x.f1 x.f2 x.f3 x.f4) [] x.f4
theorem specReps_f (ep lead : Int) (sync : List Int) (com : Int) (rs : List S80) (hsy : sync.length ≤ 4611686018427387904) (hr : rs.length ≤ 4611686018427387904) (hs : ∀ y ∈ rs, smReplica y) (hl : 0 ≤ lead ∧ lead < (rs.length : Int)) : Cm (fun k => spec_GoodGroup.l0 k rs (rs.length : Int) 0 ep lead sync com rs) (okFrom (goodRep ep lead sync com rs) [] rs) := by
  have key : ∀ (pre : List S80) (h : S80) (t : List S80), pre ++ h :: t = rs → pre.length < rs.length → ∀ v : Bool, (goodRep ep lead sync com rs pre h = true → Cm (fun k => spec_GoodGroup.l0 k rs (rs.length : Int) ((pre.length + 1 : Nat) : Int) ep lead sync com rs) v) → (goodRep ep lead sync com rs pre h = false → v = false) →
      Cm (fun k => spec_GoodGroup.l0 k rs (rs.length : Int) (pre.length : Int) ep lead sync com rs) v := by
    intro pre h t e hlt v hv hno
    have hh := hs h (by rw [← e]; simp)
    have h0 := hh.1.1
    generalize hS : (same h.f0 ((rd_T80 rs lead).f0)) = s at *
    have hsame : Cm (fun k => spec_l11Same.f k h.f0 ((rd_T80 rs lead).f0)) ((s : Nat) : Int) := by rw [← hS]; exact specSame_f _ _ h0
    have hgd : goodRep ep lead sync com rs pre h = (goodRows ep h.f0 && decide ((0 ≤ h.f1 ∧ h.f1 ≤ ep) ∧ (0 ≤ h.f2 ∧ h.f2 ≤ (h.f0.length : Int)) ∧ (h.f1 = ep → h.f2 ≤ (s : Int)) ∧ ((pre.length : Int) ∈ sync → com ≤ (s : Int)))) := by unfold goodRep; rw [hS]
    rw [hgd] at hv hno
    have hj3 : ∀ q : Bool, (q = false → (h.f1 = ep → h.f2 ≤ (s : Int)) → Cm (fun k => spec_GoodGroup.l0 k rs (rs.length : Int) ((pre.length + 1 : Nat) : Int) ep lead sync com rs) v) → (¬ (q = false ∧ (h.f1 = ep → h.f2 ≤ (s : Int))) → v = false) → Cm (fun k => spec_GoodGroup.j3 k rs (rs.length : Int) (pre.length : Int) q ep lead sync com rs h.f0 h.f1 h.f2) v := by
      intro q h1 h2
      refine cm_step (fun k => by rw [spec_GoodGroup.j3]) ?_
      cases q
      · refine cm_no (by simp) (cm_if (fun c => cm_yes hl.1 (cm_yes hl.2 (cm_bind hsame (cm_if (fun c2 => cm_now fun _ => ?_) (fun c2 => ?_))))) (fun c => ?_))
        · rw [h2 (fun z => by have := z.2 c; omega)]
        · rw [wrap_len hlt hr]
          exact h1 rfl (fun _ => by omega)
        · rw [wrap_len hlt hr]
          exact h1 rfl (fun z => absurd z c)
      · refine cm_yes rfl (cm_now fun _ => ?_)
        rw [h2 (fun z => by cases z.1)]
    have hj2 : ∀ q : Bool, (q = false → (h.f1 = ep → h.f2 ≤ (s : Int)) → ((pre.length : Int) ∈ sync → com ≤ (s : Int)) → Cm (fun k => spec_GoodGroup.l0 k rs (rs.length : Int) ((pre.length + 1 : Nat) : Int) ep lead sync com rs) v) → (¬ (q = false ∧ (h.f1 = ep → h.f2 ≤ (s : Int)) ∧ ((pre.length : Int) ∈ sync → com ≤ (s : Int))) → v = false) →
        Cm (fun k => spec_GoodGroup.j2 k (pre.length : Int) rs (rs.length : Int) (pre.length : Int) q ep lead sync com rs h.f0 h.f1 h.f2) v := by
      intro q h1 h2
      refine cm_step (fun k => by rw [spec_GoodGroup.j2]) ?_
      cases q
      · refine cm_no (by simp) (cm_bind (has_f sync (pre.length : Int) hsy) (cm_if (fun c => ?_) (fun c => ?_)))
        · simp only [decide_eq_true_eq] at c
          refine cm_yes hl.1 (cm_yes hl.2 (cm_bind hsame (hj3 _ (fun z z2 => ?_) (fun z => h2 (fun w => z ⟨?_, w.2.1⟩)))))
          · exact h1 rfl z2 (fun _ => by simp only [decide_eq_false_iff_not] at z; omega)
          · have := w.2.2 c
            rw [decide_eq_false_iff_not]
            omega
        · simp only [decide_eq_true_eq] at c
          exact hj3 false (fun _ z2 => h1 rfl z2 (fun z => absurd z c)) (fun z => h2 (fun w => z ⟨rfl, w.2.1⟩))
      · refine cm_yes rfl (cm_now fun _ => ?_)
        rw [h2 (fun z => by cases z.1)]
    have hbad : v = false → Cm (fun k => spec_GoodGroup.j2 k (pre.length : Int) rs (rs.length : Int) (pre.length : Int) true ep lead sync com rs h.f0 h.f1 h.f2) v := fun z => hj2 true (fun w => by cases w) (fun _ => z)
    refine cm_step (fun k => by rw [spec_GoodGroup.l0]) ?_
    simp only [rdT80_at e]
    refine cm_yes (by omega) (cm_yes (by omega) (cm_yes (by omega) (cm_bind (l11Log_f h.f0 ep h0) (cm_if (fun c => cm_bind (cm_now fun _ => l1In_f _ _ _) (cm_if (fun c2 => cm_if (fun c3 => hbad ?_) (fun c3 => hj2 _ (fun z z2 z3 => hv ?_) (fun z => hno ?_))) (fun c2 => hbad ?_))) (fun c => hbad ?_)))))
    · refine hno ?_
      rw [c, Bool.true_and, decide_eq_false_iff_not]
      intro z
      omega
    · simp only [decide_eq_true_eq] at c2
      simp only [decide_eq_false_iff_not] at z
      rw [c, Bool.true_and, decide_eq_true_eq]
      exact ⟨c2, ⟨by omega, by omega⟩, z2, z3⟩
    · rw [c, Bool.true_and, decide_eq_false_iff_not]
      intro w
      exact z ⟨by rw [decide_eq_false_iff_not]; have := w.2.1.2; omega, w.2.2.1, w.2.2.2⟩
    · simp only [decide_eq_true_eq] at c2
      refine hno ?_
      rw [c, Bool.true_and, decide_eq_false_iff_not]
      exact fun z => c2 z.1
    · refine hno ?_
      have c' : goodRows ep h.f0 = false := by simpa using c
      rw [c', Bool.false_and]
  refine cm_val (all_cm (L := fun k i => spec_GoodGroup.l0 k rs (rs.length : Int) i ep lead sync com rs) rs (goodRep ep lead sync com rs) (fin := true) (no := false) ?_ ?_ ?_) (if_self _)
  · intro pre h t e hlt hp v hv
    exact key pre h t e hlt v (fun _ => hv) (by rw [hp]; simp)
  · intro pre h t e hlt hp
    exact key pre h t e hlt false (by rw [hp]; simp) (fun _ => rfl)
  · intro _
    refine cm_step (fun k => by rw [spec_GoodGroup.l0]) ?_
    exact cm_no (by omega) (cm_now fun _ => rfl)
theorem lead_in {x : S36} (hm : members (x.f4.length : Int) x.f2 = true) (hl : x.f1 ∈ x.f2) : 0 ≤ x.f1 ∧ x.f1 < (x.f4.length : Int) := members_in hm x.f1 hl
theorem head_parts {x : S36} (h : headOk x = true) : ((2 ≤ x.f4.length ∧ x.f4.length ≤ 4) ∧ (0 ≤ x.f0 ∧ x.f0 ≤ 100)) ∧ members (x.f4.length : Int) x.f2 = true ∧ x.f1 ∈ x.f2 ∧ 0 ≤ x.f3 := by
  unfold headOk at h
  simp only [Bool.and_eq_true, decide_eq_true_eq] at h
  exact ⟨h.1.1, h.1.2, h.2⟩
theorem good_no {x : S36} (h : ¬ (((2 ≤ x.f4.length ∧ x.f4.length ≤ 4) ∧ (0 ≤ x.f0 ∧ x.f0 ≤ 100)) ∧ members (x.f4.length : Int) x.f2 = true ∧ x.f1 ∈ x.f2 ∧ 0 ≤ x.f3)) : false = good x := by
  unfold good
  cases e : headOk x
  · rfl
  · exact absurd (head_parts e) h
theorem spec_f (x : S36) (h : smGroup x) : Cm (fun k => spec_GoodGroup.f k x.f0 x.f1 x.f2 x.f3 x.f4) (good x) := by
  obtain ⟨_, _, hsy, _, hr, hs⟩ := h
  unfold spec_GoodGroup.f
  have hno : Cm (fun k => spec_GoodGroup.j0 k true x.f0 x.f1 x.f2 x.f3 x.f4) false := by
    refine cm_step (fun k => by rw [spec_GoodGroup.j0]) ?_
    exact cm_yes rfl (cm_now fun _ => rfl)
  refine cm_bind (cm_now fun _ => l1In_f _ _ _) (cm_if (fun c => cm_bind (cm_now fun _ => l1In_f _ _ _) (cm_if (fun c2 => cm_bind (group_f x.f2 _ hsy) (cm_if (fun c3 => cm_bind (has_f x.f2 x.f1 hsy) (cm_if (fun c4 => ?_) (fun c4 => cm_val hno (good_no ?_)))) (fun c3 => cm_val hno (good_no ?_)))) (fun c2 => cm_val hno (good_no ?_)))) (fun c => cm_val hno (good_no ?_)))
  · simp only [decide_eq_true_eq] at c c2 c4
    by_cases c5 : x.f3 < 0
    · rw [show decide (x.f3 < 0) = true from decide_eq_true c5]
      exact cm_val hno (good_no (fun z => by omega))
    · rw [show decide (x.f3 < 0) = false from decide_eq_false c5]
      refine cm_step (fun k => by rw [spec_GoodGroup.j0]) ?_
      refine cm_no (by simp) (cm_val (specReps_f x.f0 x.f1 x.f2 x.f3 x.f4 hsy hr hs (lead_in c3 c4)) ?_)
      have e : headOk x = true := by
        unfold headOk
        rw [c3, Bool.and_true, ← Bool.decide_and, decide_eq_true_eq]
        exact ⟨⟨by omega, c2⟩, c4, by omega⟩
      unfold good
      rw [e, Bool.true_and]
  · simp only [decide_eq_true_eq] at c4
    exact fun z => c4 z.2.2.1
  · exact fun z => c3 z.2.1
  · simp only [decide_eq_true_eq] at c2
    exact fun z => c2 z.1.2
  · simp only [decide_eq_true_eq] at c
    exact fun z => c (by omega)
theorem implReps_f (ep lead : Int) (sync : List Int) (com : Int) (rs : List S80) (hsy : sync.length ≤ 4611686018427387904) (hr : rs.length ≤ 4611686018427387904) (hs : ∀ y ∈ rs, smReplica y) (hl : 0 ≤ lead ∧ lead < (rs.length : Int)) : Cm (fun k => impl_isGroup.l0 k rs (rs.length : Int) 0 ep lead sync com rs) (okFrom (goodRep ep lead sync com rs) [] rs) := by
  have key : ∀ (pre : List S80) (h : S80) (t : List S80), pre ++ h :: t = rs → pre.length < rs.length → ∀ v : Bool, (goodRep ep lead sync com rs pre h = true → Cm (fun k => impl_isGroup.l0 k rs (rs.length : Int) ((pre.length + 1 : Nat) : Int) ep lead sync com rs) v) → (goodRep ep lead sync com rs pre h = false → v = false) →
      Cm (fun k => impl_isGroup.l0 k rs (rs.length : Int) (pre.length : Int) ep lead sync com rs) v := by
    intro pre h t e hlt v hv hno
    have hh := hs h (by rw [← e]; simp)
    have h0 := hh.1.1
    have hrd : rd_T80 rs (pre.length : Int) = h := rdT80_at e
    have hsh := shared_f ep lead sync com rs (pre.length : Int) hs hl (by omega)
    unfold ahead at hsh
    rw [hrd] at hsh
    generalize hS : (same h.f0 ((rd_T80 rs lead).f0)) = s at *
    have hgd : goodRep ep lead sync com rs pre h = (goodRows ep h.f0 && decide ((0 ≤ h.f1 ∧ h.f1 ≤ ep) ∧ (0 ≤ h.f2 ∧ h.f2 ≤ (h.f0.length : Int)) ∧ (h.f1 = ep → h.f2 ≤ (s : Int)) ∧ ((pre.length : Int) ∈ sync → com ≤ (s : Int)))) := by unfold goodRep; rw [hS]
    rw [hgd] at hv hno
    have hj2 : ∀ q : Bool, (q = false → ((pre.length : Int) ∈ sync → com ≤ (s : Int)) → Cm (fun k => impl_isGroup.l0 k rs (rs.length : Int) ((pre.length + 1 : Nat) : Int) ep lead sync com rs) v) → (¬ (q = false ∧ ((pre.length : Int) ∈ sync → com ≤ (s : Int))) → v = false) →
        Cm (fun k => impl_isGroup.j2 k (pre.length : Int) rs (rs.length : Int) (pre.length : Int) q ep lead sync com rs) v := by
      intro q h1 h2
      refine cm_step (fun k => by rw [impl_isGroup.j2]) ?_
      cases q
      · refine cm_no (by simp) (cm_bind (contains_f sync (pre.length : Int) hsy) (cm_if (fun c => cm_bind hsh (cm_if (fun c2 => cm_now fun _ => ?_) (fun c2 => ?_))) (fun c => ?_)))
        · simp only [decide_eq_true_eq] at c
          rw [h2 (fun z => by have := z.2 c; omega)]
        · rw [wrap_len hlt hr]
          exact h1 rfl (fun _ => by omega)
        · simp only [decide_eq_true_eq] at c
          rw [wrap_len hlt hr]
          exact h1 rfl (fun z => absurd z c)
      · refine cm_yes rfl (cm_now fun _ => ?_)
        rw [h2 (fun z => by cases z.1)]
    have hbad : v = false → Cm (fun k => impl_isGroup.j2 k (pre.length : Int) rs (rs.length : Int) (pre.length : Int) true ep lead sync com rs) v := fun z => hj2 true (fun w => by cases w) (fun _ => z)
    refine cm_step (fun k => by rw [impl_isGroup.l0]) ?_
    simp only [hrd]
    refine cm_yes (by omega) (cm_yes (by omega) (cm_yes (by omega) (cm_bind (isRows_f h.f0 ep h0) (cm_if (fun c => cm_bind (cm_now fun _ => in_f _ _ _) (cm_if (fun c2 => cm_bind (cm_now fun _ => in_f _ _ _) (cm_if (fun c3 => cm_if (fun c4 => cm_bind hsh (hj2 _ (fun z z2 => hv ?_) (fun z => hno ?_))) (fun c4 => hj2 _ (fun z z2 => hv ?_) (fun z => hno ?_))) (fun c3 => hbad ?_))) (fun c2 => hbad ?_))) (fun c => hbad ?_)))))
    · simp only [decide_eq_true_eq] at c2 c3
      simp only [decide_eq_false_iff_not] at z
      rw [c, Bool.true_and, decide_eq_true_eq]
      exact ⟨c2, c3, fun _ => by omega, z2⟩
    · rw [c, Bool.true_and, decide_eq_false_iff_not]
      intro w
      exact z ⟨by rw [decide_eq_false_iff_not]; have := w.2.2.1 c4; omega, w.2.2.2⟩
    · simp only [decide_eq_true_eq] at c2 c3
      rw [c, Bool.true_and, decide_eq_true_eq]
      exact ⟨c2, c3, fun w => absurd w c4, z2⟩
    · rw [c, Bool.true_and, decide_eq_false_iff_not]
      intro w
      exact z ⟨rfl, w.2.2.2⟩
    · simp only [decide_eq_true_eq] at c3
      refine hno ?_
      rw [c, Bool.true_and, decide_eq_false_iff_not]
      exact fun z => c3 z.2.1
    · simp only [decide_eq_true_eq] at c2
      refine hno ?_
      rw [c, Bool.true_and, decide_eq_false_iff_not]
      exact fun z => c2 z.1
    · refine hno ?_
      have c' : goodRows ep h.f0 = false := by simpa using c
      rw [c', Bool.false_and]
  refine cm_val (all_cm (L := fun k i => impl_isGroup.l0 k rs (rs.length : Int) i ep lead sync com rs) rs (goodRep ep lead sync com rs) (fin := true) (no := false) ?_ ?_ ?_) (if_self _)
  · intro pre h t e hlt hp v hv
    exact key pre h t e hlt v (fun _ => hv) (by rw [hp]; simp)
  · intro pre h t e hlt hp
    exact key pre h t e hlt false (by rw [hp]; simp) (fun _ => rfl)
  · intro _
    refine cm_step (fun k => by rw [impl_isGroup.l0]) ?_
    exact cm_no (by omega) (cm_now fun _ => rfl)
theorem isGroup_f (x : S36) (h : smGroup x) : Cm (fun k => impl_isGroup.f k x.f0 x.f1 x.f2 x.f3 x.f4) (good x) := by
  obtain ⟨_, _, hsy, _, hr, hs⟩ := h
  unfold impl_isGroup.f
  have hno : Cm (fun k => impl_isGroup.j0 k true x.f0 x.f1 x.f2 x.f3 x.f4) false := by
    refine cm_step (fun k => by rw [impl_isGroup.j0]) ?_
    exact cm_yes rfl (cm_now fun _ => rfl)
  have hw : wrap64 ((x.f4.length : Int) - 1) = (x.f4.length : Int) - 1 := wrap_in (by omega) (by omega)
  rw [hw]
  refine cm_bind (cm_now fun _ => in_f _ _ _) (cm_if (fun c => cm_bind (cm_now fun _ => in_f _ _ _) (cm_if (fun c2 => cm_bind (cm_now fun _ => in_f _ _ _) (cm_if (fun c6 => cm_bind (areMembers_f x.f2 _ hsy (by omega)) (cm_if (fun c3 => cm_bind (contains_f x.f2 x.f1 hsy) (cm_if (fun c4 => ?_) (fun c4 => cm_val hno (good_no ?_)))) (fun c3 => cm_val hno (good_no ?_)))) (fun c6 => cm_val hno (good_no ?_)))) (fun c2 => cm_val hno (good_no ?_)))) (fun c => cm_val hno (good_no ?_)))
  · simp only [decide_eq_true_eq] at c c2 c4
    by_cases c5 : x.f3 < 0
    · rw [show decide (x.f3 < 0) = true from decide_eq_true c5]
      exact cm_val hno (good_no (fun z => by omega))
    · rw [show decide (x.f3 < 0) = false from decide_eq_false c5]
      refine cm_step (fun k => by rw [impl_isGroup.j0]) ?_
      refine cm_no (by simp) (cm_val (implReps_f x.f0 x.f1 x.f2 x.f3 x.f4 hsy hr hs (lead_in c3 c4)) ?_)
      have e : headOk x = true := by
        unfold headOk
        rw [c3, Bool.and_true, ← Bool.decide_and, decide_eq_true_eq]
        exact ⟨⟨by omega, c2⟩, c4, by omega⟩
      unfold good
      rw [e, Bool.true_and]
  · simp only [decide_eq_true_eq] at c4
    exact fun z => c4 z.2.2.1
  · exact fun z => c3 z.2.1
  · simp only [decide_eq_true_eq] at c6
    exact fun z => c6 (by have := lead_in z.2.1 z.2.2.1; omega)
  · simp only [decide_eq_true_eq] at c2
    exact fun z => c2 z.1.2
  · simp only [decide_eq_true_eq] at c
    exact fun z => c (by omega)
theorem good_lead {x : S36} (h : good x = true) : 0 ≤ x.f1 ∧ x.f1 < (x.f4.length : Int) := by
  unfold good at h
  rw [Bool.and_eq_true] at h
  have := head_parts h.1
  exact lead_in this.2.1 this.2.2.1
end Go.Proofs.Ytfdgmknjmljhbaa.Grp
end
section
namespace Go.Proofs.Ytfdgmknjmljhbaa.GrpC
open Go.RowKit Go.Proofs.Ytfdgmknjmljhbaa.P Go.Proofs.YtfdgmknjmljhbaaW.PrintWords Go.Proofs.YtfdgmknjmljhbaaW.PrintLast Go.Proofs.YtfdgmknjmljhbaaW.PrintMore
open Go.Proofs.Ytfdgmknjmljhbaa.Pl Go.Proofs.Ytfdgmknjmljhbaa.EvN Go.Proofs.Ytfdgmknjmljhbaa.Lp Go.Proofs.Ytfdgmknjmljhbaa.Hg Go.Proofs.Ytfdgmknjmljhbaa.Grp
theorem good_high {x : S36} (h : good x = true) : 0 ≤ x.f3 ∧ x.f3 ≤ (((rd_T80 x.f4 x.f1).f0).length : Int) := by
  have hl := good_lead h
  unfold good at h
  rw [Bool.and_eq_true] at h
  have hh := head_parts h.1
  have hi : x.f1.toNat < x.f4.length := by omega
  have hsplit : x.f4.take x.f1.toNat ++ x.f4[x.f1.toNat] :: x.f4.drop (x.f1.toNat + 1) = x.f4 := by
    rw [← List.drop_eq_getElem_cons hi, List.take_append_drop]
  have hg := (okFrom_iff _ x.f4 []).1 h.2 _ _ _ hsplit
  have e : rd_T80 x.f4 x.f1 = x.f4[x.f1.toNat] := by
    unfold rd_T80
    rw [List.getD_eq_getElem?_getD, List.getElem?_eq_getElem hi, Option.getD_some]
  unfold goodRep at hg
  rw [Bool.and_eq_true, decide_eq_true_eq] at hg
  have hc := hg.2.2.2.2 (by
    rw [List.nil_append, List.length_take, Nat.min_eq_left (by omega), Int.toNat_of_nonneg hl.1]
    exact hh.2.2.1)
  have := same_le (x.f4[x.f1.toNat].f0) ((rd_T80 x.f4 x.f1).f0)
  exact ⟨hh.2.2.2, by omega⟩
def committed (x : S36) : List S92 := if good x = true then ((rd_T80 x.f4 x.f1).f0).take x.f3.toNat else []
theorem committed_both (x : S36) (h : smGroup x) (hb : ∀ y ∈ x.f4, y.f0.length ≤ 1048576) : ∃ r b, Cm (fun k => spec_CommittedRows.f k x.f0 x.f1 x.f2 x.f3 x.f4) (r, b) ∧ Cm (fun k => impl_CommittedRows.f k x.f0 x.f1 x.f2 x.f3 x.f4) (r, b) ∧ r.length ≤ 1048576 := by
  have hlen : (committed x).length ≤ 1048576 := by
    unfold committed
    split
    · rename_i c
      have := hb _ (rd80_in (good_lead c))
      rw [List.length_take]
      omega
    · exact Nat.zero_le _
  refine ⟨committed x, good x, ?_, ?_, hlen⟩
  · unfold spec_CommittedRows.f
    refine cm_bind (spec_f x h) (cm_if (fun c => ?_) (fun c => cm_now fun _ => ?_))
    · have hl := good_lead c
      have hh := good_high c
      unfold committed at hlen ⊢
      rw [if_pos c] at hlen ⊢
      refine cm_bind (cm_now fun _ => rfl) (cm_yes hl.1 (cm_yes hl.2 (cm_yes hh.1 (cm_yes hh.2 (cm_bind (cm_now fun _ => rfl) (cm_yes (by simp only [List.length_nil]; omega) (cm_now fun _ => ?_)))))))
      rw [c, List.nil_append]
    · unfold committed
      rw [if_neg c, Bool.eq_false_iff.mpr c]
  · unfold impl_CommittedRows.f
    refine cm_bind (isGroup_f x h) (cm_if (fun c => ?_) (fun c => cm_now fun _ => ?_))
    · have hl := good_lead c
      have hh := good_high c
      unfold committed at hlen ⊢
      rw [if_pos c] at hlen ⊢
      refine cm_bind (cm_now fun _ => rfl) (cm_yes hl.1 (cm_yes hl.2 (cm_yes hh.1 (cm_yes hh.2 (cm_bind (cm_now fun _ => rfl) (cm_yes (by simp only [List.length_nil]; omega) (cm_now fun _ => ?_)))))))
      rw [c, List.nil_append]
    · unfold committed
      rw [if_neg c, Bool.eq_false_iff.mpr c]
end Go.Proofs.Ytfdgmknjmljhbaa.GrpC
end
section
namespace Go.Proofs.Ytfdgmknjmljhbaa.Pure
open Go.RowKit Go.Proofs.Ytfdgmknjmljhbaa.P Go.Proofs.YtfdgmknjmljhbaaW.PrintWords Go.Proofs.YtfdgmknjmljhbaaW.PrintLast Go.Proofs.YtfdgmknjmljhbaaW.PrintMore
open Go.Proofs.Ytfdgmknjmljhbaa.Pl Go.Proofs.Ytfdgmknjmljhbaa.EvN Go.Proofs.Ytfdgmknjmljhbaa.Lp Go.Proofs.Ytfdgmknjmljhbaa.Hs Go.Proofs.Ytfdgmknjmljhbaa.Hg Go.Proofs.Ytfdgmknjmljhbaa.Sz Go.Proofs.Ytfdgmknjmljhbaa.Grp Go.Proofs.Ytfdgmknjmljhbaa.GrpC
set_option linter.unusedVariables false
theorem FnExactCommittedRows : Mk.FnExactCommittedRows_Pure := by
  intro x0 b0
  obtain ⟨z1, cz1, dz1⟩ := szGroup_wt x0 b0 1048576 (by omega) (by omega)
  by_cases nz1 : z1 < 0
  · obtain ⟨Kz1, jz1⟩ := cz1; exact ⟨Kz1, z1, jz1 _ (by omega), .inl nz1⟩
  simp only [wGroup] at dz1
  have hbig : ∀ y ∈ (cGroup x0).f4, y.f0.length ≤ 1048576 := fun y hy => by obtain ⟨u, hu, rfl⟩ := List.mem_map.1 hy; have h1 := w_mem wReplica hu; have h2 : u.f0.length ≤ wReplica u := (by unfold wReplica wRowS; omega); simp only [cReplica, List.length_map]; unfold wReplicaS at dz1; omega
  obtain ⟨r27, r28, hspec, himpl, hsm⟩ := committed_both (cGroup x0) (sm_cGroup x0 b0) (fun y hy => hbig y hy)
  have e2 : (cGroup x0).f2.length = x0.f2.length := rfl
  obtain ⟨K0, j0⟩ := toGroup_f x0 b0
  obtain ⟨K1, j1⟩ := hspec
  obtain ⟨K2, j2⟩ := himpl
  obtain ⟨K3, j3⟩ := eqRowS_same r27 ⟨by omega, fun y _ => by simp [smRow]⟩
  obtain ⟨K4, j4⟩ := eqGroup_same _ (sm_cGroup x0 b0)
  obtain ⟨Kz1, jz1⟩ := cz1
  have tb0 : Mk.tot (fun _ => 1) (cGroup x0).f2 = _ := Mk.tot_one _
  have tb1 : Mk.tot Mk.pcReplica (cGroup x0).f4 ≤ 10 * wReplicaS x0.f4 := totReplica_le _
  exact ⟨K0 + K1 + K2 + K3 + K4 + Kz1, z1, jz1 _ (by omega), .inr ⟨nz1, (cGroup x0).f0, (cGroup x0).f1, (cGroup x0).f2, (cGroup x0).f3, (cGroup x0).f4, r27, r28, j0 _ (by omega), j1 _ (by omega), j2 _ (by omega), j3 _ (by omega), j4 _ (by omega), (by omega), (by omega), (by have := tot_le Mk.pcRow 2 r27 (fun _ _ => Nat.le_refl _); omega), (fun x _ => by simp [Mk.peRow])⟩⟩
end Go.Proofs.Ytfdgmknjmljhbaa.Pure
end
