-- Written by programs of this session (wip/prune.py, wip/xp.py), out of the translation and the printed words; what the law does not reach is left out. Not trusted: Lean checks it.
import Derived.Laws.World
import Derived.Test.YtfdgmknjmljhbaaZXShareOfPx0
import Derived.Test.YtfdgmknjmljhbaaZXShareOfW0
import Derived.Test.YtfdgmknjmljhbaaZXShareOfPx1
import Derived.Test.YtfdgmknjmljhbaaZXShareOfPx19
import Derived.Test.YtfdgmknjmljhbaaZXShareOfPx4
import Derived.Test.YtfdgmknjmljhbaaZXShareOfPxok
import Derived.Test.YtfdgmknjmljhbaaZXShareOfPx2
import Derived.Test.YtfdgmknjmljhbaaZXShareOfPx8
import Derived.Test.YtfdgmknjmljhbaaZXShareOfPx18
import Derived.Laws.BitsAllLaws
import Derived.Test.YtfdgmknjmljhbaaZXShareOfPx5
import Derived.Test.YtfdgmknjmljhbaaZXShareOfPx3
section
namespace Go.Proofs.Ytfdgmknjmljhbaa.Mk
open Go.RowKit Go.Proofs.YtfdgmknjmljhbaaW.PrintWords Go.Proofs.YtfdgmknjmljhbaaW.PrintLast
set_option linter.unusedVariables false
set_option linter.unusedSimpArgs false
abbrev Pl := Nat × Nat × Bool
def adr (p : Pl) : Addr := ⟨p.1, p.2.1, none⟩
def three (k : Int) : Bool := k % 3 == 0
def mkv (t : Bool) (k : Int) : Value := if t = true then .bool (three k) else .int .i64 k
def plain : Bool → Value → Prop
  | true, u => ∃ z, u = .bool z
  | false, u => ∃ z : Int, u = .int .i64 z
theorem plain_mkv (t : Bool) (k : Int) : plain t (mkv t k) := by cases t <;> exact ⟨_, rfl⟩
theorem plain_one {s t : Bool} {u : Value} (h : plain s u) (h2 : plain t u) : s = t := by
  cases s <;> cases t <;> obtain ⟨a, rfl⟩ := h <;> obtain ⟨b, hb⟩ := h2 <;> first | rfl | cases hb
def puts : World → List Pl → Int → World
  | w, [], _ => w
  | w, p :: l, k => puts (w.setCell (adr p) (mkv p.2.2 k)) l (k + 1)
theorem set_size (w : World) (a : Addr) (u : Value) : (w.setCell a u).heap.size = w.heap.size := by simp [World.setCell]
theorem puts_size : ∀ (l : List Pl) (w : World) (k : Int), (puts w l k).heap.size = w.heap.size
  | [], _, _ => rfl
  | p :: l, w, k => by rw [puts, puts_size l, set_size]
theorem set_cong {w1 w2 : World} {i : Nat} (h : w1.heap[i]? = w2.heap[i]?) (a : Addr) (u : Value) : (w1.setCell a u).heap[i]? = (w2.setCell a u).heap[i]? := by
  simp only [World.setCell, Array.getElem?_modify, h]
theorem puts_cong {i : Nat} : ∀ (l : List Pl) {w1 w2 : World} (k : Int), w1.heap[i]? = w2.heap[i]? → (puts w1 l k).heap[i]? = (puts w2 l k).heap[i]?
  | [], _, _, _, h => h
  | p :: l, _, _, k, h => puts_cong l (k + 1) (set_cong h _ _)
theorem puts_app : ∀ (l m : List Pl) (w : World) (k : Int), puts w (l ++ m) k = puts (puts w l k) m (k + (l.length : Int))
  | [], m, w, k => by simp [puts]
  | p :: l, m, w, k => by
    rw [List.cons_append, puts, puts_app l m, puts]
    congr 1
    simp only [List.length_cons]
    omega
theorem puts_far {i : Nat} : ∀ (l : List Pl) (w : World) (k : Int), (∀ p ∈ l, p.1 ≠ i) → (puts w l k).heap[i]? = w.heap[i]?
  | [], _, _, _ => rfl
  | p :: l, w, k, h => by
    rw [puts, puts_far l _ _ (fun q hq => h q (List.mem_cons_of_mem _ hq))]
    exact Below.heap_setCell w _ _ _ (fun e => h p List.mem_cons_self e.symm)
structure Wr (w w' : World) (ps : List Pl) (k : Int) : Prop where
  os : w'.os = w.os
  tape : w'.tape = w.tape
  output : w'.output = w.output
  size : w.heap.size ≤ w'.heap.size
  block : ∀ i, i < w.heap.size → w'.heap[i]? = (puts w ps k).heap[i]?
theorem Wr.refl (w : World) (k : Int) : Wr w w [] k := ⟨rfl, rfl, rfl, Nat.le_refl _, fun _ _ => rfl⟩
theorem Wr.below {w w1 w2 : World} {ps : List Pl} {k : Int} (h : Wr w w1 ps k) (hb : Below w1.heap.size w1 w2) : Wr w w2 ps k :=
  ⟨hb.os.trans h.os, hb.tape.trans h.tape, hb.output.trans h.output, Nat.le_trans h.size hb.size, fun i hi => (hb.block i (Nat.lt_of_lt_of_le hi h.size)).trans (h.block i hi)⟩
theorem Wr.trans {w w1 w2 : World} {ps bs : List Pl} {k j : Int} (h : Wr w w1 ps k) (g : Wr w1 w2 bs j) (hj : j = k + (ps.length : Int)) : Wr w w2 (ps ++ bs) k := by
  subst hj
  refine ⟨g.os.trans h.os, g.tape.trans h.tape, g.output.trans h.output, Nat.le_trans h.size g.size, fun i hi => ?_⟩
  rw [g.block i (Nat.lt_of_lt_of_le hi h.size), puts_app]
  exact puts_cong bs _ (h.block i hi)
theorem Wr.one (w : World) (p : Pl) (k : Int) : Wr w (w.setCell (adr p) (mkv p.2.2 k)) [p] k :=
  ⟨rfl, rfl, rfl, Nat.le_of_eq (set_size w _ _).symm, fun _ _ => rfl⟩
theorem Wr.put {w w1 : World} {ps : List Pl} {k j : Int} (h : Wr w w1 ps k) (p : Pl) (hj : j = k + (ps.length : Int)) : Wr w (w1.setCell (adr p) (mkv p.2.2 j)) (ps ++ [p]) k :=
  h.trans (Wr.one w1 p j) hj
theorem Wr.kept {w w' : World} {ps : List Pl} {k : Int} {S : Nat → Prop} (h : Wr w w' ps k) (hS : ∀ p ∈ ps, S p.1) : Kept w w' S :=
  ⟨h.size, fun i hi hn => (h.block i hi).trans (puts_far ps w k (fun p hp e => hn (e ▸ hS p hp)))⟩
theorem Wr.under {w0 w w' : World} {ps : List Pl} {k : Int} (h : Wr w w' ps k) (hb : Below w0.heap.size w0 w) (ha : ∀ p ∈ ps, w0.heap.size ≤ p.1) : Below w0.heap.size w0 w' :=
  ⟨h.os.trans hb.os, h.tape.trans hb.tape, h.output.trans hb.output, Nat.le_trans hb.size h.size, fun i hi =>
    ((h.block i (Nat.lt_of_lt_of_le hi hb.size)).trans (puts_far ps w k (fun p hp e => by have := ha p hp; omega))).trans (hb.block i hi)⟩
def okc (w : World) (p : Pl) : Prop := (∃ u, w.cell? (adr p) = some u ∧ plain p.2.2 u) ∧ w.frozen? (adr p) = false
def okh (w : World) (q : (Nat × Nat) × Value) : Prop := w.cell? ⟨q.1.1, q.1.2, none⟩ = some q.2 ∧ ∃ A n c, q.2 = .slice A n c
theorem adr_ne {p q : Pl} (h : ¬ (p.1 = q.1 ∧ p.2.1 = q.2.1)) : adr p ≠ adr q := by
  intro e
  injection e with e1 e2
  exact h ⟨e1, e2⟩
theorem okc_set {w : World} {p q : Pl} (hp : okc w p) (hq : okc w q) (k : Int) : okc (w.setCell (adr p) (mkv p.2.2 k)) q := by
  refine ⟨?_, by rw [World.frozen?_setCell]; exact hq.2⟩
  obtain ⟨⟨u, hu, hpu⟩, _⟩ := hp
  obtain ⟨⟨v, hv, hpv⟩, _⟩ := hq
  by_cases c : p.1 = q.1 ∧ p.2.1 = q.2.1
  · have e : adr p = adr q := by unfold adr; rw [c.1, c.2]
    rw [e] at hu ⊢
    rw [hu] at hv
    cases hv
    exact ⟨_, World.cell?_setCell_same _ _ _ hu, by rw [plain_one hpv hpu]; exact plain_mkv _ _⟩
  · exact ⟨v, by rw [World.cell?_setCell_other (h := adr_ne c)]; exact hv, hpv⟩
theorem okh_set {w : World} {p : Pl} {q : (Nat × Nat) × Value} (hp : okc w p) (hq : okh w q) (k : Int) : okh (w.setCell (adr p) (mkv p.2.2 k)) q := by
  obtain ⟨⟨u, hu, hpu⟩, _⟩ := hp
  obtain ⟨hv, A, n, c, he⟩ := hq
  refine ⟨?_, A, n, c, he⟩
  rw [World.cell?_setCell_other]
  · exact hv
  · intro e
    rw [e, hv, he] at hu
    cases hu
    cases hb : p.2.2 <;> rw [hb] at hpu <;> obtain ⟨z, hz⟩ := hpu <;> cases hz
structure Pt (w : World) (hs : List ((Nat × Nat) × Value)) (ps : List Pl) : Prop where
  h : ∀ q ∈ hs, okh w q
  a : ∀ p ∈ ps, okc w p
theorem Pt.nil (w : World) : Pt w [] [] := ⟨fun _ h => by simp at h, fun _ h => by simp at h⟩
theorem Pt.app {w : World} {h1 h2 : List ((Nat × Nat) × Value)} {a1 a2 : List Pl} (x : Pt w h1 a1) (y : Pt w h2 a2) : Pt w (h1 ++ h2) (a1 ++ a2) :=
  ⟨fun q hq => (List.mem_append.1 hq).elim (x.h q) (y.h q), fun p hp => (List.mem_append.1 hp).elim (x.a p) (y.a p)⟩
theorem Pt.right {w : World} {h1 h2 : List ((Nat × Nat) × Value)} {a1 a2 : List Pl} (x : Pt w (h1 ++ h2) (a1 ++ a2)) : Pt w h2 a2 :=
  ⟨fun q hq => x.h q (List.mem_append_right _ hq), fun p hp => x.a p (List.mem_append_right _ hp)⟩
theorem Pt.puts {hs : List ((Nat × Nat) × Value)} {ps : List Pl} : ∀ (bs : List Pl) {w : World} (k : Int), Pt w hs ps → (∀ p ∈ bs, okc w p) → Pt (puts w bs k) hs ps
  | [], _, _, h, _ => h
  | p :: bs, w, k, h, hb => by
    have hp := hb p List.mem_cons_self
    exact Pt.puts bs (k + 1) ⟨fun q hq => okh_set hp (h.h q hq) k, fun q hq => okc_set hp (h.a q hq) k⟩ (fun q hq => okc_set hp (hb q (List.mem_cons_of_mem _ hq)) k)
theorem okc_block {w w' : World} {p : Pl} (h : okc w p) (hb : ∀ i, i < w.heap.size → w'.heap[i]? = w.heap[i]?) : okc w' p := by
  obtain ⟨⟨u, hu, hp⟩, hf⟩ := h
  have := hb _ (World.block_lt_of_cell? _ _ hu)
  exact ⟨⟨u, by rw [World.cell?_of_block this]; exact hu, hp⟩, by rw [World.frozen?_of_block this]; exact hf⟩
theorem okh_block {w w' : World} {q : (Nat × Nat) × Value} (h : okh w q) (hb : ∀ i, i < w.heap.size → w'.heap[i]? = w.heap[i]?) : okh w' q :=
  ⟨by rw [World.cell?_of_block (hb _ (World.block_lt_of_cell? _ _ h.1))]; exact h.1, h.2⟩
theorem Pt.block {w w' : World} {hs : List ((Nat × Nat) × Value)} {ps : List Pl} (h : Pt w hs ps) (hb : ∀ i, i < w.heap.size → w'.heap[i]? = w.heap[i]?) : Pt w' hs ps :=
  ⟨fun q hq => okh_block (h.h q hq) hb, fun p hp => okc_block (h.a p hp) hb⟩
theorem Pt.below {w w' : World} {hs : List ((Nat × Nat) × Value)} {ps : List Pl} (h : Pt w hs ps) (hb : Below w.heap.size w w') : Pt w' hs ps := h.block hb.block
theorem Pt.wr {w w' : World} {hs : List ((Nat × Nat) × Value)} {ps bs : List Pl} {k : Int} (h : Pt w hs ps) (hw : Wr w w' bs k) (hb : ∀ p ∈ bs, okc w p) : Pt w' hs ps :=
  (h.puts bs k hb).block (fun i hi => hw.block i (by rwa [puts_size] at hi))
theorem Pt.set {w : World} {hs : List ((Nat × Nat) × Value)} {ps : List Pl} (h : Pt w hs ps) {p : Pl} (hp : okc w p) (k : Int) : Pt (w.setCell (adr p) (mkv p.2.2 k)) hs ps :=
  ⟨fun q hq => okh_set hp (h.h q hq) k, fun q hq => okc_set hp (h.a q hq) k⟩
def Hs (w : World) (ps : List Pl) (k : Int) : Prop := ∀ (i : Nat) (p : Pl), ps[i]? = some p → w.cell? (adr p) = some (mkv p.2.2 (k + (i : Int)))
theorem Hs.block {w w' : World} {ps : List Pl} {k : Int} (h : Hs w ps k) (hb : ∀ i, i < w.heap.size → w'.heap[i]? = w.heap[i]?) : Hs w' ps k :=
  fun i p hp => by rw [World.cell?_of_block (hb _ (World.block_lt_of_cell? _ _ (h i p hp)))]; exact h i p hp
theorem Hs.below {w w' : World} {ps : List Pl} {k : Int} (h : Hs w ps k) (hb : Below w.heap.size w w') : Hs w' ps k := h.block hb.block
theorem Hs.head {w : World} {p : Pl} {ps : List Pl} {k : Int} (h : Hs w (p :: ps) k) : w.cell? (adr p) = some (mkv p.2.2 k) := by
  have := h 0 p rfl
  simpa using this
theorem Hs.right {w : World} {ps bs : List Pl} {k : Int} (h : Hs w (ps ++ bs) k) : Hs w bs (k + (ps.length : Int)) := fun i p hp => by
  have := h (ps.length + i) p (by rw [List.getElem?_append_right (by omega), Nat.add_sub_cancel_left]; exact hp)
  rw [this]
  congr 2
  omega
def apart (ps : List Pl) : Prop := (ps.map fun p => (p.1, p.2.1)).Nodup
theorem puts_cell : ∀ (l : List Pl) (w : World) (k : Int) (q : Pl), (∀ p ∈ l, ¬ (p.1 = q.1 ∧ p.2.1 = q.2.1)) → (puts w l k).cell? (adr q) = w.cell? (adr q)
  | [], _, _, _, _ => rfl
  | p :: l, w, k, q, h => by
    rw [puts, puts_cell l _ _ q (fun r hr => h r (List.mem_cons_of_mem _ hr)), World.cell?_setCell_other (h := adr_ne (h p List.mem_cons_self))]
theorem hs_puts : ∀ (ps : List Pl) {w : World} (k : Int), apart ps → (∀ p ∈ ps, okc w p) → Hs (puts w ps k) ps k
  | [], _, _, _, _ => fun i p h => by simp at h
  | q :: ps, w, k, hn, ho => by
    have hq := ho q List.mem_cons_self
    unfold apart at hn
    rw [List.map_cons, List.nodup_cons] at hn
    have ih := hs_puts ps (w := w.setCell (adr q) (mkv q.2.2 k)) (k + 1) hn.2 (fun p hp => okc_set hq (ho p (List.mem_cons_of_mem _ hp)) k)
    intro i p hp
    cases i with
    | zero =>
      simp only [List.getElem?_cons_zero, Option.some.injEq] at hp
      subst hp
      rw [puts, puts_cell ps _ _ q (fun r hr e => hn.1 (List.mem_map.2 ⟨r, hr, by rw [e.1, e.2]⟩))]
      obtain ⟨⟨u, hu, _⟩, _⟩ := hq
      rw [World.cell?_setCell_same _ _ _ hu]
      congr 2
      omega
    | succ i =>
      simp only [List.getElem?_cons_succ] at hp
      rw [puts, ih i p hp]
      congr 2
      omega
theorem Wr.hs {w w' : World} {ps : List Pl} {k : Int} (h : Wr w w' ps k) (hn : apart ps) (ho : ∀ p ∈ ps, okc w p) : Hs w' ps k :=
  (hs_puts ps k hn ho).block (fun i hi => h.block i (by rwa [puts_size] at hi))
structure Md where
  sz : Nat
  Sh : Nat → Nat → List ((Nat × Nat) × Value) → List Pl → Prop
namespace Md
def int : Md := ⟨1, fun g o hs ps => hs = [] ∧ ps = [(g, o, false)]⟩
def bool : Md := ⟨1, fun g o hs ps => hs = [] ∧ ps = [(g, o, true)]⟩
def pair (a b : Md) : Md := ⟨a.sz + b.sz, fun g o hs ps => ∃ h1 a1 h2 a2, a.Sh g o h1 a1 ∧ b.Sh g (o + a.sz) h2 a2 ∧ hs = h1 ++ h2 ∧ ps = a1 ++ a2⟩
def N (d : Md) (g : Nat) : Nat → Nat → List ((Nat × Nat) × Value) → List Pl → Prop
  | _, 0, hs, ps => hs = [] ∧ ps = []
  | j, n + 1, hs, ps => ∃ h1 a1 h2 a2, d.Sh g (j * d.sz) h1 a1 ∧ N d g (j + 1) n h2 a2 ∧ hs = h1 ++ h2 ∧ ps = a1 ++ a2
def Row (d : Md) (v : Value) (hs : List ((Nat × Nat) × Value)) (ps : List Pl) : Prop :=
  ∃ A n c, v = .slice A n c ∧ n ≤ c ∧ n ≤ 9223372036854775807 ∧ ((n = 0 ∧ hs = [] ∧ ps = []) ∨ ∃ g, A = some ⟨g, 0, none⟩ ∧ d.N g 0 n hs ps)
def Nr (d : Md) (A : Option Addr) (j n : Nat) (hs : List ((Nat × Nat) × Value)) (ps : List Pl) : Prop := (n = 0 ∧ hs = [] ∧ ps = []) ∨ ∃ g, A = some ⟨g, 0, none⟩ ∧ d.N g j n hs ps
theorem Nr_nil {d : Md} {A : Option Addr} {j : Nat} {hs : List ((Nat × Nat) × Value)} {ps : List Pl} (h : d.Nr A j 0 hs ps) : ps = [] := by
  rcases h with ⟨_, _, h⟩ | ⟨g, _, h⟩
  · exact h
  · exact h.2
theorem Nr_cons {d : Md} {A : Option Addr} {j n : Nat} {hs : List ((Nat × Nat) × Value)} {ps : List Pl} (h : d.Nr A j (n + 1) hs ps) :
    ∃ g, A = some ⟨g, 0, none⟩ ∧ ∃ h1 a1 h2 a2, d.Sh g (j * d.sz) h1 a1 ∧ d.Nr A (j + 1) n h2 a2 ∧ hs = h1 ++ h2 ∧ ps = a1 ++ a2 := by
  rcases h with ⟨h, _⟩ | ⟨g, hA, h1, a1, h2, a2, x, y, z⟩
  · cases h
  · exact ⟨g, hA, h1, a1, h2, a2, x, .inr ⟨g, hA, y⟩, z⟩
def slice (d : Md) : Md := ⟨1, fun g o hs ps => ∃ v h1, d.Row v h1 ps ∧ hs = ((g, o), v) :: h1⟩
end Md
end Go.Proofs.Ytfdgmknjmljhbaa.Mk
end
section
namespace Go.Proofs.Ytfdgmknjmljhbaa.Mk
open Go.RowKit Go.Proofs.YtfdgmknjmljhbaaW.PrintWords Go.Proofs.YtfdgmknjmljhbaaW.PrintLast
set_option linter.unusedVariables false
set_option linter.unusedSimpArgs false
theorem apart_nil : apart [] := List.nodup_nil
theorem apart_app {a b : List Pl} (ha : apart a) (hb : apart b) (h : ∀ p ∈ a, ∀ q ∈ b, ¬ (p.1 = q.1 ∧ p.2.1 = q.2.1)) : apart (a ++ b) := by
  unfold apart at *
  rw [List.map_append, List.nodup_append]
  refine ⟨ha, hb, fun x hx y hy e => ?_⟩
  obtain ⟨p, hp, rfl⟩ := List.mem_map.1 hx
  obtain ⟨q, hq, rfl⟩ := List.mem_map.1 hy
  injection e with e1 e2
  exact h p hp q hq ⟨e1, e2⟩
structure Br {α : Type} (d : Kd α) (m : Md) (c inn : α → Nat) (ex : α → Prop) : Prop where
  sz : m.sz = d.sz
  el : ∀ {w : World} {base : Nat} {ok : Nat → Prop} {x : α} {cs : List Value} {g o : Nat}, d.M w base ok x cs → (∀ k, ok k → k ≠ g) → (∀ j u, cs[j]? = some u → w.cell? ⟨g, o + j, none⟩ = some u) → (∀ j, w.frozen? ⟨g, o + j, none⟩ = false) →
    ∃ hs ps, m.Sh g o hs ps ∧ Pt w hs ps ∧ ps.length = c x ∧ (ex x → apart ps) ∧ (∀ p ∈ ps, (p.1 = g ∧ o ≤ p.2.1 ∧ p.2.1 < o + m.sz) ∨ (ok p.1 ∧ inn x ≠ 0)) ∧ ∀ q ∈ hs, q.1.1 = g ∨ ok q.1.1
namespace Br
variable {α β : Type}
theorem int : Br (Kd.int .i64) Md.int (fun _ => 1) (fun _ => 0) (fun _ => True) where
  sz := rfl
  el := by
    intro w base ok x cs g o h _ hc hf
    obtain rfl : cs = [.int .i64 x] := h
    refine ⟨[], [(g, o, false)], ⟨rfl, rfl⟩, ⟨fun _ h => by simp at h, fun p hp => ?_⟩, rfl, fun _ => by simp [apart], fun p hp => ?_, fun _ h => by simp at h⟩
    · obtain rfl := List.mem_singleton.1 hp
      exact ⟨⟨_, hc 0 _ rfl, x, rfl⟩, hf 0⟩
    · obtain rfl := List.mem_singleton.1 hp
      exact .inl ⟨rfl, Nat.le_refl _, Nat.lt_succ_self _⟩
theorem bool : Br Kd.bool Md.bool (fun _ => 1) (fun _ => 0) (fun _ => True) where
  sz := rfl
  el := by
    intro w base ok x cs g o h _ hc hf
    obtain rfl : cs = [.bool x] := h
    refine ⟨[], [(g, o, true)], ⟨rfl, rfl⟩, ⟨fun _ h => by simp at h, fun p hp => ?_⟩, rfl, fun _ => by simp [apart], fun p hp => ?_, fun _ h => by simp at h⟩
    · obtain rfl := List.mem_singleton.1 hp
      exact ⟨⟨_, hc 0 _ rfl, x, rfl⟩, hf 0⟩
    · obtain rfl := List.mem_singleton.1 hp
      exact .inl ⟨rfl, Nat.le_refl _, Nat.lt_succ_self _⟩
theorem pair {d1 : Kd α} {d2 : Kd β} {m1 m2 : Md} {c1 i1 : α → Nat} {c2 i2 : β → Nat} {e1 : α → Prop} {e2 : β → Prop} (h1 : Br d1 m1 c1 i1 e1) (h2 : Br d2 m2 c2 i2 e2) :
    Br (Kd.pair d1 d2) (Md.pair m1 m2) (fun x => c1 x.1 + c2 x.2) (fun x => i1 x.1 + i2 x.2) (fun x => e1 x.1 ∧ e2 x.2 ∧ (i1 x.1 = 0 ∨ i2 x.2 = 0)) where
  sz := by show m1.sz + m2.sz = d1.sz + d2.sz; rw [h1.sz, h2.sz]
  el := by
    rintro w base ok x cs g o ⟨u0, u1, rfl, hM1, hM2⟩ hg hc hf
    have hl := d1.K_len (d1.K_of_M hM1)
    obtain ⟨s1, a1, sh1, p1, l1, x1, b1, q1⟩ := h1.el (g := g) (o := o) hM1 hg (fun j u hu => hc j u (by rw [List.getElem?_append_left (List.getElem?_eq_some_iff.1 hu).1]; exact hu)) hf
    obtain ⟨s2, a2, sh2, p2, l2, x2, b2, q2⟩ := h2.el (g := g) (o := o + m1.sz) hM2 hg (fun j u hu => by
      have := hc (m1.sz + j) u (by rw [List.getElem?_append_right (by rw [hl, h1.sz]; omega), hl, h1.sz, Nat.add_sub_cancel_left]; exact hu)
      rw [← Nat.add_assoc] at this
      exact this) (fun j => by have := hf (m1.sz + j); rw [← Nat.add_assoc] at this; exact this)
    refine ⟨s1 ++ s2, a1 ++ a2, ⟨s1, a1, s2, a2, sh1, sh2, rfl, rfl⟩, p1.app p2, by rw [List.length_append, l1, l2], ?_, ?_, fun q hq => (List.mem_append.1 hq).elim (q1 q) (q2 q)⟩
    · rintro ⟨y1, y2, y3⟩
      refine apart_app (x1 y1) (x2 y2) (fun p hp q hq e => ?_)
      rcases b1 p hp with hp' | ⟨hp', hp2⟩
      · rcases b2 q hq with hq' | ⟨hq', _⟩
        · omega
        · exact hg _ hq' (by rw [← e.1]; exact hp'.1)
      · rcases b2 q hq with hq' | ⟨_, hq2⟩
        · exact hg _ hp' (by rw [e.1]; exact hq'.1)
        · exact y3.elim hp2 hq2
    · intro p hp
      show (p.1 = g ∧ o ≤ p.2.1 ∧ p.2.1 < o + (m1.sz + m2.sz)) ∨ _
      rcases List.mem_append.1 hp with hp | hp
      · rcases b1 p hp with hp' | hp'
        · exact .inl ⟨hp'.1, by omega, by omega⟩
        · exact .inr ⟨hp'.1, by have := hp'.2; omega⟩
      · rcases b2 p hp with hp' | hp'
        · exact .inl ⟨hp'.1, by omega, by omega⟩
        · exact .inr ⟨hp'.1, by have := hp'.2; omega⟩
theorem iso {d : Kd α} {m : Md} {c i : α → Nat} {e : α → Prop} (h : Br d m c i e) (f : β → α) : Br (Kd.iso d f) m (fun x => c (f x)) (fun x => i (f x)) (fun x => e (f x)) where
  sz := h.sz
  el := fun hM => h.el hM
end Br
section
variable {α : Type} {d : Kd α} {m : Md} {c inn : α → Nat} {ex : α → Prop}
def tot (c : α → Nat) (xs : List α) : Nat := (xs.map c).sum
theorem tot_one (xs : List α) : tot (fun _ => 1) xs = xs.length := by
  induction xs with
  | nil => rfl
  | cons x xs ih =>
    unfold tot at *
    rw [List.map_cons, List.sum_cons, ih, List.length_cons, Nat.add_comm]
theorem tot_drop (c : α → Nat) (xs : List α) (j : Nat) (h : j < xs.length) : tot c (xs.drop j) = c xs[j] + tot c (xs.drop (j + 1)) := by
  unfold tot
  rw [List.drop_eq_getElem_cons h, List.map_cons, List.sum_cons]
theorem row_n (hb : Br d m c inn ex) {w : World} {base g : Nat} {ok : Nat → Prop} {Q : Nat → Nat → Prop} (xs : List α)
    (E : ∀ i (h : i < xs.length), ∃ cs, d.M w base (fun k => ok k ∧ k ≠ g ∧ Q i k) xs[i] cs ∧ (∀ j u, cs[j]? = some u → w.cell? ⟨g, i * m.sz + j, none⟩ = some u) ∧ ∀ j, w.frozen? ⟨g, i * m.sz + j, none⟩ = false) :
    ∀ n j, j + n = xs.length → ∃ hs ps, m.N g j n hs ps ∧ Pt w hs ps ∧ ps.length = tot c (xs.drop j) ∧ (∀ q ∈ hs, q.1.1 = g ∨ ok q.1.1) ∧
      (∀ p ∈ ps, (p.1 = g ∧ j * m.sz ≤ p.2.1) ∨ (ok p.1 ∧ p.1 ≠ g ∧ ∃ i, j ≤ i ∧ Q i p.1 ∧ ∃ h : i < xs.length, inn xs[i] ≠ 0)) ∧
      ((∀ x ∈ xs, ex x) → ((∀ i i' k, Q i k → Q i' k → i = i') ∨ ∀ x ∈ xs, inn x = 0) → apart ps)
  | 0, j, e => ⟨[], [], ⟨rfl, rfl⟩, Pt.nil w, by
      rw [List.drop_eq_nil_of_le (by omega)]
      rfl, fun q hq => by simp at hq, fun p hp => by simp at hp, fun _ _ => apart_nil⟩
  | n + 1, j, e => by
    have hj : j < xs.length := by omega
    obtain ⟨cs, hM, hc, hf⟩ := E j hj
    obtain ⟨s1, a1, sh1, p1, l1, x1, b1, q1⟩ := hb.el (g := g) (o := j * m.sz) hM (fun k hk => hk.2.1) hc hf
    obtain ⟨s2, a2, sh2, p2, l2, q2, b2, x2⟩ := row_n hb xs E n (j + 1) (by omega)
    have hmul : (j + 1) * m.sz = j * m.sz + m.sz := Nat.succ_mul _ _
    refine ⟨s1 ++ s2, a1 ++ a2, ⟨s1, a1, s2, a2, sh1, sh2, rfl, rfl⟩, p1.app p2, by rw [List.length_append, l1, l2, tot_drop c xs j hj], fun q hq => (List.mem_append.1 hq).elim (fun h => (q1 q h).imp_right (·.1)) (q2 q), ?_, ?_⟩
    · intro p hp
      rcases List.mem_append.1 hp with hp | hp
      · rcases b1 p hp with hp' | hp'
        · exact .inl ⟨hp'.1, hp'.2.1⟩
        · exact .inr ⟨hp'.1.1, hp'.1.2.1, j, Nat.le_refl _, hp'.1.2.2, hj, hp'.2⟩
      · rcases b2 p hp with hp' | ⟨h1, h2, i, hi, hq, hl, hn⟩
        · exact .inl ⟨hp'.1, by omega⟩
        · exact .inr ⟨h1, h2, i, by omega, hq, hl, hn⟩
    · intro y1 y2
      refine apart_app (x1 (y1 _ (List.getElem_mem hj))) (x2 y1 y2) (fun p hp q hq e => ?_)
      rcases b1 p hp with hp' | hp'
      · rcases b2 q hq with hq' | hq'
        · omega
        · exact hq'.2.1 (by rw [← e.1]; exact hp'.1)
      · rcases b2 q hq with hq' | ⟨_, _, i, hi, hqi, hl, hn⟩
        · exact hp'.1.2.1 (by rw [e.1]; exact hq'.1)
        · rcases y2 with y2 | y2
          · have := y2 j i p.1 hp'.1.2.2 (by rw [e.1]; exact hqi)
            omega
          · exact hn (y2 _ (List.getElem_mem hl))
theorem row_R (hb : Br d m c inn ex) {e base : Nat} {w : World} {ok : Nat → Prop} {v : Value} {xs : List α} (h : d.R e w base ok v xs) :
    ∃ hs ps, m.Row v hs ps ∧ Pt w hs ps ∧ ps.length = tot c xs ∧ (∀ q ∈ hs, ok q.1.1) ∧ (∀ p ∈ ps, ok p.1 ∧ (some p.1 = v.ownBlock ∨ ∃ x ∈ xs, inn x ≠ 0)) ∧ ((∀ x ∈ xs, ex x) → (∀ x ∈ xs, inn x = 0) → apart ps) := by
  obtain ⟨A, cp, rfl, hle, hC⟩ := Kd.R_reads h
  have hmax : xs.length ≤ 9223372036854775807 := hC.2.1
  by_cases hp : 0 < xs.length
  · obtain ⟨g, cap, he, _, _, _⟩ := Kd.R_form h hp
    injection he with h1 h2 h3
    subst h1
    obtain ⟨z⟩ : Nonempty α := ⟨xs[0]⟩
    obtain ⟨hs, ps, hN, hPt, hl, hq0, hbk, hx⟩ := row_n hb (g := g) (ok := ok) (Q := fun _ _ => True) (base := base) (w := w) xs (fun i hi => by
      obtain ⟨cs, _, hM, hc, hf⟩ := Kd.R_elem h z (i : Int) (by omega) (by omega)
      rw [Int.toNat_natCast] at hM hc hf
      rw [List.getD_eq_getElem?_getD, List.getElem?_eq_getElem hi, Option.getD_some] at hM
      rw [← hb.sz] at hc hf
      exact ⟨cs, d.M_mono (fun k hk => ⟨hk.1, hk.2, trivial⟩) hM, hc, hf⟩) xs.length 0 (by omega)
    refine ⟨hs, ps, ⟨_, _, _, rfl, hle, hmax, .inr ⟨g, rfl, hN⟩⟩, hPt, by rw [hl, List.drop_zero], fun q hq => (hq0 q hq).elim (fun e => by rw [e]; exact h.1 g rfl) id, fun p hp => ?_, fun y1 y2 => hx y1 (.inr y2)⟩
    rcases hbk p hp with hp' | ⟨hp', _, i, _, _, hl, hn⟩
    · exact ⟨by rw [hp'.1]; exact h.1 g rfl, .inl (by rw [hp'.1]; rfl)⟩
    · exact ⟨hp', .inr ⟨_, List.getElem_mem hl, hn⟩⟩
  · have h0 : xs = [] := List.eq_nil_of_length_eq_zero (by omega)
    subst h0
    exact ⟨[], [], ⟨_, _, _, rfl, hle, hmax, .inl ⟨rfl, rfl, rfl⟩⟩, Pt.nil w, rfl, fun q hq => by simp at hq, fun p hp => by simp at hp, fun _ _ => apart_nil⟩
theorem row_S (hb : Br d m c inn ex) {e base : Nat} {w : World} {ok : Nat → Prop} {v : Value} {xs : List α} (h : Kd.S d e w base ok v xs) :
    ∃ hs ps, m.Row v hs ps ∧ Pt w hs ps ∧ ps.length = tot c xs ∧ (∀ q ∈ hs, ok q.1.1) ∧ (∀ p ∈ ps, ok p.1 ∧ (some p.1 = v.ownBlock ∨ ∃ x ∈ xs, inn x ≠ 0)) ∧ ((∀ x ∈ xs, ex x) → apart ps) := by
  have hR := Kd.S_R h
  obtain ⟨A, cp, rfl, hle, hC⟩ := Kd.R_reads hR
  have hmax : xs.length ≤ 9223372036854775807 := hC.2.1
  obtain ⟨f, hf_⟩ := h
  by_cases hp : 0 < xs.length
  · obtain ⟨g, cap, he, _, _, _⟩ := Kd.R_form hR hp
    injection he with h1 h2 h3
    subst h1
    obtain ⟨z⟩ : Nonempty α := ⟨xs[0]⟩
    obtain ⟨hs, ps, hN, hPt, hl, hq0, hbk, hx⟩ := row_n hb (g := g) (ok := ok) (Q := fun i k => f k = i) (base := base) (w := w) xs (fun i hi => by
      obtain ⟨cs, _, hM, hc, hf⟩ := Kd.R_elem hf_ (z, 0) (i : Int) (by omega) (by omega)
      rw [Int.toNat_natCast] at hM hc hf
      rw [List.getD_eq_getElem?_getD, Kd.zip_at (List.getElem?_eq_getElem hi), Option.getD_some] at hM
      rw [show (Kd.tag f d).sz = m.sz from hb.sz.symm] at hc hf
      exact ⟨cs, d.M_mono (fun k hk => ⟨hk.1.1, hk.1.2, hk.2⟩) hM, hc, hf⟩) xs.length 0 (by omega)
    refine ⟨hs, ps, ⟨_, _, _, rfl, hle, hmax, .inr ⟨g, rfl, hN⟩⟩, hPt, by rw [hl, List.drop_zero], fun q hq => (hq0 q hq).elim (fun e => by rw [e]; exact hR.1 g rfl) id, fun p hp => ?_, fun y1 => hx y1 (.inl fun i i' k h1 h2 => h1.symm.trans h2)⟩
    rcases hbk p hp with hp' | ⟨hp', _, i, _, _, hl, hn⟩
    · exact ⟨by rw [hp'.1]; exact hR.1 g rfl, .inl (by rw [hp'.1]; rfl)⟩
    · exact ⟨hp', .inr ⟨_, List.getElem_mem hl, hn⟩⟩
  · have h0 : xs = [] := List.eq_nil_of_length_eq_zero (by omega)
    subst h0
    exact ⟨[], [], ⟨_, _, _, rfl, hle, hmax, .inl ⟨rfl, rfl, rfl⟩⟩, Pt.nil w, rfl, fun q hq => by simp at hq, fun p hp => by simp at hp, fun _ => apart_nil⟩
theorem Br.slice (hb : Br d m c inn ex) (e : Nat) (h0 : ∀ x, inn x = 0) : Br (Kd.slice e d) (Md.slice m) (fun xs => tot c xs) (fun xs => tot c xs) (fun xs => ∀ x ∈ xs, ex x) where
  sz := rfl
  el := by
    rintro w base ok x cs g o ⟨v, rfl, hR⟩ hg hc hf
    obtain ⟨hs, ps, hr, hPt, hl, hq0, hbk, hx⟩ := row_R hb hR
    obtain ⟨A, n, cp, hv, _⟩ := hr
    refine ⟨((g, o), v) :: hs, ps, ⟨v, hs, ⟨A, n, cp, hv, by assumption⟩, rfl⟩, ⟨fun q hq => ?_, hPt.a⟩, hl, fun y => hx y (fun x _ => h0 x), fun p hp => .inr ⟨(hbk p hp).1, ?_⟩, fun q hq => ?_⟩
    · rcases List.mem_cons.1 hq with rfl | hq
      · exact ⟨hc 0 _ rfl, A, n, cp, hv⟩
      · exact hPt.h q hq
    · show tot c x ≠ 0
      have := List.length_pos_of_mem hp
      omega
    · rcases List.mem_cons.1 hq with rfl | hq
      · exact .inl rfl
      · exact .inr (hq0 q hq)
end
structure Sg (w : World) (k : Int) (wr : World) (pre : List Pl) (hs : List ((Nat × Nat) × Value)) (ps : List Pl) (kk : Int) : Prop where
  ek : kk = k + (pre.length : Int)
  pt : Pt wr hs ps
  wr : Wr w wr pre k
theorem Pt.sub {w : World} {hs h1 : List ((Nat × Nat) × Value)} {ps a1 : List Pl} (h : Pt w hs ps) (x : ∀ q ∈ h1, q ∈ hs) (y : ∀ q ∈ a1, q ∈ ps) : Pt w h1 a1 := ⟨fun q hq => h.h q (x q hq), fun q hq => h.a q (y q hq)⟩
namespace Sg
variable {w wr w2 : World} {k kk : Int} {pre ps qs a1 a2 : List Pl} {hs h1 h2 : List ((Nat × Nat) × Value)}
theorem start (h : Pt w hs ps) (k : Int) : Sg w k w [] hs ps k := ⟨by simp, h, Wr.refl w k⟩
theorem put (h : Sg w k wr pre hs ps kk) {b o : Nat} {t : Bool} (hm : (b, o, t) ∈ ps) {v : Value} (hv : v = mkv t kk) : Sg w k (wr.setCell ⟨b, o, none⟩ v) (pre ++ [(b, o, t)]) hs ps (kk + 1) := by
  subst hv
  refine ⟨by rw [h.ek, List.length_append, List.length_singleton]; omega, h.pt.set (p := (b, o, t)) (h.pt.a _ hm) kk, h.wr.put (b, o, t) h.ek⟩
theorem call (h : Sg w k wr pre hs ps kk) (hw : Wr wr w2 qs kk) (hq : ∀ q ∈ qs, q ∈ ps) : Sg w k w2 (pre ++ qs) hs ps (kk + (qs.length : Int)) :=
  ⟨by rw [h.ek, List.length_append]; omega, h.pt.wr hw (fun p hp => h.pt.a p (hq p hp)), h.wr.trans hw h.ek⟩
theorem below (h : Sg w k wr pre hs ps kk) (hb : Below wr.heap.size wr w2) : Sg w k w2 pre hs ps kk := ⟨h.ek, h.pt.below hb, h.wr.below hb⟩
theorem rest (h : Sg w k wr pre (h1 ++ h2) (a1 ++ a2) kk) : Sg w k wr pre h2 a2 kk := ⟨h.ek, h.pt.right, h.wr⟩
theorem cell (h : Sg w k wr pre hs ps kk) {b o : Nat} {t : Bool} (hm : (b, o, t) ∈ ps) : ∃ u, wr.cell? ⟨b, o, none⟩ = some u ∧ wr.frozen? ⟨b, o, none⟩ = false := by
  obtain ⟨⟨u, hu, _⟩, hf⟩ := h.pt.a _ hm
  exact ⟨u, hu, hf⟩
theorem head (h : Sg w k wr pre hs ps kk) {b o : Nat} {v : Value} (hm : ((b, o), v) ∈ hs) : wr.cell? ⟨b, o, none⟩ = some v := (h.pt.h _ hm).1
theorem sub (h : Sg w k wr pre hs ps kk) (x : ∀ q ∈ h1, q ∈ hs) (y : ∀ q ∈ a1, q ∈ ps) : Pt wr h1 a1 := h.pt.sub x y
theorem narrow (h : Sg w k wr pre hs ps kk) (x : ∀ q ∈ h1, q ∈ hs) (y : ∀ q ∈ a1, q ∈ ps) : Sg w k wr pre h1 a1 kk := ⟨h.ek, h.pt.sub x y, h.wr⟩
end Sg
theorem Wr.after {w wb w2 : World} {ps : List Pl} {k : Int} (hb : Below w.heap.size w wb) (h : Wr wb w2 ps k) : Wr w w2 ps k :=
  ⟨h.os.trans hb.os, h.tape.trans hb.tape, h.output.trans hb.output, Nat.le_trans hb.size h.size, fun i hi =>
    (h.block i (Nat.lt_of_lt_of_le hi hb.size)).trans (puts_cong ps k (hb.block i hi))⟩
theorem Md.Row_slice {d : Md} {v : Value} {hs : List ((Nat × Nat) × Value)} {ps : List Pl} (h : d.Row v hs ps) : ∃ A n c, v = .slice A n c := by
  obtain ⟨A, n, c, e, _⟩ := h
  exact ⟨A, n, c, e⟩
structure Sq (w : World) (k : Int) (wr : World) (pre : List Pl) (hs : List ((Nat × Nat) × Value)) (ps : List Pl) (kk : Int) : Prop where
  ek : kk = k + (pre.length : Int)
  pt : Pt wr hs ps
  hd : Hs wr ps kk
  bl : Below w.heap.size w wr
theorem Hs.tail {w : World} {p : Pl} {ps : List Pl} {k : Int} (h : Hs w (p :: ps) k) : Hs w ps (k + 1) := by
  have := Hs.right (ps := [p]) (bs := ps) h
  simpa using this
namespace Sq
variable {w wr w2 : World} {k kk : Int} {pre ps qs a1 a2 : List Pl} {hs h1 h2 : List ((Nat × Nat) × Value)} {p : Pl}
theorem start (h : Pt w hs ps) (g : Hs w ps k) : Sq w k w [] hs ps k := ⟨by simp, h, g, Below.refl _ _⟩
theorem cell {b o : Nat} {t : Bool} (h : Sq w k wr pre hs ((b, o, t) :: ps) kk) : wr.cell? ⟨b, o, none⟩ = some (mkv t kk) := h.hd.head (p := (b, o, t))
theorem tail (h : Sq w k wr pre hs (p :: ps) kk) : Sq w k wr (pre ++ [p]) hs ps (kk + 1) :=
  ⟨by rw [h.ek, List.length_append, List.length_singleton]; omega, ⟨h.pt.h, fun q hq => h.pt.a q (List.mem_cons_of_mem _ hq)⟩, h.hd.tail, h.bl⟩
theorem call (h : Sq w k wr pre hs (a1 ++ a2) kk) (hb : Below wr.heap.size wr w2) : Sq w k w2 (pre ++ a1) hs a2 (kk + (a1.length : Int)) :=
  ⟨by rw [h.ek, List.length_append]; omega, ⟨(h.pt.below hb).h, fun q hq => (h.pt.below hb).a q (List.mem_append_right _ hq)⟩, h.hd.right.below hb, h.bl.trans (hb.mono h.bl.size)⟩
theorem head (h : Sq w k wr pre hs ps kk) {b o : Nat} {v : Value} (hm : ((b, o), v) ∈ hs) : wr.cell? ⟨b, o, none⟩ = some v := (h.pt.h _ hm).1
theorem narrow (h : Sq w k wr pre hs ps kk) (x : ∀ q ∈ h1, q ∈ hs) : Sq w k wr pre h1 ps kk := ⟨h.ek, h.pt.sub x (fun _ hq => hq), h.hd, h.bl⟩
end Sq
end Go.Proofs.Ytfdgmknjmljhbaa.Mk
end
section
namespace Go.Proofs.Ytfdgmknjmljhbaa.Mk
open Go.RowKit Go.Proofs.YtfdgmknjmljhbaaW.PrintWords Go.Proofs.YtfdgmknjmljhbaaW.PrintLast
set_option linter.unusedVariables false
set_option linter.unusedSimpArgs false
def Bt (lo hi : Nat) (q : Nat) : Prop := lo ≤ q ∧ q < hi
abbrev Item := Nat × Nat × (World → Prop)
def Chn (n0 : Nat) (W : World) : List Item → Prop
  | [] => True
  | (lo, hi, P) :: L => n0 ≤ lo ∧ lo ≤ hi ∧ hi ≤ W.heap.size ∧ Foot P W (Bt lo hi) ∧ (∀ y ∈ L, y.2.1 ≤ lo) ∧ Chn n0 W L
theorem Chn.step {n0 : Nat} {W W' : World} {S : Nat → Prop} (hk : Kept W W' S) : ∀ {L : List Item}, (∀ y ∈ L, ∀ q, Bt y.1 y.2.1 q → ¬ S q) → Chn n0 W L → Chn n0 W' L
  | [], _, _ => trivial
  | (lo, hi, P) :: L, hd, ⟨h1, h2, h3, h4, h5, h6⟩ =>
    ⟨h1, h2, Nat.le_trans h3 hk.1, h4.step (fun k hk' hlt => hk.2 k hlt (hd _ List.mem_cons_self k hk')), h5, Chn.step hk (fun y hy => hd y (List.mem_cons_of_mem _ hy)) h6⟩
theorem Chn.lt {n0 : Nat} {W : World} : ∀ {L : List Item}, Chn n0 W L → ∀ y ∈ L, n0 ≤ y.1 ∧ y.1 ≤ y.2.1 ∧ y.2.1 ≤ W.heap.size
  | [], _, y, hy => by simp at hy
  | (lo, hi, P) :: L, ⟨h1, h2, h3, _, _, h6⟩, y, hy => by
    rcases List.mem_cons.1 hy with rfl | hy
    · exact ⟨h1, h2, h3⟩
    · exact Chn.lt h6 y hy
structure Ch (w W : World) (L : List Item) : Prop where
  b : Below w.heap.size w W
  c : Chn w.heap.size W L
namespace Ch
variable {w W W' : World} {L L1 L2 : List Item} {lo hi : Nat} {P P' : World → Prop}
theorem start (w : World) : Ch w w [] := ⟨Below.refl _ _, trivial⟩
theorem below (h : Ch w W L) (hb : Below W.heap.size W W') : Ch w W' L := ⟨below_step h.b hb, Chn.step (Kept.of_below hb (fun _ => False)) (fun _ _ _ _ h => h) h.c⟩
theorem drawn (h : Ch w W L) (hd : Drawn0 W W') : Ch w W' L := by
  obtain ⟨n, rfl⟩ := hd.out
  exact h.below (pw_below_drewN (Below.refl _ _) n)
theorem push (h : Ch w W L) (hb : Below W.heap.size W W') {Q : Nat → Nat → World → Prop} (hQ : Foot (Q W.heap.size W'.heap.size) W' (Bt W.heap.size W'.heap.size)) : ∃ lo hi, Ch w W' ((lo, hi, Q lo hi) :: L) :=
  ⟨W.heap.size, W'.heap.size, (h.below hb).b, h.b.size, hb.size, Nat.le_refl _, hQ, fun y hy => (h.c.lt y hy).2.2, (h.below hb).c⟩
theorem get (h : Ch w W L) : ∀ (i : Nat), L[i]? = some (lo, hi, P) → P W ∧ Foot P W (Bt lo hi) := by
  have key : ∀ {L : List Item}, Chn w.heap.size W L → ∀ (i : Nat), L[i]? = some (lo, hi, P) → P W ∧ Foot P W (Bt lo hi) := by
    intro L
    induction L with
    | nil => intro _ i e; simp at e
    | cons y L ih =>
      intro hc i e
      obtain ⟨a, b, Q⟩ := y
      cases i with
      | zero =>
        simp only [List.getElem?_cons_zero, Option.some.injEq, Prod.mk.injEq] at e
        obtain ⟨rfl, rfl, rfl⟩ := e
        exact ⟨hc.2.2.2.1.now, hc.2.2.2.1⟩
      | succ i => exact ih hc.2.2.2.2.2 i (by simpa using e)
  exact key h.c
theorem at_ (h : Ch w W L) (i : Nat) (e : L[i]? = some (lo, hi, P)) : P W := (h.get i e).1
theorem mark (h : Ch w W (L1 ++ (lo, hi, P) :: L2)) (hk : Kept W W' (Bt lo hi)) (hb : Below w.heap.size w W') (hP : Foot P' W' (Bt lo hi)) : Ch w W' (L1 ++ (lo, hi, P') :: L2) := by
  refine ⟨hb, ?_⟩
  have key : ∀ {L1 : List Item}, Chn w.heap.size W (L1 ++ (lo, hi, P) :: L2) → Chn w.heap.size W' (L1 ++ (lo, hi, P') :: L2) := by
    intro L1
    induction L1 with
    | nil =>
      rintro ⟨h1, h2, h3, h4, h5, h6⟩
      exact ⟨h1, h2, Nat.le_trans h3 hk.1, hP, h5, Chn.step hk (fun y hy q hq hq2 => by have := h5 y hy; have := hq.2; have := hq2.1; omega) h6⟩
    | cons y L1 ih =>
      obtain ⟨a, b, Q⟩ := y
      rintro ⟨h1, h2, h3, h4, h5, h6⟩
      refine ⟨h1, h2, Nat.le_trans h3 hk.1, h4.step (fun k hk' hlt => hk.2 k hlt (fun hq => ?_)), ?_, ih h6⟩
      · have := h5 (lo, hi, P) (List.mem_append_right _ List.mem_cons_self)
        have := hk'.1
        have := hq.2
        simp only at *
        omega
      · intro y hy
        rcases List.mem_append.1 hy with hy | hy
        · exact h5 y (List.mem_append_left _ hy)
        · rcases List.mem_cons.1 hy with rfl | hy
          · exact h5 (lo, hi, P) (List.mem_append_right _ List.mem_cons_self)
          · exact h5 y (List.mem_append_right _ (List.mem_cons_of_mem _ hy))
  exact key h.c
theorem lt_ (h : Ch w W (L1 ++ (lo, hi, P) :: L2)) : w.heap.size ≤ lo := (h.c.lt (lo, hi, P) (List.mem_append_right _ List.mem_cons_self)).1
theorem wr {ps : List Pl} {k : Int} (h : Ch w W (L1 ++ (lo, hi, P) :: L2)) (hw : Wr W W' ps k) (hp : ∀ p ∈ ps, Bt lo hi p.1) (hP : Foot P' W' (Bt lo hi)) : Ch w W' (L1 ++ (lo, hi, P') :: L2) :=
  h.mark (hw.kept hp) (hw.under h.b (fun p hq => Nat.le_trans h.lt_ (hp p hq).1)) hP
theorem wr0 {ps : List Pl} {k : Int} (h : Ch w W (L1 ++ (lo, hi, P) :: L2)) (hw : Wr W W' ps k) (hp : ∀ p ∈ ps, Bt lo hi p.1) : Ch w W' (L1 ++ (lo, hi, fun _ => True) :: L2) :=
  h.wr hw hp (fun _ _ => trivial)
end Ch
section
variable {α : Type} {d : Kd α} {e : Nat} {W W' : World} {lo hi : Nat} {v : Value} {xs : List α}
theorem foot_R (h : d.R e W lo (Bt lo hi) v xs) : Foot (fun U => d.R e U lo (Bt lo hi) v xs) W (Bt lo hi) := fun _ hW => Kd.R_step h hW
theorem foot_S (h : Kd.S d e W lo (Bt lo hi) v xs) : Foot (fun U => Kd.S d e U lo (Bt lo hi) v xs) W (Bt lo hi) := fun _ hW => Kd.S_step h hW
theorem in_R {ok : Nat → Prop} (h : d.R e W' W.heap.size ok v xs) : d.R e W' W.heap.size (Bt W.heap.size W'.heap.size) v xs := Kd.R_mono (Kd.R_bound h) (fun _ hk => ⟨hk.2.1, hk.2.2.1⟩)
theorem in_S {ok : Nat → Prop} (h : Kd.S d e W' W.heap.size ok v xs) : Kd.S d e W' W.heap.size (Bt W.heap.size W'.heap.size) v xs := Kd.S_mono (Kd.S_bound h) (fun _ hk => ⟨hk.2.1, hk.2.2.1⟩)
theorem foot_and {P Q : World → Prop} {ok : Nat → Prop} (h : Foot P W ok) (g : Foot Q W ok) : Foot (fun U => P U ∧ Q U) W ok := fun U hU => ⟨h U hU, g U hU⟩
end
theorem foot_blk {W : World} {g : Nat} {o : Obj} {lo hi : Nat} (h : W.heap[g]? = some o) (hg : Bt lo hi g) : Foot (fun U => U.heap[g]? = some o) W (Bt lo hi) := fun _ hU => (hU g hg (blk_lt h)).trans h
theorem foot_pt {W : World} {hs : List ((Nat × Nat) × Value)} {ps : List Pl} {ok : Nat → Prop} (h : Pt W hs ps) (h1 : ∀ q ∈ hs, ok q.1.1) (h2 : ∀ p ∈ ps, ok p.1) : Foot (fun U => Pt U hs ps) W ok := fun U hU => by
  refine ⟨fun q hq => ?_, fun p hp => ?_⟩
  · have a := h.h q hq
    exact ⟨by rw [World.cell?_of_block (hU _ (h1 q hq) (World.block_lt_of_cell? _ _ a.1))]; exact a.1, a.2⟩
  · obtain ⟨⟨u, hu, hpu⟩, hf⟩ := h.a p hp
    have e := hU _ (h2 p hp) (World.block_lt_of_cell? _ _ hu)
    exact ⟨⟨u, by rw [World.cell?_of_block e]; exact hu, hpu⟩, by rw [World.frozen?_of_block e]; exact hf⟩
theorem foot_hs {W : World} {ps : List Pl} {k : Int} {ok : Nat → Prop} (h : Hs W ps k) (h2 : ∀ p ∈ ps, ok p.1) : Foot (fun U => Hs U ps k) W ok := fun U hU i p hp => by
  rw [World.cell?_of_block (hU _ (h2 p (List.mem_of_getElem? hp)) (World.block_lt_of_cell? _ _ (h i p hp)))]
  exact h i p hp
theorem Ch.box {w W : World} {L : List Item} (h : Ch w W L) (o : Obj) : Ch w (W.alloc o) ((W.heap.size, W.heap.size + 1, fun U => U.heap[W.heap.size]? = some o) :: L) := by
  have hb := below_alloc (Below.refl W.heap.size W) o
  refine ⟨(h.below hb).b, h.b.size, Nat.le_succ _, by simp, foot_blk (blk_new W o) ⟨Nat.le_refl _, Nat.lt_succ_self _⟩, fun y hy => (h.c.lt y hy).2.2, (h.below hb).c⟩
end Go.Proofs.Ytfdgmknjmljhbaa.Mk
end
section
namespace Go.Proofs.Ytfdgmknjmljhbaa.Mk
open Go.RowKit Go.Proofs.Ytfdgmknjmljhbaa.P Go.Proofs.YtfdgmknjmljhbaaW.PrintWords Go.Proofs.YtfdgmknjmljhbaaW.PrintLast Go.Proofs.YtfdgmknjmljhbaaW.PrintMore
set_option linter.unusedVariables false
set_option linter.unusedSimpArgs false
def mdReader : Md := Md.pair Md.bool (Md.pair Md.int (Md.pair (Md.slice Md.int) ((Md.slice Md.int))))
def pcReader (x : S71) : Nat := 1 + (1 + (tot (fun _ => 1) x.f2 + (tot (fun _ => 1) x.f3)))
def piReader (x : S71) : Nat := 0 + (0 + (tot (fun _ => 1) x.f2 + (tot (fun _ => 1) x.f3)))
def peReader (x : S71) : Prop := True ∧ (True ∧ ((∀ y ∈ x.f2, True) ∧ ((∀ y ∈ x.f3, True)) ∧ (tot (fun _ => 1) x.f2 = 0 ∨ tot (fun _ => 1) x.f3 = 0)) ∧ (0 = 0 ∨ tot (fun _ => 1) x.f2 + (tot (fun _ => 1) x.f3) = 0)) ∧ (0 = 0 ∨ 0 + (tot (fun _ => 1) x.f2 + (tot (fun _ => 1) x.f3)) = 0)
theorem brReader : Br k71 mdReader pcReader piReader peReader := (Br.pair Br.bool (Br.pair Br.int (Br.pair (Br.slice Br.int 3 (fun _ => rfl)) ((Br.slice Br.int 3 (fun _ => rfl)))))).iso (fun x : S71 => (x.f0, x.f1, x.f2, x.f3))
theorem mdReader_open {g o : Nat} {hs : List ((Nat × Nat) × Value)} {ps : List Pl} (h : mdReader.Sh g o hs ps) : ∃ v2 h2 b2 v3 h3 b3, Md.int.Row v2 h2 b2 ∧ Md.int.Row v3 h3 b3 ∧ hs = (((g, o + 2), v2) :: h2) ++ (((g, o + 3), v3) :: h3) ∧ ps = [(g, o, true)] ++ [(g, o + 1, false)] ++ b2 ++ b3 := by
  obtain ⟨_, _, _, _, ⟨rfl, rfl⟩, ⟨_, _, _, _, ⟨rfl, rfl⟩, ⟨_, b2, _, b3, ⟨v2, h2, r2, rfl⟩, ⟨v3, h3, r3, rfl⟩, rfl, rfl⟩, rfl, rfl⟩, rfl, rfl⟩ := h
  exact ⟨v2, h2, b2, v3, h3, b3, r2, r3, by simp [mdReader, Md.pair, Md.int, Md.bool, Md.slice, Nat.add_assoc], by simp [mdReader, Md.pair, Md.int, Md.bool, Md.slice, Nat.add_assoc]⟩
set_option maxHeartbeats 4000000 in
set_option maxRecDepth 100000 in
theorem markIntS_ok (v : Value) (hs : List ((Nat × Nat) × Value)) (ps : List Pl) (k : Int) (w : World) (hr : Md.Row (Md.int) v hs ps) (hp : Pt w hs ps) (h0 : 0 ≤ k) (h1 : k + (ps.length : Int) ≤ 1000000000) :
    Calls Try.prog 17 #[v, .int .i64 k] w fun e w' => e = .returned (.int .i64 (k + (ps.length : Int))) ∧ Wr w w' ps k := by
  obtain ⟨A, n, c, rfl, hnc, hmax, hN0⟩ := hr
  have HN : Aside0 (Md.Nr (Md.int) A 0 n hs ps) := ⟨hN0⟩
  have HG := Aside0.mk (Sg.start hp k)
  clear hN0 hp hnc
  go_enter Try.func17, Try.ntmps17
  go_wp2
  go_loopg [1, 5] n (fun kq v1 v5 w' => ∃ (j : Nat) (kk : Int) (pre : List Pl) (hs1 : List ((Nat × Nat) × Value)) (ps1 : List Pl), v1 = .int .i64 kk ∧ v5 = .int .i64 (j : Int) ∧ Aside0 (j + kq = n) ∧ Aside0 (ps = pre ++ ps1) ∧ Aside0 (Md.Nr (Md.int) A j kq hs1 ps1) ∧ Aside0 (Sg w k w' pre hs1 ps1 kk))
  case atStart => exact ⟨0, k, [], hs, ps, rfl, rfl, ⟨by omega⟩, ⟨rfl⟩, HN, HG⟩
  case round =>
    clear HN HG
    obtain ⟨j, kk, pre, hs1, ps1, rfl, rfl, HJ, HS, HN, HG⟩ := hrel
    cases gk with
    | zero =>
      have hd : decide ((j : Int) < (n : Int)) = false := decide_eq_false (by have := HJ.out; omega)
      have hd2 : decide (j < n) = false := decide_eq_false (by have := HJ.out; omega)
      go_wp2
      go_ret
      have e0 := Md.Nr_nil HN.out
      have e1 := HS.out
      subst e0
      rw [List.append_nil] at e1
      subst e1
      exact ⟨by rw [HG.out.ek]; rfl, HG.out.wr⟩
    | succ m =>
      have hd : decide ((j : Int) < (n : Int)) = true := decide_eq_true (by have := HJ.out; omega)
      have hd2 : decide (j < n) = true := decide_eq_true (by have := HJ.out; omega)
      have hlt : j < n := by have := HJ.out; omega
      have hlt2 : (j : Int) < (n : Int) := by omega
      obtain ⟨g, rfl, s1, a1, s2, a2, hsh, hn2, rfl, rfl⟩ := Md.Nr_cons HN.out
      clear HN
      have HN2 := Aside0.mk hn2
      clear hn2
      obtain ⟨rfl, rfl⟩ := (show (Md.int).Sh g (j * 1) s1 a1 from hsh)
      simp only [Nat.mul_one] at HG HS
      have hk0 : 0 ≤ kk := by have := HG.out.ek; omega
      have hk1 : kk ≤ 1000000000 := by have := HG.out.ek; have := HS.out; subst this; simp only [List.length_append] at h1; omega
      obtain ⟨u0_0, x0_0, f0_0⟩ := HG.out.cell (b := g) (o := j) (t := false) (by simp)
      go_wp2
      go_roundg m
      case measure => omega
      case rel =>
        have HZ := (Sg.put HG.out (b := g) (o := j) (t := false) (by simp) rfl).narrow (h1 := s2) (a1 := a2) (by intro q_ hq_; simp [hq_]) (by intro q_ hq_; simp [hq_])
        exact ⟨j + 1, _, _, s2, a2, rfl, by go_num, ⟨by have := HJ.out; omega⟩, ⟨by rw [HS.out]; simp⟩, HN2, ⟨HZ⟩⟩
set_option maxHeartbeats 4000000 in
set_option maxRecDepth 100000 in
theorem markReaderS_ok (v : Value) (hs : List ((Nat × Nat) × Value)) (ps : List Pl) (k : Int) (w : World) (hr : Md.Row (mdReader) v hs ps) (hp : Pt w hs ps) (h0 : 0 ≤ k) (h1 : k + (ps.length : Int) ≤ 1000000000) :
    Calls Try.prog 50 #[v, .int .i64 k] w fun e w' => e = .returned (.int .i64 (k + (ps.length : Int))) ∧ Wr w w' ps k := by
  obtain ⟨A, n, c, rfl, hnc, hmax, hN0⟩ := hr
  have HN : Aside0 (Md.Nr (mdReader) A 0 n hs ps) := ⟨hN0⟩
  have HG := Aside0.mk (Sg.start hp k)
  clear hN0 hp hnc
  go_enter Try.func50, Try.ntmps50
  go_wp2
  go_loopg [1, 5] n (fun kq v1 v5 w' => ∃ (j : Nat) (kk : Int) (pre : List Pl) (hs1 : List ((Nat × Nat) × Value)) (ps1 : List Pl), v1 = .int .i64 kk ∧ v5 = .int .i64 (j : Int) ∧ Aside0 (j + kq = n) ∧ Aside0 (ps = pre ++ ps1) ∧ Aside0 (Md.Nr (mdReader) A j kq hs1 ps1) ∧ Aside0 (Sg w k w' pre hs1 ps1 kk))
  case atStart => exact ⟨0, k, [], hs, ps, rfl, rfl, ⟨by omega⟩, ⟨rfl⟩, HN, HG⟩
  case round =>
    clear HN HG
    obtain ⟨j, kk, pre, hs1, ps1, rfl, rfl, HJ, HS, HN, HG⟩ := hrel
    cases gk with
    | zero =>
      have hd : decide ((j : Int) < (n : Int)) = false := decide_eq_false (by have := HJ.out; omega)
      have hd2 : decide (j < n) = false := decide_eq_false (by have := HJ.out; omega)
      go_wp2
      go_ret
      have e0 := Md.Nr_nil HN.out
      have e1 := HS.out
      subst e0
      rw [List.append_nil] at e1
      subst e1
      exact ⟨by rw [HG.out.ek]; rfl, HG.out.wr⟩
    | succ m =>
      have hd : decide ((j : Int) < (n : Int)) = true := decide_eq_true (by have := HJ.out; omega)
      have hd2 : decide (j < n) = true := decide_eq_true (by have := HJ.out; omega)
      have hlt : j < n := by have := HJ.out; omega
      have hlt2 : (j : Int) < (n : Int) := by omega
      obtain ⟨g, rfl, s1, a1, s2, a2, hsh, hn2, rfl, rfl⟩ := Md.Nr_cons HN.out
      clear HN
      have HN2 := Aside0.mk hn2
      clear hn2
      obtain ⟨v2, h2, b2, v3, h3, b3, r2, r3, rfl, rfl⟩ := mdReader_open (show mdReader.Sh g (j * 4) s1 a1 from hsh)
      obtain ⟨A2, n2, c2, rfl⟩ := Md.Row_slice r2
      have R2 := Aside0.mk r2
      clear r2
      obtain ⟨A3, n3, c3, rfl⟩ := Md.Row_slice r3
      have R3 := Aside0.mk r3
      clear r3
      have hk0 : 0 ≤ kk := by have := HG.out.ek; omega
      have hk1 : kk ≤ 1000000000 := by have := HG.out.ek; have := HS.out; subst this; simp only [List.length_append] at h1; omega
      obtain ⟨u0_0, x0_0, f0_0⟩ := HG.out.cell (b := g) (o := j * 4) (t := true) (by simp)
      obtain ⟨u0_1, x0_1, f0_1⟩ := HG.out.cell (b := g) (o := j * 4 + 1) (t := false) (by simp)
      have x0_2 : wr.cell? ⟨g, j * 4 + 2, none⟩ = some (.slice A2 n2 c2) := HG.out.head (by simp)
      have x0_3 : wr.cell? ⟨g, j * 4 + 3, none⟩ = some (.slice A3 n3 c3) := HG.out.head (by simp)
      go_wp2_with fail
      have HG1 := Aside0.mk (Sg.put (Sg.put HG.out (b := g) (o := j * 4) (t := true) (by simp) rfl) (b := g) (o := j * 4 + 1) (t := false) (by simp) rfl)
      (try simp only [List.append_assoc, List.singleton_append, List.cons_append, List.nil_append] at HG1)
      refine (markIntS_ok _ h2 b2 _ _ R2.out (HG1.out.sub (by intro q_ hq_; simp [hq_]) (by intro q_ hq_; simp [hq_])) (by omega) (by have := HG1.out.ek; have := HS.out; subst this; simp only [List.length_append, List.length_cons, List.length_nil] at *; omega)).mono ?_
      rintro e w1 ⟨rfl, hw⟩
      have HC1 := Aside0.mk (HG1.out.call hw (by intro q_ hq_; simp [hq_]))
      obtain ⟨kq1, hkq⟩ : ∃ kq_ : Int, kq_ = kk + 1 + 1 + (b2.length : Int) := ⟨_, rfl⟩
      rw [← hkq] at HC1 ⊢
      have hq0_1 : 0 ≤ kq1 := by omega
      have hq1_1 : kq1 ≤ 1000000000 := by have := HC1.out.ek; have := HS.out; subst this; simp only [List.length_append, List.length_cons, List.length_nil] at *; omega
      clear hkq hw
      clear x0_0 f0_0 x0_1 f0_1 x0_2 x0_3
      obtain ⟨u1_0, x1_0, f1_0⟩ := HC1.out.cell (b := g) (o := j * 4) (t := true) (by simp)
      obtain ⟨u1_1, x1_1, f1_1⟩ := HC1.out.cell (b := g) (o := j * 4 + 1) (t := false) (by simp)
      have x1_2 : w1.cell? ⟨g, j * 4 + 2, none⟩ = some (.slice A2 n2 c2) := HC1.out.head (by simp)
      have x1_3 : w1.cell? ⟨g, j * 4 + 3, none⟩ = some (.slice A3 n3 c3) := HC1.out.head (by simp)
      go_wp2_with fail
      have HG2 := Aside0.mk HC1.out
      refine (markIntS_ok _ h3 b3 _ _ R3.out (HG2.out.sub (by intro q_ hq_; simp [hq_]) (by intro q_ hq_; simp [hq_])) (by omega) (by have := HG2.out.ek; have := HS.out; subst this; simp only [List.length_append, List.length_cons, List.length_nil] at *; omega)).mono ?_
      rintro e w2 ⟨rfl, hw⟩
      have HC2 := Aside0.mk (HG2.out.call hw (by intro q_ hq_; simp [hq_]))
      obtain ⟨kq2, hkq⟩ : ∃ kq_ : Int, kq_ = kq1 + (b3.length : Int) := ⟨_, rfl⟩
      rw [← hkq] at HC2 ⊢
      have hq0_2 : 0 ≤ kq2 := by omega
      have hq1_2 : kq2 ≤ 1000000000 := by have := HC2.out.ek; have := HS.out; subst this; simp only [List.length_append, List.length_cons, List.length_nil] at *; omega
      clear hkq hw
      clear x1_0 f1_0 x1_1 f1_1 x1_2 x1_3
      obtain ⟨u2_0, x2_0, f2_0⟩ := HC2.out.cell (b := g) (o := j * 4) (t := true) (by simp)
      obtain ⟨u2_1, x2_1, f2_1⟩ := HC2.out.cell (b := g) (o := j * 4 + 1) (t := false) (by simp)
      have x2_2 : w2.cell? ⟨g, j * 4 + 2, none⟩ = some (.slice A2 n2 c2) := HC2.out.head (by simp)
      have x2_3 : w2.cell? ⟨g, j * 4 + 3, none⟩ = some (.slice A3 n3 c3) := HC2.out.head (by simp)
      go_wp2
      go_roundg m
      case measure => omega
      case rel =>
        have HZ := HC2.out.narrow (h1 := s2) (a1 := a2) (by intro q_ hq_; simp [hq_]) (by intro q_ hq_; simp [hq_])
        exact ⟨j + 1, _, _, s2, a2, rfl, by go_num, ⟨by have := HJ.out; omega⟩, ⟨by rw [HS.out]; simp⟩, HN2, ⟨HZ⟩⟩
set_option maxHeartbeats 4000000 in
set_option maxRecDepth 100000 in
theorem markReaders_ok (v1 : Value) (s1 : List ((Nat × Nat) × Value)) (b1 : List Pl) (v2 : Value) (s2 : List ((Nat × Nat) × Value)) (b2 : List Pl) (v3 : Value) (s3 : List ((Nat × Nat) × Value)) (b3 : List Pl) (z0 : Int) (k : Int) (w : World) (r1 : Md.Row (mdReader) v1 s1 b1) (r2 : Md.Row (Md.int) v2 s2 b2) (r3 : Md.Row (Md.int) v3 s3 b3) (p1 : Pt w s1 b1) (p2 : Pt w s2 b2) (p3 : Pt w s3 b3) (h0 : 0 ≤ k) (h1 : k + ((b1 ++ b2 ++ b3).length : Int) ≤ 1000000000) :
    Calls Try.prog 18 #[.agg #[.int .i64 z0, v1, v2, v3], .int .i64 k] w fun e w' => e = .returned (.int .i64 (k + ((b1 ++ b2 ++ b3).length : Int))) ∧ Wr w w' (b1 ++ b2 ++ b3) k := by
  obtain ⟨A1, n1, c1, rfl⟩ := Md.Row_slice r1
  have R1 := Aside0.mk r1
  clear r1
  obtain ⟨A2, n2, c2, rfl⟩ := Md.Row_slice r2
  have R2 := Aside0.mk r2
  clear r2
  obtain ⟨A3, n3, c3, rfl⟩ := Md.Row_slice r3
  have R3 := Aside0.mk r3
  clear r3
  have hb := below_alloc (Below.refl w.heap.size w) (.cells #[.int .i64 z0, .slice A1 n1 c1, .slice A2 n2 c2, .slice A3 n3 c3] 25)
  have hx : Pt (w.alloc (.cells #[.int .i64 z0, .slice A1 n1 c1, .slice A2 n2 c2, .slice A3 n3 c3] 25)) ([((w.heap.size, 1), Value.slice A1 n1 c1), ((w.heap.size, 2), Value.slice A2 n2 c2), ((w.heap.size, 3), Value.slice A3 n3 c3)] ++ (s1 ++ (s2 ++ (s3)))) (b1 ++ (b2 ++ (b3))) := ⟨fun q hq => (List.mem_append.1 hq).elim (fun hq => ?_) (((p1.app (p2.app p3)).below hb).h q), ((p1.app (p2.app p3)).below hb).a⟩
  rotate_left
  · simp only [List.mem_cons, List.not_mem_nil, or_false] at hq
    rcases hq with rfl | rfl | rfl
    all_goals exact ⟨by rw [World.cell?_alloc_new]; rfl, _, _, _, rfl⟩
  have HG0 := Aside0.mk (Sg.start hx k)
  have HB := Aside0.mk hb
  clear hx hb p1 p2 p3
  go_enter Try.func18, Try.ntmps18
  try simp only [List.append_assoc] at h1
  try simp only [List.append_assoc]
  go_wp2_with fail
  refine (markReaderS_ok _ s1 b1 _ _ R1.out (HG0.out.sub (by intro q_ hq_; simp [hq_]) (by intro q_ hq_; simp [hq_])) (by omega) (by have := HG0.out.ek; simp only [List.length_append, List.length_cons, List.length_nil] at *; omega)).mono ?_
  rintro e w1 ⟨rfl, hw⟩
  have HG1 := Aside0.mk (HG0.out.call hw (by intro q_ hq_; simp [hq_]))
  obtain ⟨kq1, hkq⟩ : ∃ kq_ : Int, kq_ = k + (b1.length : Int) := ⟨_, rfl⟩
  rw [← hkq] at HG1 ⊢
  have hq0_1 : 0 ≤ kq1 := by omega
  have hq1_1 : kq1 ≤ 1000000000 := by have := HG1.out.ek; simp only [List.length_append, List.length_cons, List.length_nil] at *; omega
  clear hkq hw
  have x1_2 : w1.cell? ⟨w.heap.size, 2, none⟩ = some (.slice A2 n2 c2) := HG1.out.head (by simp)
  have x1_3 : w1.cell? ⟨w.heap.size, 3, none⟩ = some (.slice A3 n3 c3) := HG1.out.head (by simp)
  go_wp2_with fail
  refine (markIntS_ok _ s2 b2 _ _ R2.out (HG1.out.sub (by intro q_ hq_; simp [hq_]) (by intro q_ hq_; simp [hq_])) (by omega) (by have := HG1.out.ek; simp only [List.length_append, List.length_cons, List.length_nil] at *; omega)).mono ?_
  rintro e w2 ⟨rfl, hw⟩
  have HG2 := Aside0.mk (HG1.out.call hw (by intro q_ hq_; simp [hq_]))
  obtain ⟨kq2, hkq⟩ : ∃ kq_ : Int, kq_ = kq1 + (b2.length : Int) := ⟨_, rfl⟩
  rw [← hkq] at HG2 ⊢
  have hq0_2 : 0 ≤ kq2 := by omega
  have hq1_2 : kq2 ≤ 1000000000 := by have := HG2.out.ek; simp only [List.length_append, List.length_cons, List.length_nil] at *; omega
  clear hkq hw
  clear x1_2 x1_3
  have x2_3 : w2.cell? ⟨w.heap.size, 3, none⟩ = some (.slice A3 n3 c3) := HG2.out.head (by simp)
  go_wp2_with fail
  refine (markIntS_ok _ s3 b3 _ _ R3.out (HG2.out.sub (by intro q_ hq_; simp [hq_]) (by intro q_ hq_; simp [hq_])) (by omega) (by have := HG2.out.ek; simp only [List.length_append, List.length_cons, List.length_nil] at *; omega)).mono ?_
  rintro e w3 ⟨rfl, hw⟩
  have HG3 := Aside0.mk (HG2.out.call hw (by intro q_ hq_; simp [hq_]))
  obtain ⟨kq3, hkq⟩ : ∃ kq_ : Int, kq_ = kq2 + (b3.length : Int) := ⟨_, rfl⟩
  rw [← hkq] at HG3 ⊢
  have hq0_3 : 0 ≤ kq3 := by omega
  have hq1_3 : kq3 ≤ 1000000000 := by have := HG3.out.ek; simp only [List.length_append, List.length_cons, List.length_nil] at *; omega
  clear hkq hw
  clear x2_3
  go_wp2
  go_ret
  have HZ := HG3.out
  (try simp only [List.nil_append, List.append_assoc] at HZ)
  exact ⟨by rw [HZ.ek]; rfl, Wr.after HB.out HZ.wr⟩
set_option maxHeartbeats 4000000 in
set_option maxRecDepth 100000 in
theorem heldIntS_ok (v : Value) (hs : List ((Nat × Nat) × Value)) (ps : List Pl) (k : Int) (w : World) (hr : Md.Row (Md.int) v hs ps) (hp : Pt w hs ps) (hh : Hs w ps k) (h0 : 0 ≤ k) (h1 : k + (ps.length : Int) ≤ 1000000000) :
    Calls Try.prog 46 #[v, .int .i64 k] w fun e w' => e = .returned (.int .i64 (k + (ps.length : Int))) ∧ Below w.heap.size w w' := by
  obtain ⟨A, n, c, rfl, hnc, hmax, hN0⟩ := hr
  have HN : Aside0 (Md.Nr (Md.int) A 0 n hs ps) := ⟨hN0⟩
  have HG := Aside0.mk (Sq.start hp hh)
  clear hN0 hp hnc hh
  go_enter Try.func46, Try.ntmps46
  go_wp2
  go_loopg [1, 5] n (fun kq v1 v5 w' => ∃ (j : Nat) (kk : Int) (pre : List Pl) (hs1 : List ((Nat × Nat) × Value)) (ps1 : List Pl), v1 = .int .i64 kk ∧ v5 = .int .i64 (j : Int) ∧ Aside0 (j + kq = n) ∧ Aside0 (ps = pre ++ ps1) ∧ Aside0 (Md.Nr (Md.int) A j kq hs1 ps1) ∧ Aside0 (Sq w k w' pre hs1 ps1 kk))
  case atStart => exact ⟨0, k, [], hs, ps, rfl, rfl, ⟨by omega⟩, ⟨rfl⟩, HN, HG⟩
  case round =>
    clear HN HG
    obtain ⟨j, kk, pre, hs1, ps1, rfl, rfl, HJ, HS, HN, HG⟩ := hrel
    cases gk with
    | zero =>
      have hd : decide ((j : Int) < (n : Int)) = false := decide_eq_false (by have := HJ.out; omega)
      have hd2 : decide (j < n) = false := decide_eq_false (by have := HJ.out; omega)
      go_wp2
      go_ret
      have e0 := Md.Nr_nil HN.out
      have e1 := HS.out
      subst e0
      rw [List.append_nil] at e1
      subst e1
      exact ⟨by rw [HG.out.ek]; rfl, HG.out.bl⟩
    | succ m =>
      have hd : decide ((j : Int) < (n : Int)) = true := decide_eq_true (by have := HJ.out; omega)
      have hd2 : decide (j < n) = true := decide_eq_true (by have := HJ.out; omega)
      have hlt : j < n := by have := HJ.out; omega
      have hlt2 : (j : Int) < (n : Int) := by omega
      obtain ⟨g, rfl, s1, a1, s2, a2, hsh, hn2, rfl, rfl⟩ := Md.Nr_cons HN.out
      clear HN
      have HN2 := Aside0.mk hn2
      clear hn2
      obtain ⟨rfl, rfl⟩ := (show (Md.int).Sh g (j * 1) s1 a1 from hsh)
      simp only [Nat.mul_one] at HG HS
      have hk0 : 0 ≤ kk := by have := HG.out.ek; omega
      have hk1 : kk ≤ 1000000000 := by have := HG.out.ek; have := HS.out; subst this; simp only [List.length_append] at h1; omega
      simp only [List.append_assoc, List.singleton_append, List.cons_append, List.nil_append] at HG
      have HG0 := HG
      clear HG
      have x0_0 : wr.cell? ⟨g, j, none⟩ = some (.int .i64 kk) := HG0.out.cell
      have HG1 := Aside0.mk HG0.out.tail
      clear HG0
      go_wp2
      go_roundg m
      case measure => omega
      case rel =>
        have HZ := HG1.out.narrow (h1 := s2) (by intro q_ hq_; simp [hq_])
        exact ⟨j + 1, _, _, s2, a2, rfl, by go_num, ⟨by have := HJ.out; omega⟩, ⟨by rw [HS.out]; simp⟩, HN2, ⟨HZ⟩⟩
end Go.Proofs.Ytfdgmknjmljhbaa.Mk
end
section
namespace Go.Proofs.Ytfdgmknjmljhbaa.Mk
open Go.RowKit Go.Proofs.Ytfdgmknjmljhbaa.P Go.Proofs.YtfdgmknjmljhbaaW.PrintWords Go.Proofs.YtfdgmknjmljhbaaW.PrintLast Go.Proofs.YtfdgmknjmljhbaaW.PrintMore
set_option linter.unusedVariables false
set_option linter.unusedSimpArgs false
set_option maxHeartbeats 8000000 in
set_option maxRecDepth 100000 in
theorem FnExactShareOf_law (k : Nat) (a0_0 : Int) (A0_1 : Option Addr) (c0_1 : Nat) (l0_1 : List S104) (A0_2 : Option Addr) (c0_2 : Nat) (l0_2 : List Int) (A0_3 : Option Addr) (c0_3 : Nat) (l0_3 : List Int) (a1 : Int) (w : World) (hr0_1 : Kd.C k104 w A0_1 l0_1.length l0_1) (hc0_1 : l0_1.length ≤ c0_1) (hr0_2 : Kd.C (Kd.int .i64) w A0_2 l0_2.length l0_2) (hc0_2 : l0_2.length ≤ c0_2) (hr0_3 : Kd.C (Kd.int .i64) w A0_3 l0_3.length l0_3) (hc0_3 : l0_3.length ≤ c0_3) (z1 : Int) (eE2 : laws_szReaders.f k a0_0 l0_1 l0_2 l0_3 1048576 = some z1) (hz_z1n : ¬ z1 < 0) (x7 : Int) (x8 : List (S71)) (x9 : List Int) (x10 : List Int) (r27 : List Int) (r28 : Bool) (eE11 : laws_toReaders.f k a0_0 l0_1 l0_2 l0_3 = some (x7, x8, x9, x10)) (eE29 : spec_ShareOf.f k x7 x8 x9 x10 a1 = some (r27, r28)) (eE58 : impl_ShareOf.f k x7 x8 x9 x10 a1 = some (r27, r28)) (eE72 : laws_eqIntS.f k r27 r27 = some true) (eE92 : laws_eqReaders.f k x7 x8 x9 x10 x7 x8 x9 x10 = some true) (hB0_ : tot pcReader x8 ≤ 100000000) (hB1_ : tot (fun _ => 1) x9 ≤ 100000000) (hB2_ : tot (fun _ => 1) x10 ≤ 100000000) (hB3_ : tot (fun _ => 1) r27 ≤ 100000000)   :
    Calls Try.prog 11 #[.agg #[.int .i64 a0_0, .slice A0_1 l0_1.length c0_1, .slice A0_2 l0_2.length c0_2, .slice A0_3 l0_3.length c0_3], .int .i64 a1] w fun e w' => e = .returned (.bool true) ∧ Below w.heap.size w w' := by
  have hu25 := Try.underlying25
  have hu54 := Try.underlying54
  have HR0_1 := Aside0.mk hr0_1
  clear hr0_1
  have HR0_2 := Aside0.mk hr0_2
  clear hr0_2
  have HR0_3 := Aside0.mk hr0_3
  clear hr0_3
  have HC := Aside0.mk (Ch.start w)
  have E2 := Aside0.mk eE2
  clear eE2
  have E11 := Aside0.mk eE11
  clear eE11
  have E29 := Aside0.mk eE29
  clear eE29
  have E58 := Aside0.mk eE58
  clear eE58
  have E72 := Aside0.mk eE72
  clear eE72
  have E92 := Aside0.mk eE92
  clear eE92
  have hB0 := Aside0.mk hB0_
  clear hB0_
  have hB1 := Aside0.mk hB1_
  clear hB1_
  have hB2 := Aside0.mk hB2_
  clear hB2_
  have hB3 := Aside0.mk hB3_
  clear hB3_
  go_enter Try.func11, Try.ntmps11
  go_wp2_with fail
  replace HC := Aside0.mk (HC.out.box (.cells #[.int .i64 a0_0, .slice A0_1 l0_1.length c0_1, .slice A0_2 l0_2.length c0_2, .slice A0_3 l0_3.length c0_3] 54))
  refine (laws_szReaders.calls k a0_0 _ _ l0_1 _ _ l0_2 _ _ l0_3 1048576 z1 _ (Kd.C_below HR0_1.out HC.out.b) hc0_1 (Kd.C_below HR0_2.out HC.out.b) hc0_2 (Kd.C_below HR0_3.out HC.out.b) hc0_3 E2.out).mono ?_
  rintro e w1 ⟨rfl, hb⟩
  replace HC := Aside0.mk (HC.out.below hb)
  clear hb
  have hz_z1 : decide (z1 < 0) = false := decide_eq_false (by omega)
  have b3 := (blk_cell (HC.out.at_ 0 rfl) 0).trans rfl
  have b4 := (blk_cell (HC.out.at_ 0 rfl) 1).trans rfl
  have b5 := (blk_cell (HC.out.at_ 0 rfl) 2).trans rfl
  have b6 := (blk_cell (HC.out.at_ 0 rfl) 3).trans rfl
  go_wp2_with fail
  refine (laws_toReaders.calls k a0_0 _ _ l0_1 _ _ l0_2 _ _ l0_3 x7 x8 x9 x10 _ (Kd.C_below HR0_1.out HC.out.b) hc0_1 (Kd.C_below HR0_2.out HC.out.b) hc0_2 (Kd.C_below HR0_3.out HC.out.b) hc0_3 E11.out).mono ?_
  rintro e w2 ⟨v12, v13, v14, rfl, ho0, ho1, ho2, hb⟩
  obtain ⟨A15, c16, rfl⟩ := Kd.S_slice ho0
  obtain ⟨A17, c18, rfl⟩ := Kd.R_slice ho1
  obtain ⟨A19, c20, rfl⟩ := Kd.R_slice ho2
  obtain ⟨lo21, hi22, HC'⟩ := HC.out.push hb (Q := fun lo hi U => Kd.S k71 71 U lo (Bt lo hi) (.slice A15 x8.length c16) x8 ∧ Kd.R (Kd.int .i64) 3 U lo (Bt lo hi) (.slice A17 x9.length c18) x9 ∧ Kd.R (Kd.int .i64) 3 U lo (Bt lo hi) (.slice A19 x10.length c20) x10) (foot_and (foot_S (in_S ho0)) (foot_and (foot_R (in_R ho1)) (foot_R (in_R ho2))))
  replace HC := Aside0.mk HC'
  clear HC' hb ho0 ho1 ho2
  clear b3 b4 b5 b6
  have b23 := (blk_cell (HC.out.at_ 1 rfl) 0).trans rfl
  have b24 := (blk_cell (HC.out.at_ 1 rfl) 1).trans rfl
  have b25 := (blk_cell (HC.out.at_ 1 rfl) 2).trans rfl
  have b26 := (blk_cell (HC.out.at_ 1 rfl) 3).trans rfl
  go_wp2_with fail
  refine (spec_ShareOf.calls k x7 _ _ x8 _ _ x9 _ _ x10 a1 r27 r28 _ (Kd.S_reads' (HC.out.at_ 0 rfl).1).2.2 (Kd.S_reads' (HC.out.at_ 0 rfl).1).2.1 (Kd.R_reads' (HC.out.at_ 0 rfl).2.1).2.2 (Kd.R_reads' (HC.out.at_ 0 rfl).2.1).2.1 (Kd.R_reads' (HC.out.at_ 0 rfl).2.2).2.2 (Kd.R_reads' (HC.out.at_ 0 rfl).2.2).2.1 E29.out).mono ?_
  rintro e w3 ⟨v30, rfl, ho0, hb⟩
  obtain ⟨A31, c32, rfl⟩ := Kd.R_slice ho0
  obtain ⟨lo33, hi34, HC'⟩ := HC.out.push hb (Q := fun lo hi U => Kd.R (Kd.int .i64) 3 U lo (Bt lo hi) (.slice A31 r27.length c32) r27) (foot_R (in_R ho0))
  replace HC := Aside0.mk HC'
  clear HC' hb ho0
  clear b23 b24 b25 b26
  have b35 := (blk_cell (HC.out.at_ 2 rfl) 0).trans rfl
  have b36 := (blk_cell (HC.out.at_ 2 rfl) 1).trans rfl
  have b37 := (blk_cell (HC.out.at_ 2 rfl) 2).trans rfl
  have b38 := (blk_cell (HC.out.at_ 2 rfl) 3).trans rfl
  go_wp2_with fail
  refine (laws_toReaders.calls k a0_0 _ _ l0_1 _ _ l0_2 _ _ l0_3 x7 x8 x9 x10 _ (Kd.C_below HR0_1.out HC.out.b) hc0_1 (Kd.C_below HR0_2.out HC.out.b) hc0_2 (Kd.C_below HR0_3.out HC.out.b) hc0_3 E11.out).mono ?_
  rintro e w4 ⟨v39, v40, v41, rfl, ho0, ho1, ho2, hb⟩
  obtain ⟨A42, c43, rfl⟩ := Kd.S_slice ho0
  obtain ⟨A44, c45, rfl⟩ := Kd.R_slice ho1
  obtain ⟨A46, c47, rfl⟩ := Kd.R_slice ho2
  obtain ⟨lo48, hi49, HC'⟩ := HC.out.push hb (Q := fun lo hi U => Kd.S k71 71 U lo (Bt lo hi) (.slice A42 x8.length c43) x8 ∧ Kd.R (Kd.int .i64) 3 U lo (Bt lo hi) (.slice A44 x9.length c45) x9 ∧ Kd.R (Kd.int .i64) 3 U lo (Bt lo hi) (.slice A46 x10.length c47) x10) (foot_and (foot_S (in_S ho0)) (foot_and (foot_R (in_R ho1)) (foot_R (in_R ho2))))
  replace HC := Aside0.mk HC'
  clear HC' hb ho0 ho1 ho2
  clear b35 b36 b37 b38
  have b50 := (blk_cell (HC.out.at_ 3 rfl) 0).trans rfl
  have b51 := (blk_cell (HC.out.at_ 3 rfl) 1).trans rfl
  have b52 := (blk_cell (HC.out.at_ 3 rfl) 2).trans rfl
  have b53 := (blk_cell (HC.out.at_ 3 rfl) 3).trans rfl
  have b54 : (w4.alloc (.cells #[.int .i64 x7, .slice A42 x8.length c43, .slice A44 x9.length c45, .slice A46 x10.length c47] 25)).cell? ⟨w.heap.size, 0, none⟩ = some (.int .i64 a0_0) := (blk_cell (blk_alloc (HC.out.at_ 3 rfl) _) 0).trans rfl
  have b55 : (w4.alloc (.cells #[.int .i64 x7, .slice A42 x8.length c43, .slice A44 x9.length c45, .slice A46 x10.length c47] 25)).cell? ⟨w.heap.size, 1, none⟩ = some (.slice A0_1 l0_1.length c0_1) := (blk_cell (blk_alloc (HC.out.at_ 3 rfl) _) 1).trans rfl
  have b56 : (w4.alloc (.cells #[.int .i64 x7, .slice A42 x8.length c43, .slice A44 x9.length c45, .slice A46 x10.length c47] 25)).cell? ⟨w.heap.size, 2, none⟩ = some (.slice A0_2 l0_2.length c0_2) := (blk_cell (blk_alloc (HC.out.at_ 3 rfl) _) 2).trans rfl
  have b57 : (w4.alloc (.cells #[.int .i64 x7, .slice A42 x8.length c43, .slice A44 x9.length c45, .slice A46 x10.length c47] 25)).cell? ⟨w.heap.size, 3, none⟩ = some (.slice A0_3 l0_3.length c0_3) := (blk_cell (blk_alloc (HC.out.at_ 3 rfl) _) 3).trans rfl
  go_wp2_with fail
  replace HC := Aside0.mk (HC.out.box (.cells #[.int .i64 x7, .slice A42 x8.length c43, .slice A44 x9.length c45, .slice A46 x10.length c47] 25))
  refine (impl_ShareOf.calls k x7 _ _ x8 _ _ x9 _ _ x10 a1 r27 r28 _ (Kd.S_reads' (HC.out.at_ 1 rfl).1).2.2 (Kd.S_reads' (HC.out.at_ 1 rfl).1).2.1 (Kd.R_reads' (HC.out.at_ 1 rfl).2.1).2.2 (Kd.R_reads' (HC.out.at_ 1 rfl).2.1).2.1 (Kd.R_reads' (HC.out.at_ 1 rfl).2.2).2.2 (Kd.R_reads' (HC.out.at_ 1 rfl).2.2).2.1 E58.out).mono ?_
  rintro e w5 ⟨v59, rfl, ho0, hb⟩
  obtain ⟨A60, c61, rfl⟩ := Kd.R_slice ho0
  obtain ⟨lo62, hi63, HC'⟩ := HC.out.push hb (Q := fun lo hi U => Kd.R (Kd.int .i64) 3 U lo (Bt lo hi) (.slice A60 r27.length c61) r27) (foot_R (in_R ho0))
  replace HC := Aside0.mk HC'
  clear HC' hb ho0
  clear b50 b51 b52 b53 b54 b55 b56 b57
  have b64 := (blk_cell (HC.out.at_ 1 rfl) 0).trans rfl
  have b65 := (blk_cell (HC.out.at_ 1 rfl) 1).trans rfl
  have b66 := (blk_cell (HC.out.at_ 1 rfl) 2).trans rfl
  have b67 := (blk_cell (HC.out.at_ 1 rfl) 3).trans rfl
  have b68 := (blk_cell (HC.out.at_ 5 rfl) 0).trans rfl
  have b69 := (blk_cell (HC.out.at_ 5 rfl) 1).trans rfl
  have b70 := (blk_cell (HC.out.at_ 5 rfl) 2).trans rfl
  have b71 := (blk_cell (HC.out.at_ 5 rfl) 3).trans rfl
  go_wp2_with fail
  refine (laws_eqIntS.calls k _ _ r27 _ _ r27 true _ (Kd.R_reads' (HC.out.at_ 0 rfl)).2.2 (Kd.R_reads' (HC.out.at_ 0 rfl)).2.1 (Kd.R_reads' (HC.out.at_ 3 rfl)).2.2 (Kd.R_reads' (HC.out.at_ 3 rfl)).2.1 E72.out).mono ?_
  rintro e w6 ⟨rfl, hb⟩
  replace HC := Aside0.mk (HC.out.drawn hb)
  clear hb
  clear b64 b65 b66 b67 b68 b69 b70 b71
  have b73 := (blk_cell (HC.out.at_ 1 rfl) 0).trans rfl
  have b74 := (blk_cell (HC.out.at_ 1 rfl) 1).trans rfl
  have b75 := (blk_cell (HC.out.at_ 1 rfl) 2).trans rfl
  have b76 := (blk_cell (HC.out.at_ 1 rfl) 3).trans rfl
  have b77 := (blk_cell (HC.out.at_ 5 rfl) 0).trans rfl
  have b78 := (blk_cell (HC.out.at_ 5 rfl) 1).trans rfl
  have b79 := (blk_cell (HC.out.at_ 5 rfl) 2).trans rfl
  have b80 := (blk_cell (HC.out.at_ 5 rfl) 3).trans rfl
  go_wp2_with fail
  replace HC := Aside0.mk (HC.out.below (below_drew (Below.refl _ _)))
  refine start_ (n := 5) (S := fun w' => w'.cell? ⟨w4.heap.size, 0, none⟩ = some (.int .i64 x7) ∧ w'.cell? ⟨w4.heap.size, 1, none⟩ = some (.slice A42 x8.length c43) ∧ w'.cell? ⟨w4.heap.size, 2, none⟩ = some (.slice A44 x9.length c45) ∧ w'.cell? ⟨w4.heap.size, 3, none⟩ = some (.slice A46 x10.length c47) ∧ w'.cell? ⟨w.heap.size, 0, none⟩ = some (.int .i64 a0_0) ∧ w'.cell? ⟨w.heap.size, 1, none⟩ = some (.slice A0_1 l0_1.length c0_1) ∧ w'.cell? ⟨w.heap.size, 2, none⟩ = some (.slice A0_2 l0_2.length c0_2) ∧ w'.cell? ⟨w.heap.size, 3, none⟩ = some (.slice A0_3 l0_3.length c0_3)) (ds := []) #[false, false, false, false, false] (by kernel_rfl) rfl rfl ⟨(blk_cell (HC.out.at_ 1 rfl) 0).trans rfl, (blk_cell (HC.out.at_ 1 rfl) 1).trans rfl, (blk_cell (HC.out.at_ 1 rfl) 2).trans rfl, (blk_cell (HC.out.at_ 1 rfl) 3).trans rfl, (blk_cell (HC.out.at_ 5 rfl) 0).trans rfl, (blk_cell (HC.out.at_ 5 rfl) 1).trans rfl, (blk_cell (HC.out.at_ 5 rfl) 2).trans rfl, (blk_cell (HC.out.at_ 5 rfl) 3).trans rfl⟩ (fun hHeld => ?_)
  generalize w6.drew = w7 at HC hHeld ⊢
  refine take_ (i := 0) (N := some 45) (v := ?_) (a' := ?_) #[true, false, false, false, false] rfl rfl (by kernel_rfl) (fun _ _ _ h => h) (Or.inl ⟨by rfl, ?_⟩) hHeld ?_ ?_
  rotate_left
  · rintro w' ⟨s0, s1, s2, s3, s4, s5, s6, s7⟩
    go_simp
    with_reducible rfl
  rotate_left
  · simp only [Act.put, List.setIfInBounds_toArray, List.set_cons_zero, List.set_cons_succ, i64_w, i32_w]
    rfl
  refine take_ (i := 1) (N := some 46) (v := ?_) (a' := ?_) #[true, true, false, false, false] rfl rfl (by kernel_rfl) (fun _ _ _ h => h) (Or.inl ⟨by rfl, ?_⟩) hHeld ?_ ?_
  rotate_left
  · rintro w' ⟨s0, s1, s2, s3, s4, s5, s6, s7⟩
    go_simp
    with_reducible rfl
  rotate_left
  · simp only [Act.put, List.setIfInBounds_toArray, List.set_cons_zero, List.set_cons_succ, i64_w, i32_w]
    rfl
  refine one_ (i := 2) (N := some 47) #[true, true, true, false, false] rfl rfl (by kernel_rfl) (by decide) (fun K hK => ?_)
  refine goes_ Try.func33 (by kernel_rfl) rfl #[.agg #[.int .i64 a0_0, .slice A0_1 l0_1.length c0_1, .slice A0_2 l0_2.length c0_2, .slice A0_3 l0_3.length c0_3]] (by rfl) rfl rfl (by (try simp only [List.map_toArray, List.map_cons, List.map_nil]); first | done | rfl | (simp only [List.length_drop, List.length_take]; rfl)) ?_
  refine (laws_toReaders.calls k a0_0 _ _ l0_1 _ _ l0_2 _ _ l0_3 x7 x8 x9 x10 _ (Kd.C_below HR0_1.out HC.out.b) hc0_1 (Kd.C_below HR0_2.out HC.out.b) hc0_2 (Kd.C_below HR0_3.out HC.out.b) hc0_3 E11.out).mono ?_
  rintro e w8 ⟨v81, v82, v83, rfl, ho0, ho1, ho2, hb⟩
  refine ⟨_, rfl, ?_⟩
  obtain ⟨A84, c85, rfl⟩ := Kd.S_slice ho0
  obtain ⟨A86, c87, rfl⟩ := Kd.R_slice ho1
  obtain ⟨A88, c89, rfl⟩ := Kd.R_slice ho2
  obtain ⟨lo90, hi91, HC'⟩ := HC.out.push hb (Q := fun lo hi U => Kd.S k71 71 U lo (Bt lo hi) (.slice A84 x8.length c85) x8 ∧ Kd.R (Kd.int .i64) 3 U lo (Bt lo hi) (.slice A86 x9.length c87) x9 ∧ Kd.R (Kd.int .i64) 3 U lo (Bt lo hi) (.slice A88 x10.length c89) x10) (foot_and (foot_S (in_S ho0)) (foot_and (foot_R (in_R ho1)) (foot_R (in_R ho2))))
  replace HC := Aside0.mk HC'
  clear HC' hb ho0 ho1 ho2
  refine hK.out _ _ ⟨(blk_cell (HC.out.at_ 2 rfl) 0).trans rfl, (blk_cell (HC.out.at_ 2 rfl) 1).trans rfl, (blk_cell (HC.out.at_ 2 rfl) 2).trans rfl, (blk_cell (HC.out.at_ 2 rfl) 3).trans rfl, (blk_cell (HC.out.at_ 6 rfl) 0).trans rfl, (blk_cell (HC.out.at_ 6 rfl) 1).trans rfl, (blk_cell (HC.out.at_ 6 rfl) 2).trans rfl, (blk_cell (HC.out.at_ 6 rfl) 3).trans rfl⟩ (fun hHeld => ?_)
  clear hK K
  refine norm_ (a' := ?_) ?_ ?_
  rotate_left
  · show Act.put _ (some 47) _ = _
    simp only [Act.put, List.setIfInBounds_toArray, List.set_cons_zero, List.set_cons_succ, i64_w, i32_w]
    rfl
  refine one_ (i := 3) (N := some 48) #[true, true, true, true, false] rfl rfl (by kernel_rfl) (by decide) (fun K hK => ?_)
  refine goes_ Try.func15 (by kernel_rfl) rfl #[.agg #[.int .i64 x7, .slice A42 x8.length c43, .slice A44 x9.length c45, .slice A46 x10.length c47], .agg #[.int .i64 x7, .slice A84 x8.length c85, .slice A86 x9.length c87, .slice A88 x10.length c89]] (by rfl) rfl rfl (by (try simp only [List.map_toArray, List.map_cons, List.map_nil]); first | done | rfl | (simp only [List.length_drop, List.length_take]; rfl)) ?_
  refine (laws_eqReaders.calls k x7 _ _ x8 _ _ x9 _ _ x10 x7 _ _ x8 _ _ x9 _ _ x10 true _ (Kd.S_reads' (HC.out.at_ 3 rfl).1).2.2 (Kd.S_reads' (HC.out.at_ 3 rfl).1).2.1 (Kd.R_reads' (HC.out.at_ 3 rfl).2.1).2.2 (Kd.R_reads' (HC.out.at_ 3 rfl).2.1).2.1 (Kd.R_reads' (HC.out.at_ 3 rfl).2.2).2.2 (Kd.R_reads' (HC.out.at_ 3 rfl).2.2).2.1 (Kd.S_reads' (HC.out.at_ 0 rfl).1).2.2 (Kd.S_reads' (HC.out.at_ 0 rfl).1).2.1 (Kd.R_reads' (HC.out.at_ 0 rfl).2.1).2.2 (Kd.R_reads' (HC.out.at_ 0 rfl).2.1).2.1 (Kd.R_reads' (HC.out.at_ 0 rfl).2.2).2.2 (Kd.R_reads' (HC.out.at_ 0 rfl).2.2).2.1 E92.out).mono ?_
  rintro e w9 ⟨rfl, hb⟩
  refine ⟨_, rfl, ?_⟩
  replace HC := Aside0.mk (HC.out.below hb)
  clear hb
  refine hK.out _ _ ⟨(blk_cell (HC.out.at_ 2 rfl) 0).trans rfl, (blk_cell (HC.out.at_ 2 rfl) 1).trans rfl, (blk_cell (HC.out.at_ 2 rfl) 2).trans rfl, (blk_cell (HC.out.at_ 2 rfl) 3).trans rfl, (blk_cell (HC.out.at_ 6 rfl) 0).trans rfl, (blk_cell (HC.out.at_ 6 rfl) 1).trans rfl, (blk_cell (HC.out.at_ 6 rfl) 2).trans rfl, (blk_cell (HC.out.at_ 6 rfl) 3).trans rfl⟩ (fun hHeld => ?_)
  clear hK K
  refine norm_ (a' := ?_) ?_ ?_
  rotate_left
  · show Act.put _ (some 48) _ = _
    simp only [Act.put, List.setIfInBounds_toArray, List.set_cons_zero, List.set_cons_succ, i64_w, i32_w]
    rfl
  refine pure_ (i := 4) (N := some 49) (v := ?_) (a' := ?_) #[true, true, true, true, true] rfl rfl (by kernel_rfl) (fun _ _ _ h => h) (Or.inl ⟨by rfl, ?_⟩) ?_ ?_
  rotate_left
  · intro w'
    go_simp
    with_reducible rfl
  rotate_left
  · simp only [Act.put, List.setIfInBounds_toArray, List.set_cons_zero, List.set_cons_succ, i64_w, i32_w]
    rfl
  refine done_ (by kernel_rfl) ?_
  clear b73 b74 b75 b76 b77 b78 b79 b80
  have b93 := (blk_cell (HC.out.at_ 2 rfl) 0).trans rfl
  have b94 := (blk_cell (HC.out.at_ 2 rfl) 1).trans rfl
  have b95 := (blk_cell (HC.out.at_ 2 rfl) 2).trans rfl
  have b96 := (blk_cell (HC.out.at_ 2 rfl) 3).trans rfl
  have b97 := (blk_cell (HC.out.at_ 6 rfl) 0).trans rfl
  have b98 := (blk_cell (HC.out.at_ 6 rfl) 1).trans rfl
  have b99 := (blk_cell (HC.out.at_ 6 rfl) 2).trans rfl
  have b100 := (blk_cell (HC.out.at_ 6 rfl) 3).trans rfl
  go_wp2_with fail
  obtain ⟨ms1_0, mp1_0, mq1_0, mt1_0, mn1_0, mg1_0, mf1_0, md1_0⟩ := row_S brReader (HC.out.at_ 3 rfl).1
  obtain ⟨ms1_1, mp1_1, mq1_1, mt1_1, mn1_1, mg1_1, mf1_1, md1_1⟩ := row_R Br.int (HC.out.at_ 3 rfl).2.1
  obtain ⟨ms1_2, mp1_2, mq1_2, mt1_2, mn1_2, mg1_2, mf1_2, md1_2⟩ := row_R Br.int (HC.out.at_ 3 rfl).2.2
  refine (markReaders_ok _ ms1_0 mp1_0 _ ms1_1 mp1_1 _ ms1_2 mp1_2 x7 1 _ mq1_0 mq1_1 mq1_2 mt1_0 mt1_1 mt1_2 (by decide) (by rw [List.length_append, List.length_append, mn1_0, mn1_1, mn1_2]; have := hB0.out; have := hB1.out; have := hB2.out;  omega)).mono ?_
  rintro e w10 ⟨rfl, hw⟩
  replace HC := Aside0.mk (Ch.wr0 (L1 := [_, _, _]) HC.out hw (fun p h => by (try simp only [List.append_assoc] at h); exact (List.mem_append.1 h).elim (fun h => (mf1_0 p h).1) (fun h => (List.mem_append.1 h).elim (fun h => (mf1_1 p h).1) (fun h => (mf1_2 p h).1))))
  obtain ⟨km1, hkm⟩ : ∃ km_ : Int, km_ = 1 + ((mp1_0 ++ mp1_1 ++ mp1_2).length : Int) := ⟨_, rfl⟩
  rw [← hkm]
  have km1p : Aside0 (0 ≤ km1) := ⟨by  omega⟩
  have km1b : Aside0 (km1 ≤ 400000001) := ⟨by rw [hkm]; rw [List.length_append, List.length_append, mn1_0, mn1_1, mn1_2]; have := hB0.out; have := hB1.out; have := hB2.out;  omega⟩
  have hd_km1 : decide (km1 < 0) = false := decide_eq_false (by have := km1p.out; omega)
  clear hkm hw ms1_0 mq1_0 mt1_0 mn1_0 mg1_0 mf1_0 md1_0 ms1_1 mq1_1 mt1_1 mn1_1 mg1_1 mf1_1 md1_1 ms1_2 mq1_2 mt1_2 mn1_2 mg1_2 mf1_2 md1_2 
  clear b93 b94 b95 b96 b97 b98 b99 b100
  have b101 := (blk_cell (HC.out.at_ 2 rfl) 0).trans rfl
  have b102 := (blk_cell (HC.out.at_ 2 rfl) 1).trans rfl
  have b103 := (blk_cell (HC.out.at_ 2 rfl) 2).trans rfl
  have b104 := (blk_cell (HC.out.at_ 2 rfl) 3).trans rfl
  have b105 := (blk_cell (HC.out.at_ 6 rfl) 0).trans rfl
  have b106 := (blk_cell (HC.out.at_ 6 rfl) 1).trans rfl
  have b107 := (blk_cell (HC.out.at_ 6 rfl) 2).trans rfl
  have b108 := (blk_cell (HC.out.at_ 6 rfl) 3).trans rfl
  go_wp2_with fail
  refine (laws_eqIntS.calls k _ _ r27 _ _ r27 true _ (Kd.R_reads' (HC.out.at_ 1 rfl)).2.2 (Kd.R_reads' (HC.out.at_ 1 rfl)).2.1 (Kd.R_reads' (HC.out.at_ 4 rfl)).2.2 (Kd.R_reads' (HC.out.at_ 4 rfl)).2.1 E72.out).mono ?_
  rintro e w11 ⟨rfl, hb⟩
  replace HC := Aside0.mk (HC.out.drawn hb)
  clear hb
  clear b101 b102 b103 b104 b105 b106 b107 b108
  have b109 := (blk_cell (HC.out.at_ 2 rfl) 0).trans rfl
  have b110 := (blk_cell (HC.out.at_ 2 rfl) 1).trans rfl
  have b111 := (blk_cell (HC.out.at_ 2 rfl) 2).trans rfl
  have b112 := (blk_cell (HC.out.at_ 2 rfl) 3).trans rfl
  have b113 := (blk_cell (HC.out.at_ 6 rfl) 0).trans rfl
  have b114 := (blk_cell (HC.out.at_ 6 rfl) 1).trans rfl
  have b115 := (blk_cell (HC.out.at_ 6 rfl) 2).trans rfl
  have b116 := (blk_cell (HC.out.at_ 6 rfl) 3).trans rfl
  go_wp2_with fail
  obtain ⟨ms2_0, mp2_0, mq2_0, mt2_0, mn2_0, mg2_0, mf2_0, md2_0⟩ := row_R Br.int (HC.out.at_ 1 rfl)
  refine (markIntS_ok _ ms2_0 mp2_0  1 _ mq2_0 mt2_0 (by decide) (by rw [mn2_0]; have := hB3.out;  omega)).mono ?_
  rintro e w12 ⟨rfl, hw⟩
  have mT : Pt w12 (ms2_0) (mp2_0) := (mt2_0).wr hw (mt2_0).a
  have mA : apart (mp2_0) := (md2_0 (fun _ _ => trivial) (fun _ _ => rfl))
  have mH := hw.hs mA (mt2_0).a
  replace HC := Aside0.mk (Ch.wr (L1 := [_]) HC.out hw (fun p hp => (mf2_0 p hp).1) (foot_and (foot_pt mT mg2_0 (fun p hp => (mf2_0 p hp).1)) (foot_hs mH (fun p hp => (mf2_0 p hp).1))))
  have hl2 : Aside0 (1 + ((mp2_0).length : Int) ≤ 1000000000) := ⟨by rw [mn2_0]; have := hB3.out; omega⟩
  have Qmq2_0 := Aside0.mk mq2_0
  obtain ⟨km2, hkm⟩ : ∃ km_ : Int, km_ = 1 + ((mp2_0).length : Int) := ⟨_, rfl⟩
  have HK2 := Aside0.mk hkm
  rw [← hkm]
  have hd_km2 : decide (km2 < 0) = false := decide_eq_false (by omega)
  clear hkm hw mT mA mH mq2_0 mt2_0 mn2_0 mg2_0 mf2_0 md2_0
  clear b109 b110 b111 b112 b113 b114 b115 b116
  have b117 := (blk_cell (HC.out.at_ 2 rfl) 0).trans rfl
  have b118 := (blk_cell (HC.out.at_ 2 rfl) 1).trans rfl
  have b119 := (blk_cell (HC.out.at_ 2 rfl) 2).trans rfl
  have b120 := (blk_cell (HC.out.at_ 2 rfl) 3).trans rfl
  have b121 := (blk_cell (HC.out.at_ 6 rfl) 0).trans rfl
  have b122 := (blk_cell (HC.out.at_ 6 rfl) 1).trans rfl
  have b123 := (blk_cell (HC.out.at_ 6 rfl) 2).trans rfl
  have b124 := (blk_cell (HC.out.at_ 6 rfl) 3).trans rfl
  go_wp2_with fail
  refine (heldIntS_ok _ ms2_0 mp2_0  1 _ Qmq2_0.out (HC.out.at_ 1 rfl).1 (HC.out.at_ 1 rfl).2 (by decide) (by  exact hl2.out)).mono ?_
  rintro e w13 ⟨rfl, hb⟩
  replace HC := Aside0.mk (HC.out.below hb)
  rw [← HK2.out]
  clear hb
  clear b117 b118 b119 b120 b121 b122 b123 b124
  have b125 := (blk_cell (HC.out.at_ 2 rfl) 0).trans rfl
  have b126 := (blk_cell (HC.out.at_ 2 rfl) 1).trans rfl
  have b127 := (blk_cell (HC.out.at_ 2 rfl) 2).trans rfl
  have b128 := (blk_cell (HC.out.at_ 2 rfl) 3).trans rfl
  have b129 := (blk_cell (HC.out.at_ 6 rfl) 0).trans rfl
  have b130 := (blk_cell (HC.out.at_ 6 rfl) 1).trans rfl
  have b131 := (blk_cell (HC.out.at_ 6 rfl) 2).trans rfl
  have b132 := (blk_cell (HC.out.at_ 6 rfl) 3).trans rfl
  go_wp2_with fail
  refine (laws_toReaders.calls k a0_0 _ _ l0_1 _ _ l0_2 _ _ l0_3 x7 x8 x9 x10 _ (Kd.C_below HR0_1.out HC.out.b) hc0_1 (Kd.C_below HR0_2.out HC.out.b) hc0_2 (Kd.C_below HR0_3.out HC.out.b) hc0_3 E11.out).mono ?_
  rintro e w14 ⟨v133, v134, v135, rfl, ho0, ho1, ho2, hb⟩
  obtain ⟨A136, c137, rfl⟩ := Kd.S_slice ho0
  obtain ⟨A138, c139, rfl⟩ := Kd.R_slice ho1
  obtain ⟨A140, c141, rfl⟩ := Kd.R_slice ho2
  obtain ⟨lo142, hi143, HC'⟩ := HC.out.push hb (Q := fun lo hi U => Kd.S k71 71 U lo (Bt lo hi) (.slice A136 x8.length c137) x8 ∧ Kd.R (Kd.int .i64) 3 U lo (Bt lo hi) (.slice A138 x9.length c139) x9 ∧ Kd.R (Kd.int .i64) 3 U lo (Bt lo hi) (.slice A140 x10.length c141) x10) (foot_and (foot_S (in_S ho0)) (foot_and (foot_R (in_R ho1)) (foot_R (in_R ho2))))
  replace HC := Aside0.mk HC'
  clear HC' hb ho0 ho1 ho2
  clear b125 b126 b127 b128 b129 b130 b131 b132
  have b144 := (blk_cell (HC.out.at_ 3 rfl) 0).trans rfl
  have b145 := (blk_cell (HC.out.at_ 3 rfl) 1).trans rfl
  have b146 := (blk_cell (HC.out.at_ 3 rfl) 2).trans rfl
  have b147 := (blk_cell (HC.out.at_ 3 rfl) 3).trans rfl
  have b148 := (blk_cell (HC.out.at_ 7 rfl) 0).trans rfl
  have b149 := (blk_cell (HC.out.at_ 7 rfl) 1).trans rfl
  have b150 := (blk_cell (HC.out.at_ 7 rfl) 2).trans rfl
  have b151 := (blk_cell (HC.out.at_ 7 rfl) 3).trans rfl
  go_wp2_with fail
  refine (impl_ShareOf.calls k x7 _ _ x8 _ _ x9 _ _ x10 a1 r27 r28 _ (Kd.S_reads' (HC.out.at_ 0 rfl).1).2.2 (Kd.S_reads' (HC.out.at_ 0 rfl).1).2.1 (Kd.R_reads' (HC.out.at_ 0 rfl).2.1).2.2 (Kd.R_reads' (HC.out.at_ 0 rfl).2.1).2.1 (Kd.R_reads' (HC.out.at_ 0 rfl).2.2).2.2 (Kd.R_reads' (HC.out.at_ 0 rfl).2.2).2.1 E58.out).mono ?_
  rintro e w15 ⟨v152, rfl, ho0, hb⟩
  obtain ⟨A153, c154, rfl⟩ := Kd.R_slice ho0
  obtain ⟨lo155, hi156, HC'⟩ := HC.out.push hb (Q := fun lo hi U => Kd.R (Kd.int .i64) 3 U lo (Bt lo hi) (.slice A153 r27.length c154) r27) (foot_R (in_R ho0))
  replace HC := Aside0.mk HC'
  clear HC' hb ho0
  clear b144 b145 b146 b147 b148 b149 b150 b151
  have b157 := (blk_cell (HC.out.at_ 4 rfl) 0).trans rfl
  have b158 := (blk_cell (HC.out.at_ 4 rfl) 1).trans rfl
  have b159 := (blk_cell (HC.out.at_ 4 rfl) 2).trans rfl
  have b160 := (blk_cell (HC.out.at_ 4 rfl) 3).trans rfl
  have b161 := (blk_cell (HC.out.at_ 8 rfl) 0).trans rfl
  have b162 := (blk_cell (HC.out.at_ 8 rfl) 1).trans rfl
  have b163 := (blk_cell (HC.out.at_ 8 rfl) 2).trans rfl
  have b164 := (blk_cell (HC.out.at_ 8 rfl) 3).trans rfl
  go_wp2_with fail
  refine (laws_eqIntS.calls k _ _ r27 _ _ r27 true _ (Kd.R_reads' (HC.out.at_ 0 rfl)).2.2 (Kd.R_reads' (HC.out.at_ 0 rfl)).2.1 (Kd.R_reads' (HC.out.at_ 6 rfl)).2.2 (Kd.R_reads' (HC.out.at_ 6 rfl)).2.1 E72.out).mono ?_
  rintro e w16 ⟨rfl, hb⟩
  replace HC := Aside0.mk (HC.out.drawn hb)
  clear hb
  clear b157 b158 b159 b160 b161 b162 b163 b164
  have b165 := (blk_cell (HC.out.at_ 4 rfl) 0).trans rfl
  have b166 := (blk_cell (HC.out.at_ 4 rfl) 1).trans rfl
  have b167 := (blk_cell (HC.out.at_ 4 rfl) 2).trans rfl
  have b168 := (blk_cell (HC.out.at_ 4 rfl) 3).trans rfl
  have b169 := (blk_cell (HC.out.at_ 8 rfl) 0).trans rfl
  have b170 := (blk_cell (HC.out.at_ 8 rfl) 1).trans rfl
  have b171 := (blk_cell (HC.out.at_ 8 rfl) 2).trans rfl
  have b172 := (blk_cell (HC.out.at_ 8 rfl) 3).trans rfl
  go_wp2_with fail
  refine (heldIntS_ok _ ms2_0 mp2_0  1 _ Qmq2_0.out (HC.out.at_ 3 rfl).1 (HC.out.at_ 3 rfl).2 (by decide) (by  exact hl2.out)).mono ?_
  rintro e w17 ⟨rfl, hb⟩
  replace HC := Aside0.mk (HC.out.below hb)
  rw [← HK2.out]
  clear hb
  clear b165 b166 b167 b168 b169 b170 b171 b172
  have b173 := (blk_cell (HC.out.at_ 4 rfl) 0).trans rfl
  have b174 := (blk_cell (HC.out.at_ 4 rfl) 1).trans rfl
  have b175 := (blk_cell (HC.out.at_ 4 rfl) 2).trans rfl
  have b176 := (blk_cell (HC.out.at_ 4 rfl) 3).trans rfl
  have b177 := (blk_cell (HC.out.at_ 8 rfl) 0).trans rfl
  have b178 := (blk_cell (HC.out.at_ 8 rfl) 1).trans rfl
  have b179 := (blk_cell (HC.out.at_ 8 rfl) 2).trans rfl
  have b180 := (blk_cell (HC.out.at_ 8 rfl) 3).trans rfl
  go_wp2
  go_ret
  exact ⟨rfl, HC.out.b⟩
set_option maxHeartbeats 8000000 in
set_option maxRecDepth 100000 in
theorem FnExactShareOf_out0 (k : Nat) (a0_0 : Int) (A0_1 : Option Addr) (c0_1 : Nat) (l0_1 : List S104) (A0_2 : Option Addr) (c0_2 : Nat) (l0_2 : List Int) (A0_3 : Option Addr) (c0_3 : Nat) (l0_3 : List Int) (a1 : Int) (w : World) (hr0_1 : Kd.C k104 w A0_1 l0_1.length l0_1) (hc0_1 : l0_1.length ≤ c0_1) (hr0_2 : Kd.C (Kd.int .i64) w A0_2 l0_2.length l0_2) (hc0_2 : l0_2.length ≤ c0_2) (hr0_3 : Kd.C (Kd.int .i64) w A0_3 l0_3.length l0_3) (hc0_3 : l0_3.length ≤ c0_3) (z1 : Int) (eE2 : laws_szReaders.f k a0_0 l0_1 l0_2 l0_3 1048576 = some z1)  (hz : z1 < 0)  :
    Calls Try.prog 11 #[.agg #[.int .i64 a0_0, .slice A0_1 l0_1.length c0_1, .slice A0_2 l0_2.length c0_2, .slice A0_3 l0_3.length c0_3], .int .i64 a1] w fun e w' => e = .returned (.bool true) ∧ Below w.heap.size w w' := by
  have hu25 := Try.underlying25
  have hu54 := Try.underlying54
  have HR0_1 := Aside0.mk hr0_1
  clear hr0_1
  have HR0_2 := Aside0.mk hr0_2
  clear hr0_2
  have HR0_3 := Aside0.mk hr0_3
  clear hr0_3
  have HC := Aside0.mk (Ch.start w)
  have E2 := Aside0.mk eE2
  clear eE2
  go_enter Try.func11, Try.ntmps11
  go_wp2_with fail
  replace HC := Aside0.mk (HC.out.box (.cells #[.int .i64 a0_0, .slice A0_1 l0_1.length c0_1, .slice A0_2 l0_2.length c0_2, .slice A0_3 l0_3.length c0_3] 54))
  refine (laws_szReaders.calls k a0_0 _ _ l0_1 _ _ l0_2 _ _ l0_3 1048576 z1 _ (Kd.C_below HR0_1.out HC.out.b) hc0_1 (Kd.C_below HR0_2.out HC.out.b) hc0_2 (Kd.C_below HR0_3.out HC.out.b) hc0_3 E2.out).mono ?_
  rintro e w1 ⟨rfl, hb⟩
  replace HC := Aside0.mk (HC.out.below hb)
  clear hb
  have hz_ : decide (z1 < 0) = true := decide_eq_true hz
  clear hz
  go_wp2
  go_ret
  exact ⟨rfl, HC.out.b⟩
def FnExactShareOf_Pure : Prop := ∀ (x0 : S54) (a1 : Int), (ok54 x0) → ((Lit.int .i64 a1).wf = true) → ∃ k : Nat, ∃ z1 : Int, laws_szReaders.f k x0.f0 x0.f1 x0.f2 x0.f3 1048576 = some z1 ∧ (z1 < 0 ∨ ¬ z1 < 0 ∧ (∃ (x7 : Int) (x8 : List (S71)) (x9 : List Int) (x10 : List Int) (r27 : List Int) (r28 : Bool), laws_toReaders.f k x0.f0 x0.f1 x0.f2 x0.f3 = some (x7, x8, x9, x10) ∧ spec_ShareOf.f k x7 x8 x9 x10 a1 = some (r27, r28) ∧ impl_ShareOf.f k x7 x8 x9 x10 a1 = some (r27, r28) ∧ laws_eqIntS.f k r27 r27 = some true ∧ laws_eqReaders.f k x7 x8 x9 x10 x7 x8 x9 x10 = some true ∧ tot pcReader x8 ≤ 100000000 ∧ tot (fun _ => 1) x9 ≤ 100000000 ∧ tot (fun _ => 1) x10 ≤ 100000000 ∧ tot (fun _ => 1) r27 ≤ 100000000))
theorem FnExactShareOf_calls (hP : FnExactShareOf_Pure) (x0 : S54) (a1 : Int) (A0_1 : Option Addr) (c0_1 : Nat) (A0_2 : Option Addr) (c0_2 : Nat) (A0_3 : Option Addr) (c0_3 : Nat) (b0 : ok54 x0) (b1 : (Lit.int .i64 a1).wf = true) (w : World) (hr0_1 : Kd.C k104 w A0_1 x0.f1.length x0.f1) (hc0_1 : x0.f1.length ≤ c0_1) (hr0_2 : Kd.C (Kd.int .i64) w A0_2 x0.f2.length x0.f2) (hc0_2 : x0.f2.length ≤ c0_2) (hr0_3 : Kd.C (Kd.int .i64) w A0_3 x0.f3.length x0.f3) (hc0_3 : x0.f3.length ≤ c0_3) :
    Calls Try.prog 11 #[.agg #[.int .i64 x0.f0, .slice A0_1 x0.f1.length c0_1, .slice A0_2 x0.f2.length c0_2, .slice A0_3 x0.f3.length c0_3], .int .i64 a1] w fun e w' => e = .returned (.bool true) ∧ Below w.heap.size w w' := by
  obtain ⟨k, hk⟩ := hP x0 a1 b0 b1
  obtain ⟨z1, eE2, hk⟩ := hk
  rcases hk with hz | ⟨hz_z1n, hk⟩
  · exact FnExactShareOf_out0 k x0.f0 A0_1 c0_1 x0.f1 A0_2 c0_2 x0.f2 A0_3 c0_3 x0.f3 a1 w hr0_1 hc0_1 hr0_2 hc0_2 hr0_3 hc0_3 z1 eE2  hz 
  obtain ⟨x7, x8, x9, x10, r27, r28, eE11, eE29, eE58, eE72, eE92, hB0_, hB1_, hB2_, hB3_⟩ := hk
  exact FnExactShareOf_law k x0.f0 A0_1 c0_1 x0.f1 A0_2 c0_2 x0.f2 A0_3 c0_3 x0.f3 a1 w hr0_1 hc0_1 hr0_2 hc0_2 hr0_3 hc0_3 z1 eE2 hz_z1n x7 x8 x9 x10 r27 r28 eE11 eE29 eE58 eE72 eE92 hB0_ hB1_ hB2_ hB3_ 
end Go.Proofs.Ytfdgmknjmljhbaa.Mk
end
section
namespace Go.Proofs.Ytfdgmknjmljhbaa.Pl
open Go.RowKit Go.Proofs.YtfdgmknjmljhbaaW.PrintWords Go.Proofs.YtfdgmknjmljhbaaW.PrintLast Go.Proofs.YtfdgmknjmljhbaaW.PrintMore
theorem wrap_in {x : Int} (h0 : -9223372036854775808 ≤ x) (h1 : x ≤ 9223372036854775807) : wrap64 x = x := by
  unfold wrap64
  omega
theorem wrap_len {n m : Nat} (h : n < m) (hm : m ≤ 4611686018427387904) : wrap64 ((n : Int) + 1) = ((n + 1 : Nat) : Int) := by
  rw [wrap_in (by omega) (by omega)]
  omega
theorem round {k d : Nat} (h : d < k) : ∃ m, k = m + 1 := ⟨k - 1, by omega⟩
theorem rd_mid (pre : List Int) (h : Int) (t : List Int) : rd (pre ++ h :: t) (pre.length : Int) = h := by
  simp [rd]
theorem rd_at {pre t l : List Int} {h : Int} (e : pre ++ h :: t = l) : rd l (pre.length : Int) = h := by
  rw [← e]; exact rd_mid pre h t
theorem len_mid {α : Type} {pre t : List α} {h : α} {l : List α} (e : pre ++ h :: t = l) : pre.length < l.length := by
  rw [← e]; simp
theorem app_mid {α : Type} {pre t : List α} {h : α} {l : List α} (e : pre ++ h :: t = l) : (pre ++ [h]) ++ t = l := by
  rw [← e]; simp
theorem len_one {α : Type} (pre : List α) (h : α) : (pre ++ [h]).length = pre.length + 1 := by simp
theorem rd_last {pre rest l : List Int} {p : Int} (e : pre ++ rest = l) (h : pre.getLast? = some p) : 0 < pre.length ∧ rd l ((pre.length : Int) - 1) = p := by
  obtain ⟨q, rfl⟩ := List.getLast?_eq_some_iff.1 h
  refine ⟨by simp, ?_⟩
  have h2 : q ++ [p] ++ rest = q ++ p :: rest := by simp
  rw [← e, h2, len_one, show (((q.length + 1 : Nat) : Int) - 1) = (q.length : Int) by omega]
  exact rd_mid q p rest
theorem no_last {α : Type} {pre : List α} (h : pre.getLast? = none) : pre = [] := by
  simpa using h
end Go.Proofs.Ytfdgmknjmljhbaa.Pl
end
section
namespace Go.Proofs.Ytfdgmknjmljhbaa.EvN
def Cm {α : Type} (f : Nat → Option α) (v : α) : Prop := ∃ K, ∀ k, K ≤ k → f k = some v
theorem cm_now {α : Type} {f : Nat → Option α} {v : α} (h : ∀ k, f k = some v) : Cm f v := ⟨0, fun k _ => h k⟩
theorem cm_step {α : Type} {f g : Nat → Option α} {v : α} (h : ∀ k, f (k + 1) = g k) (hg : Cm g v) : Cm f v := by
  obtain ⟨K, hK⟩ := hg
  refine ⟨K + 1, fun k hk => ?_⟩
  obtain ⟨m, rfl⟩ : ∃ m, k = m + 1 := ⟨k - 1, by omega⟩
  rw [h, hK m (by omega)]
theorem cm_same {α : Type} {f g : Nat → Option α} {v : α} (h : ∀ k, f k = g k) (hg : Cm g v) : Cm f v := by
  obtain ⟨K, hK⟩ := hg
  exact ⟨K, fun k hk => by rw [h, hK k hk]⟩
theorem cm_bind {α β : Type} {a : Nat → Option α} {t : α} {g : Nat → α → Option β} {v : β} (ha : Cm a t) (hg : Cm (fun k => g k t) v) : Cm (fun k => (a k).bind (g k)) v := by
  obtain ⟨K, hK⟩ := ha
  obtain ⟨M, hM⟩ := hg
  exact ⟨K + M, fun k hk => by simp only [hK k (by omega)]; exact hM k (by omega)⟩
theorem cm_yes {α : Type} {c : Prop} [Decidable c] {x y : Nat → Option α} {v : α} (h : c) (h2 : Cm x v) : Cm (fun k => if c then x k else y k) v :=
  cm_same (fun _ => if_pos h) h2
theorem cm_no {α : Type} {c : Prop} [Decidable c] {x y : Nat → Option α} {v : α} (h : ¬ c) (h2 : Cm y v) : Cm (fun k => if c then x k else y k) v :=
  cm_same (fun _ => if_neg h) h2
end Go.Proofs.Ytfdgmknjmljhbaa.EvN
end
section
namespace Go.Proofs.Ytfdgmknjmljhbaa.Lp
open Go.RowKit Go.Proofs.YtfdgmknjmljhbaaW.PrintWords
open Go.Proofs.Ytfdgmknjmljhbaa.Pl Go.Proofs.Ytfdgmknjmljhbaa.EvN
def okFrom {α : Type} (p : List α → α → Bool) : List α → List α → Bool
  | _, [] => true
  | pre, h :: t => p pre h && okFrom p (pre ++ [h]) t
theorem all_cm {α ρ : Type} {L : Nat → Int → Option ρ} (xs : List α) (p : List α → α → Bool) {fin no : ρ}
    (hstep : ∀ pre h t, pre ++ h :: t = xs → pre.length < xs.length → p pre h = true → ∀ v, Cm (fun k => L k ((pre.length + 1 : Nat) : Int)) v → Cm (fun k => L k (pre.length : Int)) v)
    (hno : ∀ pre h t, pre ++ h :: t = xs → pre.length < xs.length → p pre h = false → Cm (fun k => L k (pre.length : Int)) no)
    (hend : okFrom p [] xs = true → Cm (fun k => L k (xs.length : Int)) fin) : Cm (fun k => L k 0) (if okFrom p [] xs = true then fin else no) := by
  have key : ∀ (rest pre : List α), pre ++ rest = xs → (okFrom p pre rest = okFrom p [] xs) → Cm (fun k => L k (pre.length : Int)) (if okFrom p pre rest = true then fin else no) := by
    intro rest
    induction rest with
    | nil =>
      intro pre e h
      rw [List.append_nil] at e
      subst e
      simp only [okFrom, if_true] at h ⊢
      exact hend h.symm
    | cons x t ih =>
      intro pre e h
      by_cases c : p pre x = true
      · have h2 : okFrom p pre (x :: t) = okFrom p (pre ++ [x]) t := by simp only [okFrom, c, Bool.true_and]
        rw [h2] at h ⊢
        have h3 := ih (pre ++ [x]) (app_mid e) h
        rw [len_one] at h3
        exact hstep pre x t e (len_mid e) c _ h3
      · have c2 : p pre x = false := by simpa using c
        have h2 : okFrom p pre (x :: t) = false := by simp only [okFrom, c2, Bool.false_and]
        rw [h2]
        simpa using hno pre x t e (len_mid e) c2
  exact key xs [] rfl rfl
theorem okFrom_all {α : Type} (p : α → Bool) : ∀ (rest pre : List α), okFrom (fun _ h => p h) pre rest = rest.all p
  | [], _ => rfl
  | x :: t, pre => by simp only [okFrom, List.all_cons, okFrom_all p t]
theorem every_cm {α ρ : Type} {L : Nat → Int → Option ρ} (xs : List α) (p : α → Bool) {fin no : ρ}
    (hstep : ∀ pre h t, pre ++ h :: t = xs → pre.length < xs.length → p h = true → ∀ v, Cm (fun k => L k ((pre.length + 1 : Nat) : Int)) v → Cm (fun k => L k (pre.length : Int)) v)
    (hno : ∀ pre h t, pre ++ h :: t = xs → pre.length < xs.length → p h = false → Cm (fun k => L k (pre.length : Int)) no)
    (hend : xs.all p = true → Cm (fun k => L k (xs.length : Int)) fin) : Cm (fun k => L k 0) (if xs.all p = true then fin else no) := by
  have := all_cm (L := L) xs (fun _ h => p h) hstep hno (by rw [okFrom_all]; exact hend)
  rw [okFrom_all] at this
  exact this
def foundAt {α ρ : Type} (p : α → Bool) (found : Nat → α → ρ) (none_ : ρ) : Nat → List α → ρ
  | _, [] => none_
  | i, h :: t => if p h = true then found i h else foundAt p found none_ (i + 1) t
theorem find_cm {α ρ : Type} {L : Nat → Int → Option ρ} (xs : List α) (p : α → Bool) (found : Nat → α → ρ) {none_ : ρ}
    (hstep : ∀ pre h t, pre ++ h :: t = xs → pre.length < xs.length → p h = false → ∀ v, Cm (fun k => L k ((pre.length + 1 : Nat) : Int)) v → Cm (fun k => L k (pre.length : Int)) v)
    (hyes : ∀ pre h t, pre ++ h :: t = xs → pre.length < xs.length → p h = true → Cm (fun k => L k (pre.length : Int)) (found pre.length h))
    (hend : Cm (fun k => L k (xs.length : Int)) none_) : Cm (fun k => L k 0) (foundAt p found none_ 0 xs) := by
  have key : ∀ (rest pre : List α), pre ++ rest = xs → Cm (fun k => L k (pre.length : Int)) (foundAt p found none_ pre.length rest) := by
    intro rest
    induction rest with
    | nil =>
      intro pre e
      rw [List.append_nil] at e
      subst e
      exact hend
    | cons x t ih =>
      intro pre e
      unfold foundAt
      by_cases c : p x = true
      · rw [if_pos c]
        exact hyes pre x t e (len_mid e) c
      · rw [if_neg c]
        have h3 := ih (pre ++ [x]) (app_mid e)
        rw [len_one] at h3
        exact hstep pre x t e (len_mid e) (by simpa using c) _ h3
  exact key xs [] rfl
theorem found_any {α : Type} (p : α → Bool) : ∀ (l : List α) (i : Nat), decide (foundAt p (fun i _ => (i : Int)) (-1) i l ≥ 0) = l.any p
  | [], _ => by simp [foundAt]
  | h :: t, i => by
    unfold foundAt
    by_cases c : p h = true
    · rw [if_pos c]; simp [c]
    · rw [if_neg c, found_any p t (i + 1)]; simp [c]
theorem same_cm {α ρ : Type} {L : Nat → Int → Option ρ} (xs : List α) {fin : ρ}
    (hstep : ∀ pre h t, pre ++ h :: t = xs → pre.length < xs.length → ∀ v, Cm (fun k => L k ((pre.length + 1 : Nat) : Int)) v → Cm (fun k => L k (pre.length : Int)) v)
    (hend : Cm (fun k => L k (xs.length : Int)) fin) : Cm (fun k => L k 0) fin := by
  have := every_cm (L := L) xs (fun _ => true) (fin := fin) (no := fin) (fun pre h t e hl _ => hstep pre h t e hl) (fun _ _ _ _ _ hp => by cases hp) (fun _ => hend)
  have h : (xs.all fun _ => true) = true := by simp
  rw [if_pos h] at this
  exact this
theorem map_cm {α β : Type} {L : Nat → Int → List β → Option (List β)} (xs : List α) (c : α → β) (z : β)
    (hstep : ∀ pre h t acc, pre ++ h :: t = xs → pre.length < xs.length → acc.length = xs.length → ∀ u, Cm (fun k => L k ((pre.length + 1 : Nat) : Int) (acc.set pre.length (c h))) u → Cm (fun k => L k (pre.length : Int) acc) u)
    (hend : ∀ acc, acc.length = xs.length → Cm (fun k => L k (xs.length : Int) acc) acc) : Cm (fun k => L k 0 (List.replicate xs.length z)) (xs.map c) := by
  have key : ∀ (rest pre : List α) (tl : List β), pre ++ rest = xs → tl.length = rest.length → Cm (fun k => L k (pre.length : Int) (pre.map c ++ tl)) (xs.map c) := by
    intro rest
    induction rest with
    | nil =>
      intro pre tl e ht
      have ht2 : tl = [] := List.length_eq_zero_iff.1 ht
      rw [List.append_nil] at e
      subst ht2 e
      rw [List.append_nil]
      exact hend _ (by simp)
    | cons h t ih =>
      intro pre tl e ht
      match tl, ht with
      | y :: tl, ht =>
        refine hstep pre h t _ e (len_mid e) (by rw [← e]; simp at ht ⊢; omega) _ ?_
        have e2 : (pre.map c ++ y :: tl).set pre.length (c h) = (pre ++ [h]).map c ++ tl := by
          have : pre.length = (pre.map c).length := by simp
          rw [this]
          simp
        rw [e2]
        have := ih (pre ++ [h]) tl (app_mid e) (by simpa using ht)
        rw [len_one] at this
        exact this
  have := key xs [] (List.replicate xs.length z) rfl (by simp)
  simpa using this
theorem cm_if {α : Type} {c : Prop} [Decidable c] {x y : Nat → Option α} {v : α} (h : c → Cm x v) (h2 : ¬ c → Cm y v) : Cm (fun k => if c then x k else y k) v := by
  by_cases hc : c
  · exact cm_yes hc (h hc)
  · exact cm_no hc (h2 hc)
theorem getD_at {α : Type} {pre t l : List α} {h : α} (e : pre ++ h :: t = l) (d : α) : l.getD ((pre.length : Int)).toNat d = h := by
  rw [← e]; simp
theorem wrap_less {n : Nat} (h : 0 < n) (hm : n ≤ 4611686018427387904) : wrap64 ((n : Int) - 1) = (n : Int) - 1 := wrap_in (by omega) (by omega)
theorem cm_val {α : Type} {f : Nat → Option α} {u v : α} (h : Cm f u) (e : u = v) : Cm f v := e ▸ h
end Go.Proofs.Ytfdgmknjmljhbaa.Lp
end
section
namespace Go.Proofs.Ytfdgmknjmljhbaa.Hs
open Go.RowKit Go.Proofs.Ytfdgmknjmljhbaa.P Go.Proofs.YtfdgmknjmljhbaaW.PrintWords Go.Proofs.YtfdgmknjmljhbaaW.PrintLast Go.Proofs.YtfdgmknjmljhbaaW.PrintMore
open Go.Proofs.Ytfdgmknjmljhbaa.Pl Go.Proofs.Ytfdgmknjmljhbaa.EvN Go.Proofs.Ytfdgmknjmljhbaa.Lp
set_option linter.unusedSimpArgs false
set_option linter.unusedVariables false
theorem toIntS_f (l : List Int) (h : l.length * 8 ≤ 140737488351232) : Cm (fun k => laws_toIntS.f k l) l := by
  unfold laws_toIntS.f
  refine cm_yes (by omega) (cm_yes (by omega) ?_)
  have := map_cm (L := fun k i s => laws_toIntS.l0 k l s i) l (fun x => x) 0 ?_ ?_
  · simpa using this
  · intro pre x t acc e hlt ha u hu
    refine cm_step (fun k => by rw [laws_toIntS.l0]) ?_
    simp only [rd_at e, wrap_len hlt (show l.length ≤ 4611686018427387904 by omega), Int.toNat_natCast]
    repeat (first | assumption | exact cm_now (fun _ => rfl) | refine cm_yes (by first | omega | assumption | (simp; done) | (simp; omega)) ?_ | refine cm_no (by first | omega | assumption | (simp; done) | (simp; omega)) ?_)
  · intro acc ha
    refine cm_step (fun k => by rw [laws_toIntS.l0]) ?_
    repeat (first | assumption | exact cm_now (fun _ => rfl) | refine cm_yes (by first | omega | assumption | (simp; done) | (simp; omega)) ?_ | refine cm_no (by first | omega | assumption | (simp; done) | (simp; omega)) ?_)
theorem eqIntS_same (l : List Int) (h : l.length ≤ 4611686018427387904) : Cm (fun k => laws_eqIntS.f k l l) true := by
  unfold laws_eqIntS.f
  refine cm_yes rfl ?_
  refine same_cm (L := fun k i => laws_eqIntS.l0 k l l i) l ?_ ?_
  · intro pre x t e hlt v hv
    refine cm_step (fun k => by rw [laws_eqIntS.l0]) ?_
    simp only [rd_at e, wrap_len hlt h]
    repeat (first | assumption | exact cm_now (fun _ => rfl) | refine cm_yes (by first | omega | assumption | (simp; done) | (simp; omega) | exact rfl) ?_ | refine cm_no (by first | omega | assumption | (simp; done) | (simp; omega) | exact rfl) ?_)
  · refine cm_step (fun k => by rw [laws_eqIntS.l0]) ?_
    repeat (first | assumption | exact cm_now (fun _ => rfl) | refine cm_yes (by first | omega | assumption | (simp; done) | (simp; omega)) ?_ | refine cm_no (by first | omega | assumption | (simp; done) | (simp; omega)) ?_)
end Go.Proofs.Ytfdgmknjmljhbaa.Hs
end
section
namespace Go.Proofs.Ytfdgmknjmljhbaa.Hg
open Go.RowKit Go.Proofs.Ytfdgmknjmljhbaa.P Go.Proofs.YtfdgmknjmljhbaaW.PrintWords Go.Proofs.YtfdgmknjmljhbaaW.PrintLast Go.Proofs.YtfdgmknjmljhbaaW.PrintMore
open Go.Proofs.Ytfdgmknjmljhbaa.Pl Go.Proofs.Ytfdgmknjmljhbaa.EvN Go.Proofs.Ytfdgmknjmljhbaa.Lp Go.Proofs.Ytfdgmknjmljhbaa.Hs
set_option linter.unusedSimpArgs false
set_option linter.unusedVariables false
theorem rdT104_at {pre t l : List S104} {h : S104} (e : pre ++ h :: t = l) : rd_T104 l (pre.length : Int) = h := getD_at e _
theorem rdT71_at {pre t l : List S71} {h : S71} (e : pre ++ h :: t = l) : rd_T71 l (pre.length : Int) = h := getD_at e _
def cReader (x : S104) : S71 := ⟨x.f0, x.f1, x.f2, x.f3⟩
def smReader (x : S71) : Prop := (True) ∧ (True) ∧ (x.f2.length ≤ 4611686018427387904) ∧ (x.f3.length ≤ 4611686018427387904)
theorem sm_cReader (x : S104) (h : ok104 x) : smReader (cReader x) := by
  obtain ⟨h0, h1, h2, h3⟩ := h
  exact ⟨trivial, trivial, by have := h2.2.1; simp only [cReader]; omega, by have := h3.2.1; simp only [cReader]; omega⟩
theorem toReader_f (x : S104) (h : ok104 x) : Cm (fun k => laws_toReader.f k x.f0 x.f1 x.f2 x.f3) ((cReader x).f0, (cReader x).f1, (cReader x).f2, (cReader x).f3) := by
  obtain ⟨h0, h1, h2, h3⟩ := h
  unfold laws_toReader.f
  exact cm_bind (toIntS_f _ h2.2.1) (cm_bind (toIntS_f _ h3.2.1) (cm_now fun _ => rfl))
theorem toReaderS_f (l : List S104) (h : l.length ≤ maxLen ∧ l.length * 64 ≤ 140737488351232 ∧ ∀ x_ ∈ l, ok104 x_) : Cm (fun k => laws_toReaderS.f k l) (l.map cReader) := by
  have hl := h.2.1
  unfold laws_toReaderS.f
  refine cm_yes (by omega) (cm_yes (by omega) ?_)
  rw [Int.toNat_natCast]
  refine map_cm (L := fun k i s => laws_toReaderS.l0 k l s i) l cReader z71 ?_ ?_
  · intro pre x t acc e hlt ha u hu
    have hx := h.2.2 x (by rw [← e]; simp)
    refine cm_step (fun k => by rw [laws_toReaderS.l0]) ?_
    simp only [rdT104_at e, wrap_len hlt (show l.length ≤ 4611686018427387904 by omega), Int.toNat_natCast]
    refine cm_yes (by omega) (cm_yes (by omega) (cm_bind (toReader_f x hx) (cm_yes (by omega) ?_)))
    exact hu
  · intro acc ha
    refine cm_step (fun k => by rw [laws_toReaderS.l0]) ?_
    exact cm_no (by omega) (cm_now fun _ => rfl)
theorem eqReader_same (x : S71) (h : smReader x) : Cm (fun k => laws_eqReader.f k x.f0 x.f1 x.f2 x.f3 x.f0 x.f1 x.f2 x.f3) true := by
  obtain ⟨h0, h1, h2, h3⟩ := h
  unfold laws_eqReader.f
  exact cm_no (by simp) (cm_yes rfl (cm_bind (eqIntS_same _ h2) (cm_yes rfl (cm_bind (eqIntS_same _ h3) (cm_yes rfl (cm_now fun _ => rfl))))))
theorem eqReaderS_same (l : List S71) (h : l.length ≤ 4611686018427387904 ∧ ∀ y ∈ l, smReader y) : Cm (fun k => laws_eqReaderS.f k l l) true := by
  unfold laws_eqReaderS.f
  refine cm_yes rfl ?_
  refine same_cm (L := fun k i => laws_eqReaderS.l0 k l l i) l ?_ ?_
  · intro pre x t e hlt v hv
    have hx := h.2 x (by rw [← e]; simp)
    refine cm_step (fun k => by rw [laws_eqReaderS.l0]) ?_
    simp only [rdT71_at e, wrap_len hlt h.1]
    exact cm_yes (by omega) (cm_yes (by omega) (cm_yes (by omega) (cm_bind (eqReader_same x hx) (cm_yes rfl hv))))
  · refine cm_step (fun k => by rw [laws_eqReaderS.l0]) ?_
    exact cm_no (by omega) (cm_now fun _ => rfl)
def cReaders (x : S54) : S25 := ⟨x.f0, x.f1.map cReader, x.f2, x.f3⟩
def smReaders (x : S25) : Prop := (True) ∧ (x.f1.length ≤ 4611686018427387904 ∧ ∀ y ∈ x.f1, smReader y) ∧ (x.f2.length ≤ 4611686018427387904) ∧ (x.f3.length ≤ 4611686018427387904)
theorem sm_cReaders (x : S54) (h : ok54 x) : smReaders (cReaders x) := by
  obtain ⟨h0, h1, h2, h3⟩ := h
  exact ⟨trivial, ⟨by have := h1.2.1; simp only [cReaders, List.length_map]; omega, fun y hy => by obtain ⟨z, hz, rfl⟩ := List.mem_map.1 hy; exact sm_cReader z (h1.2.2 z hz)⟩, by have := h2.2.1; simp only [cReaders]; omega, by have := h3.2.1; simp only [cReaders]; omega⟩
theorem toReaders_f (x : S54) (h : ok54 x) : Cm (fun k => laws_toReaders.f k x.f0 x.f1 x.f2 x.f3) ((cReaders x).f0, (cReaders x).f1, (cReaders x).f2, (cReaders x).f3) := by
  obtain ⟨h0, h1, h2, h3⟩ := h
  unfold laws_toReaders.f
  exact cm_bind (toReaderS_f _ h1) (cm_bind (toIntS_f _ h2.2.1) (cm_bind (toIntS_f _ h3.2.1) (cm_now fun _ => rfl)))
theorem eqReaders_same (x : S25) (h : smReaders x) : Cm (fun k => laws_eqReaders.f k x.f0 x.f1 x.f2 x.f3 x.f0 x.f1 x.f2 x.f3) true := by
  obtain ⟨h0, h1, h2, h3⟩ := h
  unfold laws_eqReaders.f
  exact cm_yes rfl (cm_bind (eqReaderS_same _ h1) (cm_yes rfl (cm_bind (eqIntS_same _ h2) (cm_yes rfl (cm_bind (eqIntS_same _ h3) (cm_yes rfl (cm_now fun _ => rfl)))))))
end Go.Proofs.Ytfdgmknjmljhbaa.Hg
end
section
namespace Go.Proofs.Ytfdgmknjmljhbaa.Sz
open Go.RowKit Go.Proofs.Ytfdgmknjmljhbaa.P Go.Proofs.YtfdgmknjmljhbaaW.PrintWords Go.Proofs.YtfdgmknjmljhbaaW.PrintLast Go.Proofs.YtfdgmknjmljhbaaW.PrintMore
open Go.Proofs.Ytfdgmknjmljhbaa.Pl Go.Proofs.Ytfdgmknjmljhbaa.EvN Go.Proofs.Ytfdgmknjmljhbaa.Lp Go.Proofs.Ytfdgmknjmljhbaa.Hs
set_option linter.unusedVariables false
set_option linter.unusedSimpArgs false
theorem wt_cm {α : Type} {L : Nat → Int → Int → Option Int} (xs : List α) (wt : α → Nat)
    (hstep : ∀ pre h t s, pre ++ h :: t = xs → pre.length < xs.length → 0 ≤ s → s ≤ 1099511627776 → (∃ v, v < 0 ∧ Cm (fun k => L k (pre.length : Int) s) v) ∨ ∃ s' : Int, 0 ≤ s' ∧ s' + (wt h : Int) = s ∧ ∀ u, Cm (fun k => L k ((pre.length + 1 : Nat) : Int) s') u → Cm (fun k => L k (pre.length : Int) s) u)
    (hend : ∀ s, Cm (fun k => L k (xs.length : Int) s) s) (s0 : Int) (h0 : 0 ≤ s0) (h1 : s0 ≤ 1099511627776) : ∃ v, Cm (fun k => L k 0 s0) v ∧ (v < 0 ∨ v + (((xs.map wt).sum : Nat) : Int) = s0) := by
  have key : ∀ (rest pre : List α) (s : Int), pre ++ rest = xs → 0 ≤ s → s ≤ 1099511627776 → ∃ v, Cm (fun k => L k (pre.length : Int) s) v ∧ (v < 0 ∨ v + (((rest.map wt).sum : Nat) : Int) = s) := by
    intro rest
    induction rest with
    | nil =>
      intro pre s e h0 h1
      rw [List.append_nil] at e
      subst e
      exact ⟨s, hend s, .inr (by simp)⟩
    | cons h t ih =>
      intro pre s e h0 h1
      rcases hstep pre h t s e (len_mid e) h0 h1 with ⟨v, hv, hc⟩ | ⟨s', hs', hw, hc⟩
      · exact ⟨v, hc, .inl hv⟩
      · obtain ⟨v, hv, hd⟩ := ih (pre ++ [h]) s' (app_mid e) hs' (by omega)
        rw [len_one] at hv
        refine ⟨v, hc v hv, hd.imp_right (fun hd => ?_)⟩
        rw [List.map_cons, List.sum_cons]
        push_cast
        omega
  exact key xs [] s0 rfl h0 h1
theorem off_wrap {n : Nat} {m : Int} (h0 : 0 ≤ m) (h1 : m ≤ 1099511627776) (h : n ≤ 4611686018427387904) : wrap64 (m - (n : Int)) = m - (n : Int) := wrap_in (by omega) (by omega)
theorem szIntS_wt (l : List Int) (hl : l.length ≤ 4611686018427387904) (m : Int) (h0 : 0 ≤ m) (h1 : m ≤ 1099511627776) : ∃ v, Cm (fun _ => laws_szIntS.f l m) v ∧ (v < 0 ∨ v + (l.length : Int) = m) := by
  unfold laws_szIntS.f
  rw [off_wrap h0 h1 hl]
  by_cases c : m - (l.length : Int) < 0
  · exact ⟨_, cm_yes c (cm_now fun _ => rfl), .inl (by omega)⟩
  · exact ⟨_, cm_no c (cm_now fun _ => rfl), .inr (by omega)⟩
theorem tot_map {α β : Type} (c : β → Nat) (g : α → β) (w : α → Nat) (l : List α) (h : ∀ x ∈ l, c (g x) ≤ 10 * (1 + w x)) : Mk.tot c (l.map g) ≤ 10 * (l.length + (l.map w).sum) := by
  induction l with
  | nil => exact Nat.zero_le _
  | cons x l ih =>
    have := ih (fun y hy => h y (List.mem_cons_of_mem _ hy))
    have := h x List.mem_cons_self
    unfold Mk.tot at *
    simp only [List.map_cons, List.sum_cons, List.length_cons] at *
    omega
end Go.Proofs.Ytfdgmknjmljhbaa.Sz
end
section
namespace Go.Proofs.Ytfdgmknjmljhbaa.Sz
open Go.RowKit Go.Proofs.Ytfdgmknjmljhbaa.P Go.Proofs.YtfdgmknjmljhbaaW.PrintWords Go.Proofs.YtfdgmknjmljhbaaW.PrintLast Go.Proofs.YtfdgmknjmljhbaaW.PrintMore
open Go.Proofs.Ytfdgmknjmljhbaa.Pl Go.Proofs.Ytfdgmknjmljhbaa.EvN Go.Proofs.Ytfdgmknjmljhbaa.Lp Go.Proofs.Ytfdgmknjmljhbaa.Hs Go.Proofs.Ytfdgmknjmljhbaa.Hg
set_option linter.unusedSimpArgs false
set_option linter.unusedVariables false
def wReader (x : S104) : Nat := x.f2.length + x.f3.length
def wReaderS (l : List S104) : Nat := l.length + (l.map wReader).sum
theorem szReader_wt (x : S104) (h : ok104 x) (m : Int) (hm0 : 0 ≤ m) (hm1 : m ≤ 1099511627776) : ∃ v, Cm (fun k => laws_szReader.f x.f0 x.f1 x.f2 x.f3 m) v ∧ (v < 0 ∨ v + (wReader x : Int) = m) := by
  obtain ⟨h0, h1, h2, h3⟩ := h
  unfold laws_szReader.f wReader
  obtain ⟨v0, w0, d0⟩ := szIntS_wt x.f2 (by have := h2.2.1; omega) m (by omega) (by omega)
  by_cases c0 : v0 < 0
  · exact ⟨-1, cm_bind w0 (cm_yes c0 (cm_now fun _ => rfl)), .inl (by omega)⟩
  obtain ⟨v1, w1, d1⟩ := szIntS_wt x.f3 (by have := h3.2.1; omega) v0 (by omega) (by omega)
  by_cases c1 : v1 < 0
  · exact ⟨-1, cm_bind w0 (cm_no c0 (cm_bind w1 (cm_yes c1 (cm_now fun _ => rfl)))), .inl (by omega)⟩
  exact ⟨v1, cm_bind w0 (cm_no c0 (cm_bind w1 (cm_no c1 (cm_now fun _ => rfl)))), .inr (by push_cast; omega)⟩
theorem szReaderS_wt (l : List S104) (h : l.length ≤ maxLen ∧ l.length * 64 ≤ 140737488351232 ∧ ∀ x_ ∈ l, ok104 x_) (m : Int) (hm0 : 0 ≤ m) (hm1 : m ≤ 1099511627776) : ∃ v, Cm (fun k => laws_szReaderS.f k l m) v ∧ (v < 0 ∨ v + (wReaderS l : Int) = m) := by
  have hl := h.2.1
  unfold laws_szReaderS.f wReaderS
  rw [off_wrap hm0 hm1 (by omega)]
  by_cases c : m - (l.length : Int) < 0
  · exact ⟨_, cm_yes c (cm_now fun _ => rfl), .inl (by omega)⟩
  · obtain ⟨v, hv, hd⟩ := wt_cm (L := fun k i s => laws_szReaderS.l0 k l s i) l wReader (fun pre x t s e hlt g0 g1 => by
      obtain ⟨v, hv, hd⟩ := szReader_wt x (h.2.2 x (by rw [← e]; simp)) s g0 g1
      by_cases c2 : v < 0
      · refine .inl ⟨-1, by omega, ?_⟩
        refine cm_step (fun k => by rw [laws_szReaderS.l0]) ?_
        simp only [rdT104_at e, wrap_len hlt (show l.length ≤ 4611686018427387904 by omega)]
        exact cm_yes (by omega) (cm_yes (by omega) (cm_bind hv (cm_yes c2 (cm_now fun _ => rfl))))
      · refine .inr ⟨v, by omega, by omega, fun u hu => ?_⟩
        refine cm_step (fun k => by rw [laws_szReaderS.l0]) ?_
        simp only [rdT104_at e, wrap_len hlt (show l.length ≤ 4611686018427387904 by omega)]
        exact cm_yes (by omega) (cm_yes (by omega) (cm_bind hv (cm_no c2 hu)))) (fun s => by
      refine cm_step (fun k => by rw [laws_szReaderS.l0]) ?_
      exact cm_no (by omega) (cm_now fun _ => rfl)) (m - (l.length : Int)) (by omega) (by omega)
    exact ⟨v, cm_no c hv, by push_cast; omega⟩
theorem pcReader_le (x : S104) : Mk.pcReader (cReader x) ≤ 10 * (1 + wReader x) := by
  have t2 := Mk.tot_one x.f2
  have t3 := Mk.tot_one x.f3
  simp only [Mk.pcReader, cReader, wReader]
  omega
theorem totReader_le (l : List S104) : Mk.tot Mk.pcReader (l.map cReader) ≤ 10 * wReaderS l := tot_map _ _ _ _ (fun y _ => pcReader_le y)
def wReaders (x : S54) : Nat := wReaderS x.f1 + x.f2.length + x.f3.length
theorem szReaders_wt (x : S54) (h : ok54 x) (m : Int) (hm0 : 0 ≤ m) (hm1 : m ≤ 1099511627776) : ∃ v, Cm (fun k => laws_szReaders.f k x.f0 x.f1 x.f2 x.f3 m) v ∧ (v < 0 ∨ v + (wReaders x : Int) = m) := by
  obtain ⟨h0, h1, h2, h3⟩ := h
  unfold laws_szReaders.f wReaders
  obtain ⟨v0, w0, d0⟩ := szReaderS_wt x.f1 h1 m (by omega) (by omega)
  by_cases c0 : v0 < 0
  · exact ⟨-1, cm_bind w0 (cm_yes c0 (cm_now fun _ => rfl)), .inl (by omega)⟩
  obtain ⟨v1, w1, d1⟩ := szIntS_wt x.f2 (by have := h2.2.1; omega) v0 (by omega) (by omega)
  by_cases c1 : v1 < 0
  · exact ⟨-1, cm_bind w0 (cm_no c0 (cm_bind w1 (cm_yes c1 (cm_now fun _ => rfl)))), .inl (by omega)⟩
  obtain ⟨v2, w2, d2⟩ := szIntS_wt x.f3 (by have := h3.2.1; omega) v1 (by omega) (by omega)
  by_cases c2 : v2 < 0
  · exact ⟨-1, cm_bind w0 (cm_no c0 (cm_bind w1 (cm_no c1 (cm_bind w2 (cm_yes c2 (cm_now fun _ => rfl)))))), .inl (by omega)⟩
  exact ⟨v2, cm_bind w0 (cm_no c0 (cm_bind w1 (cm_no c1 (cm_bind w2 (cm_no c2 (cm_now fun _ => rfl)))))), .inr (by push_cast; omega)⟩
end Go.Proofs.Ytfdgmknjmljhbaa.Sz
end
section
namespace Go.Proofs.Ytfdgmknjmljhbaa.Sets
open Go.RowKit Go.Proofs.YtfdgmknjmljhbaaW.PrintWords Go.Proofs.YtfdgmknjmljhbaaW.PrintLast Go.Proofs.YtfdgmknjmljhbaaW.PrintMore
open Go.Proofs.Ytfdgmknjmljhbaa.Pl Go.Proofs.Ytfdgmknjmljhbaa.EvN Go.Proofs.Ytfdgmknjmljhbaa.Lp
set_option linter.unusedSimpArgs false
set_option linter.unusedVariables false
def hasAll (a b : List Int) : Bool := b.all (fun x => decide (x ∈ a))
def rises (many : Int) (pre : List Int) (h : Int) : Bool := decide (0 ≤ h ∧ h < many) && (match pre.getLast? with | some q => decide (q < h) | none => true)
def members (many : Int) (l : List Int) : Bool := okFrom (rises many) [] l
end Go.Proofs.Ytfdgmknjmljhbaa.Sets
end
section
namespace Go.Proofs.Ytfdgmknjmljhbaa.Mem
open Go.RowKit Go.Proofs.Ytfdgmknjmljhbaa.P Go.Proofs.YtfdgmknjmljhbaaW.PrintWords Go.Proofs.YtfdgmknjmljhbaaW.PrintLast Go.Proofs.YtfdgmknjmljhbaaW.PrintMore
open Go.Proofs.Ytfdgmknjmljhbaa.Pl Go.Proofs.Ytfdgmknjmljhbaa.EvN Go.Proofs.Ytfdgmknjmljhbaa.Lp Go.Proofs.Ytfdgmknjmljhbaa.Sets
set_option linter.unusedSimpArgs false
set_option linter.unusedVariables false
theorem in_f (a b c : Int) : impl_in.f a b c = some (decide (b ≤ a ∧ a ≤ c)) := by
  unfold impl_in.f
  by_cases h : a ≥ b
  · rw [if_pos h]; congr 1; rw [decide_eq_decide]; omega
  · rw [if_neg h]; congr 1; symm; rw [decide_eq_false_iff_not]; omega
theorem l1In_f (a b c : Int) : spec_l1In.f a b c = some (decide (b ≤ a ∧ a ≤ c)) := by
  unfold spec_l1In.f
  by_cases h : a ≥ b
  · rw [if_pos h]; congr 1; rw [decide_eq_decide]; omega
  · rw [if_neg h]; congr 1; symm; rw [decide_eq_false_iff_not]; omega
theorem if_self (b : Bool) : (if b = true then true else false) = b := by cases b <;> rfl
theorem rises_no {many : Int} {pre : List Int} {h : Int} (hp : rises many pre h = false) (h0 : 0 ≤ h) (h1 : h < many) : ∃ q, pre.getLast? = some q ∧ h ≤ q := by
  unfold rises at hp
  cases e : pre.getLast? with
  | none => rw [e] at hp; simp at hp; omega
  | some q =>
    rw [e] at hp
    simp at hp
    exact ⟨q, rfl, by omega⟩
theorem rises_yes {many : Int} {pre : List Int} {h : Int} (hp : rises many pre h = true) : (0 ≤ h ∧ h < many) ∧ ∀ q, pre.getLast? = some q → q < h := by
  unfold rises at hp
  simp only [Bool.and_eq_true, decide_eq_true_eq] at hp
  refine ⟨hp.1, fun q e => ?_⟩
  have h2 := hp.2
  rw [e] at h2
  simpa using h2
theorem last_cases {α : Type} (pre : List α) : pre = [] ∨ ∃ q, pre.getLast? = some q := by
  cases e : pre.getLast? with
  | none => exact .inl (no_last e)
  | some q => exact .inr ⟨q, rfl⟩
end Go.Proofs.Ytfdgmknjmljhbaa.Mem
end
section
namespace Go.Proofs.Ytfdgmknjmljhbaa.Mem
open Go.RowKit Go.Proofs.Ytfdgmknjmljhbaa.P Go.Proofs.YtfdgmknjmljhbaaW.PrintWords Go.Proofs.YtfdgmknjmljhbaaW.PrintLast Go.Proofs.YtfdgmknjmljhbaaW.PrintMore
open Go.Proofs.Ytfdgmknjmljhbaa.Pl Go.Proofs.Ytfdgmknjmljhbaa.EvN Go.Proofs.Ytfdgmknjmljhbaa.Lp Go.Proofs.Ytfdgmknjmljhbaa.Sets
set_option linter.unusedSimpArgs false
set_option linter.unusedVariables false
theorem has_f (l : List Int) (n : Int) (hl : l.length ≤ 4611686018427387904) : Cm (fun k => spec_l1Has.f k l n) (decide (n ∈ l)) := by
  unfold spec_l1Has.f
  have := every_cm (L := fun k i => spec_l1Has.l0 k n l (l.length : Int) i) l (fun x => decide (x ≠ n)) (fin := false) (no := true) ?_ ?_ ?_
  · refine cm_val this ?_
    by_cases c : n ∈ l
    · simp [c]
    · simp [c]
      intro x hx e
      subst e
      exact c hx
  · intro pre h t e hlt hp v hv
    simp only [decide_eq_true_eq] at hp
    refine cm_step (fun k => by rw [spec_l1Has.l0]) ?_
    simp only [rd_at e, wrap_len hlt hl]
    repeat (first | assumption | exact cm_now (fun _ => rfl) | refine cm_yes (by first | omega | assumption | (simp; done) | (simp; omega)) ?_ | refine cm_no (by first | omega | assumption | (simp; done) | (simp; omega)) ?_)
  · intro pre h t e hlt hp
    simp only [decide_eq_false_iff_not, ne_eq, Decidable.not_not] at hp
    refine cm_step (fun k => by rw [spec_l1Has.l0]) ?_
    simp only [rd_at e, wrap_len hlt hl]
    repeat (first | assumption | exact cm_now (fun _ => rfl) | refine cm_yes (by first | omega | assumption | (simp; done) | (simp; omega)) ?_ | refine cm_no (by first | omega | assumption | (simp; done) | (simp; omega)) ?_)
  · intro _
    refine cm_step (fun k => by rw [spec_l1Has.l0]) ?_
    repeat (first | assumption | exact cm_now (fun _ => rfl) | refine cm_yes (by first | omega | assumption | (simp; done) | (simp; omega)) ?_ | refine cm_no (by first | omega | assumption | (simp; done) | (simp; omega)) ?_)
theorem hasAll_f (a b : List Int) (ha : a.length ≤ 4611686018427387904) (hb : b.length ≤ 4611686018427387904) : Cm (fun k => spec_l6Has.f k a b) (hasAll a b) := by
  unfold spec_l6Has.f
  have := every_cm (L := fun k i => spec_l6Has.l0 k a b (b.length : Int) i) b (fun x => decide (x ∈ a)) (fin := true) (no := false) ?_ ?_ ?_
  · refine cm_val this ?_
    unfold hasAll
    cases b.all fun x => decide (x ∈ a) <;> rfl
  · intro pre h t e hlt hp v hv
    refine cm_step (fun k => by rw [spec_l6Has.l0]) ?_
    simp only [rd_at e, wrap_len hlt hb]
    repeat (first | assumption | exact cm_now (fun _ => rfl) | refine cm_bind (has_f _ _ ha) ?_ | refine cm_yes (by first | omega | assumption | (simp; done) | (simp; omega) | exact hp) ?_ | refine cm_no (by first | omega | assumption | (simp; done) | (simp; omega) | exact hp) ?_)
  · intro pre h t e hlt hp
    refine cm_step (fun k => by rw [spec_l6Has.l0]) ?_
    simp only [rd_at e, wrap_len hlt hb]
    repeat (first | assumption | exact cm_now (fun _ => rfl) | refine cm_bind (has_f _ _ ha) ?_ | refine cm_yes (by first | omega | assumption | (simp; done) | (simp; omega) | exact (by simpa using hp)) ?_ | refine cm_no (by first | omega | assumption | (simp; done) | (simp; omega) | exact (by simpa using hp)) ?_)
  · intro _
    refine cm_step (fun k => by rw [spec_l6Has.l0]) ?_
    repeat (first | assumption | exact cm_now (fun _ => rfl) | refine cm_yes (by first | omega | assumption | (simp; done) | (simp; omega)) ?_ | refine cm_no (by first | omega | assumption | (simp; done) | (simp; omega)) ?_)
theorem group_f (l : List Int) (many : Int) (hl : l.length ≤ 4611686018427387904) : Cm (fun k => spec_l6Group.f k l many) (members many l) := by
  unfold spec_l6Group.f
  have := all_cm (L := fun k i => spec_l6Group.l0 k l many l (l.length : Int) i) l (rises many) (fin := true) (no := false) ?_ ?_ ?_
  · exact cm_val this (if_self _)
  · intro pre h t e hlt hp v hv
    obtain ⟨⟨h0, h1⟩, h2⟩ := rises_yes hp
    refine cm_step (fun k => by rw [spec_l6Group.l0]) ?_
    simp only [rd_at e, wrap_len hlt hl]
    refine cm_yes (by omega) (cm_yes (by omega) (cm_yes (by omega) (cm_no (by omega) (cm_no (by omega) ?_))))
    rcases last_cases pre with rfl | ⟨q, hq⟩
    · exact cm_no (by simp) hv
    · obtain ⟨h3, h4⟩ := rd_last e hq
      have h5 := h2 q hq
      rw [wrap_less h3 (by omega), h4]
      repeat (first | assumption | exact cm_now (fun _ => rfl) | refine cm_yes (by first | omega | assumption | (simp; done) | (simp; omega)) ?_ | refine cm_no (by first | omega | assumption | (simp; done) | (simp; omega)) ?_)
  · intro pre h t e hlt hp
    refine cm_step (fun k => by rw [spec_l6Group.l0]) ?_
    simp only [rd_at e, wrap_len hlt hl]
    refine cm_yes (by omega) (cm_yes (by omega) (cm_yes (by omega) ?_))
    refine cm_if (fun _ => cm_now fun _ => rfl) (fun c0 => cm_if (fun _ => cm_now fun _ => rfl) (fun c1 => ?_))
    obtain ⟨q, hq, h5⟩ := rises_no hp (by omega) (by omega)
    obtain ⟨h3, h4⟩ := rd_last e hq
    rw [wrap_less h3 (by omega), h4]
    repeat (first | assumption | exact cm_now (fun _ => rfl) | refine cm_yes (by first | omega | assumption | (simp; done) | (simp; omega)) ?_ | refine cm_no (by first | omega | assumption | (simp; done) | (simp; omega)) ?_)
  · intro _
    refine cm_step (fun k => by rw [spec_l6Group.l0]) ?_
    repeat (first | assumption | exact cm_now (fun _ => rfl) | refine cm_yes (by first | omega | assumption | (simp; done) | (simp; omega)) ?_ | refine cm_no (by first | omega | assumption | (simp; done) | (simp; omega)) ?_)
theorem areMembers_f (l : List Int) (many : Int) (hl : l.length ≤ 4611686018427387904) (hm : 0 ≤ many ∧ many ≤ 4611686018427387904) : Cm (fun k => impl_areMembers.f k l many) (members many l) := by
  have hw : wrap64 (many - 1) = many - 1 := wrap_in (by omega) (by omega)
  unfold impl_areMembers.f
  have := all_cm (L := fun k i => impl_areMembers.l0 k l many l (l.length : Int) i) l (rises many) (fin := true) (no := false) ?_ ?_ ?_
  · exact cm_val this (if_self _)
  · intro pre h t e hlt hp v hv
    obtain ⟨⟨h0, h1⟩, h2⟩ := rises_yes hp
    refine cm_step (fun k => by rw [impl_areMembers.l0]) ?_
    simp only [rd_at e, wrap_len hlt hl, hw]
    refine cm_yes (by omega) (cm_yes (by omega) (cm_yes (by omega) (cm_bind (cm_now fun _ => in_f _ _ _) (cm_yes (by simp; omega) ?_))))
    rcases last_cases pre with rfl | ⟨q, hq⟩
    · exact cm_no (by simp) hv
    · obtain ⟨h3, h4⟩ := rd_last e hq
      have h5 := h2 q hq
      rw [wrap_less h3 (by omega), h4]
      repeat (first | assumption | exact cm_now (fun _ => rfl) | refine cm_yes (by first | omega | assumption | (simp; done) | (simp; omega)) ?_ | refine cm_no (by first | omega | assumption | (simp; done) | (simp; omega)) ?_)
  · intro pre h t e hlt hp
    refine cm_step (fun k => by rw [impl_areMembers.l0]) ?_
    simp only [rd_at e, wrap_len hlt hl, hw]
    refine cm_yes (by omega) (cm_yes (by omega) (cm_yes (by omega) (cm_bind (cm_now fun _ => in_f _ _ _) ?_)))
    refine cm_if (fun c0 => ?_) (fun _ => cm_now fun _ => rfl)
    simp only [decide_eq_true_eq] at c0
    obtain ⟨q, hq, h5⟩ := rises_no hp (by omega) (by omega)
    obtain ⟨h3, h4⟩ := rd_last e hq
    rw [wrap_less h3 (by omega), h4]
    repeat (first | assumption | exact cm_now (fun _ => rfl) | refine cm_yes (by first | omega | assumption | (simp; done) | (simp; omega)) ?_ | refine cm_no (by first | omega | assumption | (simp; done) | (simp; omega)) ?_)
  · intro _
    refine cm_step (fun k => by rw [impl_areMembers.l0]) ?_
    repeat (first | assumption | exact cm_now (fun _ => rfl) | refine cm_yes (by first | omega | assumption | (simp; done) | (simp; omega)) ?_ | refine cm_no (by first | omega | assumption | (simp; done) | (simp; omega)) ?_)
theorem contains_f (l : List Int) (n : Int) (hl : l.length ≤ 4611686018427387904) : Cm (fun k => slices_Contains_int_int.f k l n) (decide (n ∈ l)) := by
  unfold slices_Contains_int_int.f slices_Index_int_int.f
  refine cm_bind (t := foundAt (fun x => decide (n = x)) (fun i _ => (i : Int)) (-1) 0 l) ?_ (cm_now fun _ => ?_)
  · refine find_cm (L := fun k i => slices_Index_int_int.l0 k l n (l.length : Int) i) l (fun x => decide (n = x)) (fun i _ => (i : Int)) (none_ := (-1 : Int)) ?_ ?_ ?_
    · intro pre h t e hlt hp v hv
      simp only [decide_eq_false_iff_not] at hp
      refine cm_step (fun k => by rw [slices_Index_int_int.l0]) ?_
      simp only [rd_at e, wrap_len hlt hl]
      repeat (first | assumption | exact cm_now (fun _ => rfl) | refine cm_yes (by first | omega | assumption | (simp; done) | (simp; omega)) ?_ | refine cm_no (by first | omega | assumption | (simp; done) | (simp; omega)) ?_)
    · intro pre h t e hlt hp
      simp only [decide_eq_true_eq] at hp
      refine cm_step (fun k => by rw [slices_Index_int_int.l0]) ?_
      simp only [rd_at e, wrap_len hlt hl]
      repeat (first | assumption | exact cm_now (fun _ => rfl) | refine cm_yes (by first | omega | assumption | (simp; done) | (simp; omega)) ?_ | refine cm_no (by first | omega | assumption | (simp; done) | (simp; omega)) ?_)
    · refine cm_step (fun k => by rw [slices_Index_int_int.l0]) ?_
      repeat (first | assumption | exact cm_now (fun _ => rfl) | refine cm_yes (by first | omega | assumption | (simp; done) | (simp; omega)) ?_ | refine cm_no (by first | omega | assumption | (simp; done) | (simp; omega)) ?_)
  · rw [found_any]
    congr 1
    rw [Bool.eq_iff_iff]
    simp
end Go.Proofs.Ytfdgmknjmljhbaa.Mem
end
section
namespace Go.Proofs.Ytfdgmknjmljhbaa.Rd
open Go.RowKit Go.Proofs.Ytfdgmknjmljhbaa.P Go.Proofs.YtfdgmknjmljhbaaW.PrintWords Go.Proofs.YtfdgmknjmljhbaaW.PrintLast Go.Proofs.YtfdgmknjmljhbaaW.PrintMore
open Go.Proofs.Ytfdgmknjmljhbaa.Pl Go.Proofs.Ytfdgmknjmljhbaa.EvN Go.Proofs.Ytfdgmknjmljhbaa.Lp Go.Proofs.Ytfdgmknjmljhbaa.Sets Go.Proofs.Ytfdgmknjmljhbaa.Hs Go.Proofs.Ytfdgmknjmljhbaa.Hg Go.Proofs.Ytfdgmknjmljhbaa.Mem
set_option linter.unusedVariables false
set_option linter.unusedSimpArgs false
theorem iter_cm {σ ρ : Type} {L : Nat → Int → σ → Option ρ} (n : Nat) (st : Nat → σ) {v : ρ} (hs : ∀ i, i < n → ∀ u, Cm (fun k => L k ((i + 1 : Nat) : Int) (st (i + 1))) u → Cm (fun k => L k (i : Int) (st i)) u)
    (he : Cm (fun k => L k (n : Int) (st n)) v) : Cm (fun k => L k 0 (st 0)) v := by
  have key : ∀ (d i : Nat), i + d = n → Cm (fun k => L k (i : Int) (st i)) v := by
    intro d
    induction d with
    | zero => intro i e; rw [Nat.add_zero] at e; subst e; exact he
    | succ d ih => intro i e; exact hs i (by omega) v (ih (i + 1) (by omega))
  exact key n 0 (by omega)
theorem yes_cm {ρ : Type} {L : Nat → Int → Option ρ} (n : Nat) {v : ρ} (hs : ∀ i, i < n → ∀ u, Cm (fun k => L k ((i + 1 : Nat) : Int)) u → Cm (fun k => L k (i : Int)) u) (he : Cm (fun k => L k (n : Int)) v) : Cm (fun k => L k 0) v :=
  iter_cm (L := fun k i (_ : Unit) => L k i) n (fun _ => ()) hs he
theorem no_cm {ρ : Type} {L : Nat → Int → Option ρ} (n : Nat) (Q : Nat → Prop) {no : ρ} (hs : ∀ i, i < n → Q i → ∀ u, Cm (fun k => L k ((i + 1 : Nat) : Int)) u → Cm (fun k => L k (i : Int)) u) (hn : ∀ i, i < n → ¬ Q i → Cm (fun k => L k (i : Int)) no)
    (h : ¬ ∀ i, i < n → Q i) : Cm (fun k => L k 0) no := by
  have key : ∀ (d i : Nat), i + d = n → (¬ ∀ j, i ≤ j → j < n → Q j) → Cm (fun k => L k (i : Int)) no := by
    intro d
    induction d with
    | zero => intro i e h; exact absurd (fun j h1 h2 => by omega) h
    | succ d ih =>
      intro i e h
      by_cases c : Q i
      · refine hs i (by omega) c no (ih (i + 1) (by omega) (fun z => h (fun j h1 h2 => ?_)))
        rcases Nat.eq_or_lt_of_le h1 with rfl | h1
        · exact c
        · exact z j h1 h2
      · exact hn i (by omega) c
  exact key n 0 (by omega) (fun z => h (fun i hi => z i (Nat.zero_le _) hi))
theorem rd71 {rs : List S71} {i : Nat} (h : i < rs.length) : rd_T71 rs (i : Int) = rs[i] := by
  unfold rd_T71
  rw [Int.toNat_natCast, List.getD_eq_getElem?_getD, List.getElem?_eq_getElem h, Option.getD_some]
theorem wrap_n {i n : Nat} (h : i < n) (hn : n ≤ 4611686018427387904) : wrap64 ((i : Int) + 1) = ((i + 1 : Nat) : Int) := by
  rw [show ((i + 1 : Nat) : Int) = (i : Int) + 1 by omega]
  exact wrap_in (by omega) (by omega)
def cnt (l : List S71) : Nat := (l.filter (fun y => y.f0)).length
theorem cnt_succ (rs : List S71) {i : Nat} (h : i < rs.length) : cnt (rs.take (i + 1)) = cnt (rs.take i) + (if (rd_T71 rs (i : Int)).f0 = true then 1 else 0) := by
  rw [rd71 h, List.take_succ_eq_append_getElem h]
  unfold cnt
  rw [List.filter_append, List.length_append]
  congr 1
  by_cases c : rs[i].f0 = true
  · rw [if_pos c]; simp [c]
  · rw [if_neg c]; simp [c]
theorem cnt_le (l : List S71) : cnt l ≤ l.length := List.length_filter_le _ _
def picksN (p : Nat → Bool) (n : Nat) : List Int := ((List.range n).filter p).map (fun (i : Nat) => (i : Int))
theorem picksN_succ (p : Nat → Bool) (n : Nat) : picksN p (n + 1) = picksN p n ++ (if p n = true then [(n : Int)] else []) := by
  unfold picksN
  rw [List.range_succ, List.filter_append, List.map_append]
  congr 1
  by_cases c : p n = true
  · rw [if_pos c]; simp [c]
  · rw [if_neg c]; simp [c]
theorem picksN_le (p : Nat → Bool) (n : Nat) : (picksN p n).length ≤ n := by
  unfold picksN
  rw [List.length_map]
  exact Nat.le_trans (List.length_filter_le _ _) (by simp)
theorem picksN_rises (p : Nat → Bool) (n : Nat) : (picksN p n).Pairwise (· < ·) := by
  unfold picksN
  rw [List.pairwise_map]
  exact ((List.pairwise_lt_range (n := n)).filter p).imp (fun h => by omega)
def one (rs : List S71) (k : Nat) (p : Nat) : Bool := decide (0 < cnt rs) && decide (p % cnt rs = cnt (rs.take k))
def share (rs : List S71) (m k : Nat) : List Int := picksN (one rs k) m
theorem specShare_f (gen : Int) (rs : List S71) (com ends : List Int) (hr : rs.length ≤ 4611686018427387904) (he : ends.length ≤ 8796093022208) {j : Nat} (hj : j < rs.length) : Cm (fun k => spec_l14Share.f k gen rs com ends (j : Int)) (share rs ends.length j) := by
  unfold spec_l14Share.f
  refine iter_cm (L := fun k i (s : Int × Int) => spec_l14Share.l0 k (j : Int) s.1 s.2 rs (rs.length : Int) i gen rs com ends) rs.length (fun i => ((cnt (rs.take i) : Nat), ((if j < i then cnt (rs.take j) else 0 : Nat) : Int))) ?_ ?_
  · intro i hi u hu
    have hc := cnt_succ rs hi
    have hle := Nat.le_trans (cnt_le (rs.take i)) (List.length_take_le i rs)
    refine cm_step (fun k => by rw [spec_l14Share.l0]) ?_
    simp only [wrap_n hi hr]
    refine cm_yes (by omega) (cm_yes (by omega) (cm_yes (by omega) ?_))
    have w1 : wrap64 (((cnt (rs.take i) : Nat) : Int) + 1) = ((cnt (rs.take i) + 1 : Nat) : Int) := by rw [show ((cnt (rs.take i) + 1 : Nat) : Int) = ((cnt (rs.take i) : Nat) : Int) + 1 by omega]; exact wrap_in (by omega) (by omega)
    by_cases c : (i : Int) = (j : Int)
    · have e : i = j := by omega
      subst e
      refine cm_yes rfl (cm_if (fun d => ?_) (fun d => ?_))
      · rw [if_pos d] at hc
        rw [w1, ← hc]
        simpa using hu
      · rw [if_neg d] at hc
        rw [Nat.add_zero] at hc
        simp only [hc] at hu
        simpa using hu
    · refine cm_no c ?_
      have e1 : (j < i + 1) = (j < i) := by rw [eq_iff_iff]; omega
      simp only [e1] at hu
      refine cm_if (fun d => ?_) (fun d => ?_)
      · rw [if_pos d] at hc
        rw [w1, ← hc]
        exact hu
      · rw [if_neg d, Nat.add_zero] at hc
        rw [hc] at hu
        exact hu
  · refine cm_step (fun k => by rw [spec_l14Share.l0]) ?_
    refine cm_no (by omega) ?_
    simp only [List.take_length, if_pos hj]
    unfold share
    refine iter_cm (L := fun k i (s : List Int) => spec_l14Share.l1 k ((cnt rs : Nat) : Int) ((cnt (rs.take j) : Nat) : Int) s (ends.length : Int) i) ends.length (fun i => picksN (one rs j) i) ?_ ?_
    · intro i hi u hu
      have hl := picksN_le (one rs j) i
      refine cm_step (fun k => by rw [spec_l14Share.l1]) ?_
      simp only [wrap_n hi (show ends.length ≤ 4611686018427387904 by omega)]
      refine cm_yes (by omega) ?_
      rw [picksN_succ] at hu
      by_cases c : 0 < cnt rs
      · refine cm_yes (by omega) (cm_no (by omega) ?_)
        rw [show Int.tmod (i : Int) ((cnt rs : Nat) : Int) = ((i % cnt rs : Nat) : Int) from rfl]
        by_cases d : i % cnt rs = cnt (rs.take j)
        · have : one rs j i = true := by simp [one, c, d]
          rw [if_pos this] at hu
          exact cm_yes (by omega) (cm_yes (by omega) hu)
        · have : ¬ one rs j i = true := by simp [one, c, d]
          rw [if_neg this, List.append_nil] at hu
          exact cm_no (by omega) hu
      · have : ¬ one rs j i = true := by simp [one, c]
        rw [if_neg this, List.append_nil] at hu
        exact cm_no (by omega) hu
    · refine cm_step (fun k => by rw [spec_l14Share.l1]) ?_
      exact cm_no (by omega) (cm_now fun _ => rfl)
theorem implShare_f (gen : Int) (rs : List S71) (com ends : List Int) (hr : rs.length ≤ 4611686018427387904) (he : ends.length ≤ 8796093022208) {j : Nat} (hj : j < rs.length) (hin : (rd_T71 rs (j : Int)).f0 = true) : Cm (fun k => impl_Readers_shareOf.f k gen rs com ends (j : Int)) (share rs ends.length j) := by
  have hpos : 0 < cnt rs := by
    unfold cnt
    refine List.length_pos_of_mem (a := rs[j]) (List.mem_filter.2 ⟨List.getElem_mem hj, ?_⟩)
    rw [rd71 hj] at hin
    exact hin
  unfold impl_Readers_shareOf.f
  refine iter_cm (L := fun k i (s : Int × Int) => impl_Readers_shareOf.l0 k (j : Int) s.1 s.2 rs (rs.length : Int) i gen rs com ends) rs.length (fun i => (((cnt (rs.take i) : Nat) : Int), ((cnt (rs.take (min i j)) : Nat) : Int))) ?_ ?_
  · intro i hi u hu
    have hc := cnt_succ rs hi
    have hle := Nat.le_trans (cnt_le (rs.take i)) (List.length_take_le i rs)
    refine cm_step (fun k => by rw [impl_Readers_shareOf.l0]) ?_
    simp only [wrap_n hi hr]
    refine cm_yes (by omega) (cm_yes (by omega) (cm_yes (by omega) ?_))
    have w1 : wrap64 (((cnt (rs.take i) : Nat) : Int) + 1) = ((cnt (rs.take i) + 1 : Nat) : Int) := by rw [show ((cnt (rs.take i) + 1 : Nat) : Int) = ((cnt (rs.take i) : Nat) : Int) + 1 by omega]; exact wrap_in (by omega) (by omega)
    refine cm_if (fun d => ?_) (fun d => ?_)
    · rw [if_pos d] at hc
      refine cm_if (fun e => ?_) (fun e => ?_)
      · have e1 : min i j = i := by omega
        have e2 : min (i + 1) j = i + 1 := by omega
        simp only [e1, e2] at hu ⊢
        rw [w1, ← hc]
        exact hu
      · have e1 : min i j = j := by omega
        have e2 : min (i + 1) j = j := by omega
        simp only [e1, e2] at hu ⊢
        rw [w1, ← hc]
        exact hu
    · rw [if_neg d, Nat.add_zero] at hc
      by_cases e : i < j
      · have e1 : min i j = i := by omega
        have e2 : min (i + 1) j = i + 1 := by omega
        simp only [e1, e2, hc] at hu ⊢
        exact hu
      · have e1 : min i j = j := by omega
        have e2 : min (i + 1) j = j := by omega
        simp only [e1, e2, hc] at hu ⊢
        exact hu
  · refine cm_step (fun k => by rw [impl_Readers_shareOf.l0]) ?_
    refine cm_no (by omega) ?_
    simp only [List.take_length, show min rs.length j = j by omega]
    unfold share
    refine iter_cm (L := fun k i (s : List Int) => impl_Readers_shareOf.l1 k ((cnt rs : Nat) : Int) ((cnt (rs.take j) : Nat) : Int) s (ends.length : Int) i) ends.length (fun i => picksN (one rs j) i) ?_ ?_
    · intro i hi u hu
      have hl := picksN_le (one rs j) i
      refine cm_step (fun k => by rw [impl_Readers_shareOf.l1]) ?_
      simp only [wrap_n hi (show ends.length ≤ 4611686018427387904 by omega)]
      refine cm_yes (by omega) ?_
      rw [picksN_succ] at hu
      refine cm_no (by omega) ?_
      rw [show Int.tmod (i : Int) ((cnt rs : Nat) : Int) = ((i % cnt rs : Nat) : Int) from rfl]
      by_cases d : i % cnt rs = cnt (rs.take j)
      · have : one rs j i = true := by simp [one, hpos, d]
        rw [if_pos this] at hu
        exact cm_yes (by omega) (cm_yes (by omega) hu)
      · have : ¬ one rs j i = true := by simp [one, hpos, d]
        rw [if_neg this, List.append_nil] at hu
        exact cm_no (by omega) hu
    · refine cm_step (fun k => by rw [impl_Readers_shareOf.l1]) ?_
      exact cm_no (by omega) (cm_now fun _ => rfl)
theorem rises_all (many : Int) : ∀ (l pre : List Int), okFrom (rises many) pre l = true → pre.Pairwise (· < ·) → (pre ++ l).Pairwise (· < ·)
  | [], pre, _, h => by rw [List.append_nil]; exact h
  | x :: l, pre, ho, h => by
    unfold okFrom at ho
    rw [Bool.and_eq_true] at ho
    have hr := rises_yes ho.1
    have : (pre ++ [x]).Pairwise (· < ·) := by
      rw [List.pairwise_append]
      refine ⟨h, List.pairwise_singleton _ _, fun a ha b hb => ?_⟩
      rw [List.mem_singleton.1 hb]
      rcases List.eq_nil_or_concat pre with rfl | ⟨i, q, rfl⟩
      · simp at ha
      · have hq : q < x := hr.2 q (by simp)
        rw [List.concat_eq_append, List.mem_append] at ha
        rcases ha with ha | ha
        · rw [List.concat_eq_append, List.pairwise_append] at h
          have := h.2.2 a ha q (List.mem_singleton_self q)
          omega
        · rw [List.mem_singleton.1 ha]; exact hq
    have := rises_all many l (pre ++ [x]) ho.2 this
    rwa [List.append_assoc] at this
theorem members_rise {many : Int} {l : List Int} (h : members many l = true) : l.Pairwise (· < ·) := rises_all many l [] h List.Pairwise.nil
theorem rise_sub : ∀ (a b : List Int), a.Pairwise (· < ·) → b.Pairwise (· < ·) → (∀ x ∈ b, x ∈ a) → b.length ≤ a.length ∧ (b.length = a.length → b = a)
  | [], b, _, _, h => by
    cases b with
    | nil => exact ⟨Nat.le_refl _, fun _ => rfl⟩
    | cons y b => exact absurd (h y List.mem_cons_self) (by simp)
  | x :: a, b, ha, hb, h => by
    rw [List.pairwise_cons] at ha
    cases b with
    | nil => exact ⟨Nat.zero_le _, fun e => by simp at e⟩
    | cons y b =>
      by_cases c : y = x
      · subst c
        rw [List.pairwise_cons] at hb
        have hs : ∀ z ∈ b, z ∈ a := fun z hz => by
          rcases List.mem_cons.1 (h z (List.mem_cons_of_mem _ hz)) with e | e
          · have := hb.1 z hz; omega
          · exact e
        have ih := rise_sub a b ha.2 hb.2 hs
        exact ⟨by simp only [List.length_cons]; omega, fun e => by rw [ih.2 (by simpa using e)]⟩
      · have hy : y ∈ a := (List.mem_cons.1 (h y List.mem_cons_self)).resolve_left c
        have hs : ∀ z ∈ y :: b, z ∈ a := fun z hz => by
          rcases List.mem_cons.1 (h z hz) with e | e
          · rcases List.mem_cons.1 hz with e2 | e2
            · rw [e2]; exact hy
            · have := (List.pairwise_cons.1 hb).1 z e2
              have := ha.1 y hy
              omega
          · exact e
        have ih := rise_sub a (y :: b) ha.2 hb hs
        exact ⟨by simp only [List.length_cons] at *; omega, fun e => by simp only [List.length_cons] at *; omega⟩
theorem rdn {l : List Int} {i : Nat} (h : i < l.length) : rd l (i : Int) = l[i] := by
  unfold rd
  rw [Int.toNat_natCast, List.getD_eq_getElem?_getD, List.getElem?_eq_getElem h, Option.getD_some]
theorem equal_f (a b : List Int) (ha : a.length ≤ 4611686018427387904) : Cm (fun k => slices_Equal_int_int.f k a b) (decide (a = b)) := by
  unfold slices_Equal_int_int.f
  by_cases c : (a.length : Int) = (b.length : Int)
  · refine cm_yes c ?_
    by_cases d : a = b
    · subst d
      rw [decide_eq_true rfl]
      refine yes_cm (L := fun k i => slices_Equal_int_int.l0 k a a (a.length : Int) i) a.length ?_ ?_
      · intro i hi u hu
        refine cm_step (fun k => by rw [slices_Equal_int_int.l0]) ?_
        simp only [wrap_n hi ha]
        exact cm_yes (by omega) (cm_yes (by omega) (cm_yes (by omega) (cm_yes (by omega) (cm_yes (by first | trivial | rfl) hu))))
      · refine cm_step (fun k => by rw [slices_Equal_int_int.l0]) ?_
        exact cm_no (by omega) (cm_now fun _ => rfl)
    · rw [decide_eq_false d]
      refine no_cm (L := fun k i => slices_Equal_int_int.l0 k a b (a.length : Int) i) a.length (fun i => rd a (i : Int) = rd b (i : Int)) ?_ ?_ ?_
      · intro i hi q u hu
        refine cm_step (fun k => by rw [slices_Equal_int_int.l0]) ?_
        simp only [wrap_n hi ha]
        exact cm_yes (by omega) (cm_yes (by omega) (cm_yes (by omega) (cm_yes (by omega) (cm_yes q hu))))
      · intro i hi q
        refine cm_step (fun k => by rw [slices_Equal_int_int.l0]) ?_
        exact cm_yes (by omega) (cm_yes (by omega) (cm_yes (by omega) (cm_yes (by omega) (cm_no q (cm_now fun _ => rfl)))))
      · intro h
        refine d (List.ext_getElem (by omega) (fun i h1 h2 => ?_))
        have := h i h1
        rw [rdn h1, rdn h2] at this
        exact this
  · rw [decide_eq_false (fun e => c (by rw [e]))]
    exact cm_no c (cm_now fun _ => rfl)
theorem same_f {many : Int} (a b : List Int) (ha : a.length ≤ 4611686018427387904) (hb : b.length ≤ 4611686018427387904) (h1 : members many a = true) (h2 : b.Pairwise (· < ·)) : Cm (fun k => spec_l14Same.f k a b) (decide (a = b)) := by
  unfold spec_l14Same.f
  refine cm_bind (hasAll_f a b ha hb) (cm_if (fun c => cm_now fun _ => ?_) (fun c => cm_now fun _ => ?_))
  · unfold hasAll at c
    rw [List.all_eq_true] at c
    have hs := rise_sub a b (members_rise h1) h2 (fun x hx => by simpa using c x hx)
    congr 1
    rw [Bool.eq_iff_iff, beq_iff_eq, decide_eq_true_eq]
    constructor
    · intro e; exact (hs.2 (by omega)).symm
    · intro e; rw [e]
  · congr 1
    rw [eq_comm, decide_eq_false_iff_not]
    rintro rfl
    exact c (by unfold hasAll; simp)
def headR (gen : Int) (m : Nat) (y : S71) : Prop := y.f3.length = m ∧ members (m : Int) y.f2 = true ∧ (0 ≤ y.f1 ∧ y.f1 ≤ gen) ∧ (y.f0 = true ∨ (y.f1 = 0 ∧ y.f2.length = 0))
def readR (ends : List Int) (y : S71) (p : Nat) : Prop := (0 ≤ rd y.f3 (p : Int) ∧ rd y.f3 (p : Int) ≤ rd ends (p : Int)) ∧ ((p : Int) ∈ y.f2 ∨ rd y.f3 (p : Int) = 0)
def goodR (gen : Int) (rs : List S71) (ends : List Int) (j : Nat) : Prop := headR gen ends.length (rd_T71 rs (j : Int)) ∧ (∀ p, p < ends.length → readR ends (rd_T71 rs (j : Int)) p) ∧ ((rd_T71 rs (j : Int)).f0 = true → (rd_T71 rs (j : Int)).f1 = gen → (rd_T71 rs (j : Int)).f2 = share rs ends.length j)
def topR (gen : Int) (rs : List S71) (com ends : List Int) : Prop := ((1 ≤ rs.length ∧ rs.length ≤ 5) ∧ (1 ≤ ends.length ∧ ends.length ≤ 6)) ∧ com.length = ends.length ∧ (0 ≤ gen ∧ gen ≤ 1000)
def endR (com ends : List Int) (p : Nat) : Prop := (0 ≤ rd ends (p : Int) ∧ rd ends (p : Int) ≤ 100) ∧ (0 ≤ rd com (p : Int) ∧ rd com (p : Int) ≤ rd ends (p : Int))
def good (gen : Int) (rs : List S71) (com ends : List Int) : Prop := topR gen rs com ends ∧ (∀ p, p < ends.length → endR com ends p) ∧ ∀ j, j < rs.length → goodR gen rs ends j
end Go.Proofs.Ytfdgmknjmljhbaa.Rd
end
section
namespace Go.Proofs.Ytfdgmknjmljhbaa.NewRd
open Go.RowKit Go.Proofs.Ytfdgmknjmljhbaa.P Go.Proofs.YtfdgmknjmljhbaaW.PrintWords Go.Proofs.YtfdgmknjmljhbaaW.PrintLast Go.Proofs.YtfdgmknjmljhbaaW.PrintMore
open Go.Proofs.Ytfdgmknjmljhbaa.Pl Go.Proofs.Ytfdgmknjmljhbaa.EvN Go.Proofs.Ytfdgmknjmljhbaa.Lp Go.Proofs.Ytfdgmknjmljhbaa.Hs Go.Proofs.Ytfdgmknjmljhbaa.Hg Go.Proofs.Ytfdgmknjmljhbaa.Mem
set_option linter.unusedVariables false
set_option linter.unusedSimpArgs false
def rdr (m : Nat) : S71 := ⟨false, 0, [], List.replicate m 0⟩
def okEnd (e : Int) : Bool := decide (0 ≤ e ∧ e ≤ 100)
theorem five {a : Int} (h : 1 ≤ a ∧ a ≤ 5) : a = 1 ∨ a = 2 ∨ a = 3 ∨ a = 4 ∨ a = 5 := by omega
theorem impl_l0 {n : Int} (h : 1 ≤ n ∧ n ≤ 5) (l a b : List Int) (hl : l.length ≤ 6) : Cm (fun k => impl_newReaders.l0 k l n 0 0 [] a b) (0, List.replicate n.toNat (rdr l.length), a, b, true) := by
  have h1 : l.length ≤ 35184372088832 := by omega
  rcases five h with rfl | rfl | rfl | rfl | rfl <;> exact ⟨10, fun k hk => by obtain ⟨m, rfl⟩ : ∃ m, k = m + 10 := ⟨k - 10, by omega⟩; simp [impl_newReaders.l0, wrap64, rdr, List.replicate, h1]⟩
theorem anyEnd_f_index (l : List Int) (hl : l.length ≤ 4611686018427387904) (p : Int → Bool) (hc : ∀ h ∈ l, Cm (fun k => impl_newReaders_1.f h) (p h)) :
    Cm (fun k => slices_IndexFunc_int_int_of_impl_newReaders_1.f k l) (foundAt p (fun i _ => (i : Int)) (-1) 0 l) := by
  unfold slices_IndexFunc_int_int_of_impl_newReaders_1.f
  refine find_cm (L := fun k i => slices_IndexFunc_int_int_of_impl_newReaders_1.l0 k l (l.length : Int) i) l p (fun i _ => (i : Int)) (none_ := (-1 : Int)) ?_ ?_ ?_
  · intro pre h t e hlt hp v hv
    refine cm_step (fun k => by rw [slices_IndexFunc_int_int_of_impl_newReaders_1.l0]) ?_
    simp only [rd_at e, wrap_len hlt hl]
    refine cm_yes (by omega) (cm_yes (by omega) (cm_yes (by omega) (cm_bind (hc h (by rw [← e]; simp)) ?_)))
    exact cm_no (by simpa using hp) hv
  · intro pre h t e hlt hp
    refine cm_step (fun k => by rw [slices_IndexFunc_int_int_of_impl_newReaders_1.l0]) ?_
    simp only [rd_at e, wrap_len hlt hl]
    refine cm_yes (by omega) (cm_yes (by omega) (cm_yes (by omega) (cm_bind (hc h (by rw [← e]; simp)) ?_)))
    exact cm_yes hp (cm_now fun _ => rfl)
  · refine cm_step (fun k => by rw [slices_IndexFunc_int_int_of_impl_newReaders_1.l0]) ?_
    exact cm_no (by omega) (cm_now fun _ => rfl)
theorem anyEnd_f (l : List Int) (hl : l.length ≤ 4611686018427387904) (p : Int → Bool) (hc : ∀ h ∈ l, Cm (fun k => impl_newReaders_1.f h) (p h)) : Cm (fun k => slices_ContainsFunc_int_int_of_impl_newReaders_1.f k l) (l.any p) := by
  unfold slices_ContainsFunc_int_int_of_impl_newReaders_1.f
  refine cm_bind (anyEnd_f_index l hl p hc) (cm_now fun _ => ?_)
  rw [found_any]
theorem any_not {α : Type} (p : α → Bool) : ∀ (l : List α), l.any (fun h => !p h) = !l.all p
  | [] => rfl
  | x :: l => by rw [List.any_cons, List.all_cons, any_not p l, Bool.not_and]
end Go.Proofs.Ytfdgmknjmljhbaa.NewRd
end
section
namespace Go.Proofs.Ytfdgmknjmljhbaa.Rd
open Go.RowKit Go.Proofs.Ytfdgmknjmljhbaa.P Go.Proofs.YtfdgmknjmljhbaaW.PrintWords Go.Proofs.YtfdgmknjmljhbaaW.PrintLast Go.Proofs.YtfdgmknjmljhbaaW.PrintMore
open Go.Proofs.Ytfdgmknjmljhbaa.Pl Go.Proofs.Ytfdgmknjmljhbaa.EvN Go.Proofs.Ytfdgmknjmljhbaa.Lp Go.Proofs.Ytfdgmknjmljhbaa.Sets Go.Proofs.Ytfdgmknjmljhbaa.Hs Go.Proofs.Ytfdgmknjmljhbaa.Hg Go.Proofs.Ytfdgmknjmljhbaa.Mem
set_option linter.unusedVariables false
set_option linter.unusedSimpArgs false
theorem spec_tail (gen : Int) (rs : List S71) (com ends : List Int) (hr : rs.length ≤ 4611686018427387904) (he : ends.length ≤ 6) {j : Nat} (hj : j < rs.length) {y : S71} (hy : smReader y) (hd : headR gen ends.length y) :
    ∃ b, Cm (fun k => spec_l14Reader.j0 k (j : Int) false gen rs com ends y.f0 y.f1 y.f2 y.f3) b ∧ (b = true ↔ (∀ p, p < ends.length → readR ends y p) ∧ (y.f0 = true → y.f1 = gen → y.f2 = share rs ends.length j)) := by
  obtain ⟨d1, d2, d3, d4⟩ := hd
  obtain ⟨_, _, h2, h3⟩ := hy
  have step : ∀ i, i < ends.length → readR ends y i → ∀ u, Cm (fun k => spec_l14Reader.l0 k (j : Int) y.f3 (y.f3.length : Int) ((i + 1 : Nat) : Int) gen rs com ends y.f0 y.f1 y.f2 y.f3) u → Cm (fun k => spec_l14Reader.l0 k (j : Int) y.f3 (y.f3.length : Int) (i : Int) gen rs com ends y.f0 y.f1 y.f2 y.f3) u := by
    intro i hi q u hu
    refine cm_step (fun k => by rw [spec_l14Reader.l0]) ?_
    simp only [wrap_n hi (show ends.length ≤ 4611686018427387904 by omega)]
    refine cm_yes (by omega) (cm_yes (by omega) (cm_yes (by omega) (cm_yes (by omega) (cm_bind (cm_now fun _ => l1In_f _ _ _) (cm_yes (by simpa using q.1) (cm_bind (has_f y.f2 (i : Int) h2) (cm_if (fun c => hu) (fun c => ?_))))))))
    simp only [decide_eq_true_eq] at c
    exact cm_yes (q.2.resolve_left c) hu
  by_cases hq : ∀ p, p < ends.length → readR ends y p
  · by_cases c0 : y.f0 = true
    · by_cases c1 : y.f1 = gen
      · refine ⟨decide (y.f2 = share rs ends.length j), ?_, by rw [decide_eq_true_eq]; exact ⟨fun e => ⟨hq, fun _ _ => e⟩, fun e => e.2 c0 c1⟩⟩
        refine cm_step (fun k => by rw [spec_l14Reader.j0]) ?_
        refine cm_no (by simp) (yes_cm (L := fun k i => spec_l14Reader.l0 k (j : Int) y.f3 (y.f3.length : Int) i gen rs com ends y.f0 y.f1 y.f2 y.f3) ends.length (fun i hi => step i hi (hq i hi)) ?_)
        refine cm_step (fun k => by rw [spec_l14Reader.l0]) ?_
        exact cm_no (by omega) (cm_yes c0 (cm_yes c1 (cm_bind (specShare_f gen rs com ends hr (by omega) hj) (cm_bind (same_f y.f2 _ h2 (by have := picksN_le (one rs j) ends.length; unfold share; omega) d2 (picksN_rises _ _)) (cm_now fun _ => rfl)))))
      · refine ⟨true, ?_, by simp only [true_iff]; exact ⟨hq, fun _ e => absurd e c1⟩⟩
        refine cm_step (fun k => by rw [spec_l14Reader.j0]) ?_
        refine cm_no (by simp) (yes_cm (L := fun k i => spec_l14Reader.l0 k (j : Int) y.f3 (y.f3.length : Int) i gen rs com ends y.f0 y.f1 y.f2 y.f3) ends.length (fun i hi => step i hi (hq i hi)) ?_)
        refine cm_step (fun k => by rw [spec_l14Reader.l0]) ?_
        exact cm_no (by omega) (cm_yes c0 (cm_no c1 (cm_now fun _ => rfl)))
    · refine ⟨true, ?_, by simp only [true_iff]; exact ⟨hq, fun e _ => absurd e c0⟩⟩
      refine cm_step (fun k => by rw [spec_l14Reader.j0]) ?_
      refine cm_no (by simp) (yes_cm (L := fun k i => spec_l14Reader.l0 k (j : Int) y.f3 (y.f3.length : Int) i gen rs com ends y.f0 y.f1 y.f2 y.f3) ends.length (fun i hi => step i hi (hq i hi)) ?_)
      refine cm_step (fun k => by rw [spec_l14Reader.l0]) ?_
      exact cm_no (by omega) (cm_no c0 (cm_now fun _ => rfl))
  · refine ⟨false, ?_, by simp only [Bool.false_eq_true, false_iff]; exact fun e => hq e.1⟩
    refine cm_step (fun k => by rw [spec_l14Reader.j0]) ?_
    refine cm_no (by simp) (no_cm (L := fun k i => spec_l14Reader.l0 k (j : Int) y.f3 (y.f3.length : Int) i gen rs com ends y.f0 y.f1 y.f2 y.f3) ends.length (fun i => readR ends y i) step ?_ hq)
    intro i hi q
    refine cm_step (fun k => by rw [spec_l14Reader.l0]) ?_
    refine cm_yes (by omega) (cm_yes (by omega) (cm_yes (by omega) (cm_yes (by omega) (cm_bind (cm_now fun _ => l1In_f _ _ _) (cm_if (fun c => cm_bind (has_f y.f2 (i : Int) h2) (cm_if (fun c2 => ?_) (fun c2 => cm_no (fun c3 => ?_) (cm_now fun _ => rfl)))) (fun c => cm_now fun _ => rfl))))))
    · simp only [decide_eq_true_eq] at c c2
      exact absurd ⟨c, .inl c2⟩ q
    · simp only [decide_eq_true_eq] at c c2
      exact q ⟨c, .inr c3⟩
theorem specReader_f (gen : Int) (rs : List S71) (com ends : List Int) (hr : rs.length ≤ 4611686018427387904) (he : ends.length ≤ 6) (hs : ∀ y ∈ rs, smReader y) {j : Nat} (hj : j < rs.length) :
    ∃ b, Cm (fun k => spec_l14Reader.f k gen rs com ends (j : Int)) b ∧ (b = true ↔ goodR gen rs ends j) := by
  have hy : smReader (rd_T71 rs (j : Int)) := hs _ (by rw [rd71 hj]; exact List.getElem_mem hj)
  obtain ⟨_, _, h2, h3⟩ := id hy
  unfold goodR
  generalize hyy : rd_T71 rs (j : Int) = y at *
  have no : Cm (fun k => spec_l14Reader.j0 k (j : Int) true gen rs com ends y.f0 y.f1 y.f2 y.f3) false := by
    refine cm_step (fun k => by rw [spec_l14Reader.j0]) ?_
    exact cm_yes rfl (cm_now fun _ => rfl)
  by_cases hd : headR gen ends.length y
  · obtain ⟨b, hb, hi⟩ := spec_tail gen rs com ends hr he hj hy hd
    refine ⟨b, ?_, by rw [hi]; exact ⟨fun e => ⟨hd, e⟩, fun e => e.2⟩⟩
    obtain ⟨d1, d2, d3, d4⟩ := hd
    unfold spec_l14Reader.f
    rw [hyy]
    refine cm_yes (by omega) (cm_yes (by omega) (cm_bind (cm_now fun _ => l1In_f _ _ _) (cm_yes (by simpa using d3) (cm_bind (group_f y.f2 _ h2) (cm_yes d2 (cm_yes (by omega) (cm_if (fun c => hb) (fun c => ?_))))))))
    have d5 := d4.resolve_left c
    refine cm_yes d5.1 ?_
    rw [show decide ((y.f2.length : Int) > 0) = false from decide_eq_false (by omega)]
    exact hb
  · refine ⟨false, ?_, by simp only [Bool.false_eq_true, false_iff]; exact fun e => hd e.1⟩
    unfold spec_l14Reader.f
    rw [hyy]
    refine cm_yes (by omega) (cm_yes (by omega) (cm_bind (cm_now fun _ => l1In_f _ _ _) (cm_if (fun c1 => cm_bind (group_f y.f2 _ h2) (cm_if (fun c2 => cm_if (fun c3 => cm_if (fun c4 => ?_) (fun c4 => cm_if (fun c5 => ?_) (fun c5 => no))) (fun c3 => no)) (fun c2 => no))) (fun c1 => no))))
    · simp only [decide_eq_true_eq] at c1
      exact absurd ⟨by omega, c2, c1, .inl c4⟩ hd
    · simp only [decide_eq_true_eq] at c1
      rw [show decide ((y.f2.length : Int) > 0) = true from decide_eq_true (by
        have : ¬ y.f2.length = 0 := fun z => hd ⟨by omega, c2, c1, .inr ⟨c5, z⟩⟩
        omega)]
      exact no
theorem specGood_f (gen : Int) (rs : List S71) (com ends : List Int) (hr : rs.length ≤ 4611686018427387904) (hc : com.length ≤ 4611686018427387904) (he : ends.length ≤ 4611686018427387904) (hs : ∀ y ∈ rs, smReader y) :
    ∃ b, Cm (fun k => spec_GoodReaders.f k gen rs com ends) b ∧ (b = true ↔ good gen rs com ends) := by
  have no : Cm (fun k => spec_GoodReaders.j0 k true gen rs com ends) false := by
    refine cm_step (fun k => by rw [spec_GoodReaders.j0]) ?_
    exact cm_yes rfl (cm_now fun _ => rfl)
  by_cases ht : topR gen rs com ends
  · have hd := ht
    obtain ⟨⟨t1, t2⟩, t3, t4⟩ := ht
    have step : ∀ i, i < ends.length → endR com ends i → ∀ u, Cm (fun k => spec_GoodReaders.l0 k ends (ends.length : Int) ((i + 1 : Nat) : Int) gen rs com ends) u → Cm (fun k => spec_GoodReaders.l0 k ends (ends.length : Int) (i : Int) gen rs com ends) u := by
      intro i hi q u hu
      refine cm_step (fun k => by rw [spec_GoodReaders.l0]) ?_
      simp only [wrap_n hi he]
      exact cm_yes (by omega) (cm_yes (by omega) (cm_yes (by omega) (cm_bind (cm_now fun _ => l1In_f _ _ _) (cm_yes (by simpa using q.1) (cm_yes (by omega) (cm_bind (cm_now fun _ => l1In_f _ _ _) (cm_yes (by simpa using q.2) hu)))))))
    have step2 : ∀ i, i < rs.length → goodR gen rs ends i → ∀ u, Cm (fun k => spec_GoodReaders.l1 k (rs.length : Int) ((i + 1 : Nat) : Int) gen rs com ends) u → Cm (fun k => spec_GoodReaders.l1 k (rs.length : Int) (i : Int) gen rs com ends) u := by
      intro i hi q u hu
      obtain ⟨b, hb, hbi⟩ := specReader_f gen rs com ends hr t2.2 hs hi
      refine cm_step (fun k => by rw [spec_GoodReaders.l1]) ?_
      simp only [wrap_n hi hr]
      exact cm_yes (by omega) (cm_bind hb (cm_yes (hbi.2 q) hu))
    have start : ∀ {b : Bool}, Cm (fun k => spec_GoodReaders.l0 k ends (ends.length : Int) 0 gen rs com ends) b → Cm (fun k => spec_GoodReaders.f k gen rs com ends) b := by
      intro b hb
      unfold spec_GoodReaders.f
      refine cm_bind (cm_now fun _ => l1In_f _ _ _) (cm_yes (by simp; omega) (cm_bind (cm_now fun _ => l1In_f _ _ _) (cm_yes (by simp; omega) (cm_yes (by omega) (cm_bind (cm_now fun _ => l1In_f _ _ _) ?_)))))
      refine cm_step (fun k => by rw [spec_GoodReaders.j0]) ?_
      exact cm_no (by simp; omega) hb
    by_cases hq : ∀ p, p < ends.length → endR com ends p
    · by_cases hg : ∀ j, j < rs.length → goodR gen rs ends j
      · refine ⟨true, start (yes_cm (L := fun k i => spec_GoodReaders.l0 k ends (ends.length : Int) i gen rs com ends) ends.length (fun i hi => step i hi (hq i hi)) ?_), by simp only [true_iff]; exact ⟨hd, hq, hg⟩⟩
        refine cm_step (fun k => by rw [spec_GoodReaders.l0]) ?_
        refine cm_no (by omega) (yes_cm (L := fun k i => spec_GoodReaders.l1 k (rs.length : Int) i gen rs com ends) rs.length (fun i hi => step2 i hi (hg i hi)) ?_)
        refine cm_step (fun k => by rw [spec_GoodReaders.l1]) ?_
        exact cm_no (by omega) (cm_now fun _ => rfl)
      · refine ⟨false, start (yes_cm (L := fun k i => spec_GoodReaders.l0 k ends (ends.length : Int) i gen rs com ends) ends.length (fun i hi => step i hi (hq i hi)) ?_), by simp only [Bool.false_eq_true, false_iff]; exact fun e => hg e.2.2⟩
        refine cm_step (fun k => by rw [spec_GoodReaders.l0]) ?_
        refine cm_no (by omega) (no_cm (L := fun k i => spec_GoodReaders.l1 k (rs.length : Int) i gen rs com ends) rs.length (fun i => goodR gen rs ends i) step2 ?_ hg)
        intro i hi q
        obtain ⟨b, hb, hbi⟩ := specReader_f gen rs com ends hr t2.2 hs hi
        refine cm_step (fun k => by rw [spec_GoodReaders.l1]) ?_
        exact cm_yes (by omega) (cm_bind hb (cm_no (fun z => q (hbi.1 z)) (cm_now fun _ => rfl)))
    · refine ⟨false, start (no_cm (L := fun k i => spec_GoodReaders.l0 k ends (ends.length : Int) i gen rs com ends) ends.length (fun i => endR com ends i) step ?_ hq), by simp only [Bool.false_eq_true, false_iff]; exact fun e => hq e.2.1⟩
      intro i hi q
      refine cm_step (fun k => by rw [spec_GoodReaders.l0]) ?_
      refine cm_yes (by omega) (cm_yes (by omega) (cm_yes (by omega) (cm_bind (cm_now fun _ => l1In_f _ _ _) (cm_if (fun c => cm_yes (by omega) (cm_bind (cm_now fun _ => l1In_f _ _ _) (cm_no (fun c2 => ?_) (cm_now fun _ => rfl)))) (fun c => cm_now fun _ => rfl)))))
      simp only [decide_eq_true_eq] at c c2
      exact q ⟨c, c2⟩
  · refine ⟨false, ?_, by simp only [Bool.false_eq_true, false_iff]; exact fun e => ht e.1⟩
    unfold spec_GoodReaders.f
    refine cm_bind (cm_now fun _ => l1In_f _ _ _) (cm_if (fun c1 => cm_bind (cm_now fun _ => l1In_f _ _ _) (cm_if (fun c2 => cm_if (fun c3 => cm_bind (cm_now fun _ => l1In_f _ _ _) ?_) (fun c3 => no)) (fun c2 => no))) (fun c1 => no))
    simp only [decide_eq_true_eq] at c1 c2
    rw [show decide (0 ≤ gen ∧ gen ≤ 1000) = false from decide_eq_false (fun z => ht ⟨⟨by omega, by omega⟩, by omega, z⟩)]
    exact no
end Go.Proofs.Ytfdgmknjmljhbaa.Rd
end
section
namespace Go.Proofs.Ytfdgmknjmljhbaa.Rd
open Go.RowKit Go.Proofs.Ytfdgmknjmljhbaa.P Go.Proofs.YtfdgmknjmljhbaaW.PrintWords Go.Proofs.YtfdgmknjmljhbaaW.PrintLast Go.Proofs.YtfdgmknjmljhbaaW.PrintMore
open Go.Proofs.Ytfdgmknjmljhbaa.Pl Go.Proofs.Ytfdgmknjmljhbaa.EvN Go.Proofs.Ytfdgmknjmljhbaa.Lp Go.Proofs.Ytfdgmknjmljhbaa.Sets Go.Proofs.Ytfdgmknjmljhbaa.Hs Go.Proofs.Ytfdgmknjmljhbaa.Hg Go.Proofs.Ytfdgmknjmljhbaa.Mem
set_option linter.unusedVariables false
set_option linter.unusedSimpArgs false
theorem ends_all (ends : List Int) : ends.all NewRd.okEnd = true ↔ ∀ p, p < ends.length → 0 ≤ rd ends (p : Int) ∧ rd ends (p : Int) ≤ 100 := by
  rw [List.all_eq_true]
  constructor
  · intro h p hp
    have := h _ (List.getElem_mem hp)
    rw [rdn hp]
    simpa [NewRd.okEnd] using this
  · intro h x hx
    obtain ⟨p, hp, rfl⟩ := List.mem_iff_getElem.1 hx
    have := h p hp
    rw [rdn hp] at this
    simpa [NewRd.okEnd] using this
theorem newFlag (n : Nat) (ends : List Int) (he : ends.length ≤ 4611686018427387904) : ∃ r, Cm (fun k => impl_newReaders.f k (n : Int) ends) r ∧ (r.2.2.2.2 = true ↔ ((1 ≤ n ∧ n ≤ 5) ∧ (1 ≤ ends.length ∧ ends.length ≤ 6)) ∧ ∀ p, p < ends.length → 0 ≤ rd ends (p : Int) ∧ rd ends (p : Int) ≤ 100) := by
  have any_f : Cm (fun k => slices_ContainsFunc_int_int_of_impl_newReaders_1.f k ends) (!ends.all NewRd.okEnd) := by
    rw [← NewRd.any_not]
    refine NewRd.anyEnd_f ends (by omega) (fun h => !NewRd.okEnd h) (fun h _ => cm_now fun _ => ?_)
    unfold impl_newReaders_1.f
    rw [in_f, Option.bind_some]
    rfl
  have no : Cm (fun k => impl_newReaders.j0 k (n : Int) ends true) (0, [], [], [], false) := by
    refine cm_step (fun k => by rw [impl_newReaders.j0]) ?_
    exact cm_yes rfl (cm_now fun _ => rfl)
  by_cases h : ((1 ≤ n ∧ n ≤ 5) ∧ (1 ≤ ends.length ∧ ends.length ≤ 6)) ∧ ∀ p, p < ends.length → 0 ≤ rd ends (p : Int) ∧ rd ends (p : Int) ≤ 100
  · obtain ⟨⟨h1, h2⟩, h3⟩ := id h
    refine ⟨(0, List.replicate (n : Int).toNat (NewRd.rdr ends.length), List.replicate ends.length 0, ends, true), ?_, by simp only [true_iff]; exact h⟩
    unfold impl_newReaders.f
    refine cm_bind (cm_now fun _ => in_f _ _ _) (cm_yes (by simp; omega) (cm_bind (cm_now fun _ => in_f _ _ _) (cm_yes (by simp; omega) (cm_bind any_f ?_))))
    rw [(ends_all ends).2 h3]
    refine cm_step (fun k => by rw [impl_newReaders.j0]) ?_
    refine cm_no (by simp) (cm_yes (by omega) (cm_yes (by omega) (cm_bind (cm_now fun _ => rfl) (cm_yes (by simp only [List.length_nil]; omega) ?_))))
    rw [Int.toNat_natCast ends.length, List.nil_append]
    exact NewRd.impl_l0 (by omega) ends _ ends h2.2
  · refine ⟨(0, [], [], [], false), ?_, by simp only [Bool.false_eq_true, false_iff]; exact h⟩
    unfold impl_newReaders.f
    refine cm_bind (cm_now fun _ => in_f _ _ _) (cm_if (fun c1 => cm_bind (cm_now fun _ => in_f _ _ _) (cm_if (fun c2 => cm_bind any_f ?_) (fun c2 => no))) (fun c1 => no))
    simp only [decide_eq_true_eq] at c1 c2
    have : ends.all NewRd.okEnd = false := by
      rw [Bool.eq_false_iff]
      exact fun z => h ⟨⟨by omega, by omega⟩, (ends_all ends).1 z⟩
    rw [this]
    exact no
theorem impl_tail (gen : Int) (rs : List S71) (com ends : List Int) (hr : rs.length ≤ 4611686018427387904) (he : ends.length ≤ 6) {j : Nat} (hj : j < rs.length) {y : S71} (hyy : rd_T71 rs (j : Int) = y) (hy : smReader y) (hd : headR gen ends.length y) :
    ((∀ p, p < ends.length → readR ends y p) → (y.f0 = true → y.f1 = gen → y.f2 = share rs ends.length j) → ∀ u, Cm (fun k => impl_areReaders.l1 k (ends.length : Int) rs (rs.length : Int) ((j + 1 : Nat) : Int) gen rs com ends) u →
        Cm (fun k => impl_areReaders.j3 k (ends.length : Int) (j : Int) rs (rs.length : Int) (j : Int) false gen rs com ends y.f0 y.f1 y.f2 y.f3) u) ∧
    (¬ ((∀ p, p < ends.length → readR ends y p) ∧ (y.f0 = true → y.f1 = gen → y.f2 = share rs ends.length j)) → Cm (fun k => impl_areReaders.j3 k (ends.length : Int) (j : Int) rs (rs.length : Int) (j : Int) false gen rs com ends y.f0 y.f1 y.f2 y.f3) false) := by
  obtain ⟨d1, d2, d3, d4⟩ := hd
  obtain ⟨_, _, h2, h3⟩ := hy
  have step : ∀ i, i < ends.length → readR ends y i → ∀ u, Cm (fun k => impl_areReaders.l2 k (ends.length : Int) (j : Int) rs (rs.length : Int) (j : Int) y.f3 (y.f3.length : Int) ((i + 1 : Nat) : Int) gen rs com ends y.f0 y.f1 y.f2 y.f3) u → Cm (fun k => impl_areReaders.l2 k (ends.length : Int) (j : Int) rs (rs.length : Int) (j : Int) y.f3 (y.f3.length : Int) (i : Int) gen rs com ends y.f0 y.f1 y.f2 y.f3) u := by
    intro i hi q u hu
    refine cm_step (fun k => by rw [impl_areReaders.l2]) ?_
    simp only [wrap_n hi (show ends.length ≤ 4611686018427387904 by omega)]
    refine cm_yes (by omega) (cm_yes (by omega) (cm_yes (by omega) (cm_yes (by omega) (cm_bind (cm_now fun _ => in_f _ _ _) (cm_yes (by simpa using q.1) (cm_if (fun c => hu) (fun c => cm_bind (contains_f y.f2 (i : Int) h2) (cm_yes (by simpa using q.2.resolve_right c) hu))))))))
  have run : (∀ p, p < ends.length → readR ends y p) → ∀ {u : Bool}, Cm (fun k => impl_areReaders.l2 k (ends.length : Int) (j : Int) rs (rs.length : Int) (j : Int) y.f3 (y.f3.length : Int) (ends.length : Int) gen rs com ends y.f0 y.f1 y.f2 y.f3) u → Cm (fun k => impl_areReaders.j3 k (ends.length : Int) (j : Int) rs (rs.length : Int) (j : Int) false gen rs com ends y.f0 y.f1 y.f2 y.f3) u := by
    intro hq u hu
    refine cm_step (fun k => by rw [impl_areReaders.j3]) ?_
    exact cm_no (by simp) (yes_cm (L := fun k i => impl_areReaders.l2 k (ends.length : Int) (j : Int) rs (rs.length : Int) (j : Int) y.f3 (y.f3.length : Int) i gen rs com ends y.f0 y.f1 y.f2 y.f3) ends.length (fun i hi => step i hi (hq i hi)) hu)
  constructor
  · intro hq hc u hu
    refine run hq ?_
    refine cm_step (fun k => by rw [impl_areReaders.l2]) ?_
    simp only [wrap_n hj hr]
    refine cm_no (by omega) (cm_if (fun c0 => cm_if (fun c1 => ?_) (fun c1 => hu)) (fun c0 => hu))
    exact cm_bind (implShare_f gen rs com ends hr (by omega) hj (by rw [hyy]; exact c0)) (cm_bind (equal_f y.f2 _ h2) (cm_yes (by simpa using hc c0 c1) hu))
  · intro h
    by_cases hq : ∀ p, p < ends.length → readR ends y p
    · have hc : y.f0 = true ∧ y.f1 = gen ∧ ¬ y.f2 = share rs ends.length j := by
        by_cases c0 : y.f0 = true
        · by_cases c1 : y.f1 = gen
          · exact ⟨c0, c1, fun z => h ⟨hq, fun _ _ => z⟩⟩
          · exact absurd ⟨hq, fun _ z => absurd z c1⟩ h
        · exact absurd ⟨hq, fun z _ => absurd z c0⟩ h
      refine run hq ?_
      refine cm_step (fun k => by rw [impl_areReaders.l2]) ?_
      exact cm_no (by omega) (cm_yes hc.1 (cm_yes hc.2.1 (cm_bind (implShare_f gen rs com ends hr (by omega) hj (by rw [hyy]; exact hc.1)) (cm_bind (equal_f y.f2 _ h2) (cm_no (by simpa using hc.2.2) (cm_now fun _ => rfl))))))
    · refine cm_step (fun k => by rw [impl_areReaders.j3]) ?_
      refine cm_no (by simp) (no_cm (L := fun k i => impl_areReaders.l2 k (ends.length : Int) (j : Int) rs (rs.length : Int) (j : Int) y.f3 (y.f3.length : Int) i gen rs com ends y.f0 y.f1 y.f2 y.f3) ends.length (fun i => readR ends y i) step ?_ hq)
      intro i hi q
      refine cm_step (fun k => by rw [impl_areReaders.l2]) ?_
      refine cm_yes (by omega) (cm_yes (by omega) (cm_yes (by omega) (cm_yes (by omega) (cm_bind (cm_now fun _ => in_f _ _ _) (cm_if (fun c => cm_no (fun c2 => ?_) (cm_bind (contains_f y.f2 (i : Int) h2) (cm_no (fun c2 => ?_) (cm_now fun _ => rfl)))) (fun c => cm_now fun _ => rfl))))))
      · simp only [decide_eq_true_eq] at c
        exact q ⟨c, .inr c2⟩
      · simp only [decide_eq_true_eq] at c c2
        exact q ⟨c, .inl c2⟩
theorem impl_round (gen : Int) (rs : List S71) (com ends : List Int) (hr : rs.length ≤ 4611686018427387904) (he : ends.length ≤ 6) (hs : ∀ y ∈ rs, smReader y) {j : Nat} (hj : j < rs.length) :
    (goodR gen rs ends j → ∀ u, Cm (fun k => impl_areReaders.l1 k (ends.length : Int) rs (rs.length : Int) ((j + 1 : Nat) : Int) gen rs com ends) u → Cm (fun k => impl_areReaders.l1 k (ends.length : Int) rs (rs.length : Int) (j : Int) gen rs com ends) u) ∧
    (¬ goodR gen rs ends j → Cm (fun k => impl_areReaders.l1 k (ends.length : Int) rs (rs.length : Int) (j : Int) gen rs com ends) false) := by
  have hy : smReader (rd_T71 rs (j : Int)) := hs _ (by rw [rd71 hj]; exact List.getElem_mem hj)
  obtain ⟨_, _, h2, h3⟩ := id hy
  unfold goodR
  generalize hyy : rd_T71 rs (j : Int) = y at *
  have no : Cm (fun k => impl_areReaders.j3 k (ends.length : Int) (j : Int) rs (rs.length : Int) (j : Int) true gen rs com ends y.f0 y.f1 y.f2 y.f3) false := by
    refine cm_step (fun k => by rw [impl_areReaders.j3]) ?_
    exact cm_yes rfl (cm_now fun _ => rfl)
  have go : headR gen ends.length y → ∀ {u : Bool}, Cm (fun k => impl_areReaders.j3 k (ends.length : Int) (j : Int) rs (rs.length : Int) (j : Int) false gen rs com ends y.f0 y.f1 y.f2 y.f3) u → Cm (fun k => impl_areReaders.l1 k (ends.length : Int) rs (rs.length : Int) (j : Int) gen rs com ends) u := by
    intro hd u hu
    obtain ⟨d1, d2, d3, d4⟩ := hd
    refine cm_step (fun k => by rw [impl_areReaders.l1]) ?_
    rw [hyy]
    refine cm_yes (by omega) (cm_yes (by omega) (cm_yes (by omega) (cm_yes (by omega) (cm_bind (areMembers_f y.f2 _ h2 (by omega)) (cm_yes d2 (cm_bind (cm_now fun _ => in_f _ _ _) (cm_yes (by simpa using d3) (cm_if (fun c => hu) (fun c => ?_)))))))))
    have d5 := d4.resolve_left c
    refine cm_yes d5.1 ?_
    rw [show decide ((y.f2.length : Int) > 0) = false from decide_eq_false (by omega)]
    exact hu
  constructor
  · rintro ⟨hd, hq, hc⟩ u hu
    exact go hd ((impl_tail gen rs com ends hr he hj hyy hy hd).1 hq hc u hu)
  · intro h
    by_cases hd : headR gen ends.length y
    · exact go hd ((impl_tail gen rs com ends hr he hj hyy hy hd).2 (fun z => h ⟨hd, z⟩))
    · refine cm_step (fun k => by rw [impl_areReaders.l1]) ?_
      rw [hyy]
      refine cm_yes (by omega) (cm_yes (by omega) (cm_yes (by omega) (cm_if (fun c3 => cm_bind (areMembers_f y.f2 _ h2 (by omega)) (cm_if (fun c2 => cm_bind (cm_now fun _ => in_f _ _ _) (cm_if (fun c1 => cm_if (fun c4 => ?_) (fun c4 => cm_if (fun c5 => ?_) (fun c5 => no))) (fun c1 => no))) (fun c2 => no))) (fun c3 => no))))
      · simp only [decide_eq_true_eq] at c1
        exact absurd ⟨by omega, c2, c1, .inl c4⟩ hd
      · simp only [decide_eq_true_eq] at c1
        rw [show decide ((y.f2.length : Int) > 0) = true from decide_eq_true (by
          have : ¬ y.f2.length = 0 := fun z => hd ⟨by omega, c2, c1, .inr ⟨c5, z⟩⟩
          omega)]
        exact no
theorem areReaders_f (gen : Int) (rs : List S71) (com ends : List Int) (hr : rs.length ≤ 4611686018427387904) (hc : com.length ≤ 4611686018427387904) (he : ends.length ≤ 4611686018427387904) (hs : ∀ y ∈ rs, smReader y) :
    ∃ b, Cm (fun k => impl_areReaders.f k gen rs com ends) b ∧ (b = true ↔ good gen rs com ends) := by
  obtain ⟨r, hn, hni⟩ := newFlag rs.length ends he
  have no : Cm (fun k => impl_areReaders.j0 k (ends.length : Int) true gen rs com ends) false := by
    refine cm_step (fun k => by rw [impl_areReaders.j0]) ?_
    exact cm_yes rfl (cm_now fun _ => rfl)
  by_cases ht : topR gen rs com ends ∧ ∀ p, p < ends.length → 0 ≤ rd ends (p : Int) ∧ rd ends (p : Int) ≤ 100
  · obtain ⟨hd, hE⟩ := ht
    obtain ⟨⟨t1, t2⟩, t3, t4⟩ := id hd
    have start : ∀ {b : Bool}, Cm (fun k => impl_areReaders.l0 k (ends.length : Int) com (com.length : Int) 0 gen rs com ends) b → Cm (fun k => impl_areReaders.f k gen rs com ends) b := by
      intro b hb
      unfold impl_areReaders.f
      refine cm_bind hn (cm_yes (hni.2 ⟨⟨t1, t2⟩, hE⟩) (cm_yes (by omega) (cm_bind (cm_now fun _ => in_f _ _ _) ?_)))
      refine cm_step (fun k => by rw [impl_areReaders.j0]) ?_
      exact cm_no (by simp; omega) hb
    have step : ∀ i, i < com.length → endR com ends i → ∀ u, Cm (fun k => impl_areReaders.l0 k (ends.length : Int) com (com.length : Int) ((i + 1 : Nat) : Int) gen rs com ends) u → Cm (fun k => impl_areReaders.l0 k (ends.length : Int) com (com.length : Int) (i : Int) gen rs com ends) u := by
      intro i hi q u hu
      refine cm_step (fun k => by rw [impl_areReaders.l0]) ?_
      simp only [wrap_n hi hc]
      exact cm_yes (by omega) (cm_yes (by omega) (cm_yes (by omega) (cm_yes (by omega) (cm_bind (cm_now fun _ => in_f _ _ _) (cm_yes (by simpa using q.2) hu)))))
    by_cases hq : ∀ p, p < com.length → endR com ends p
    · by_cases hg : ∀ j, j < rs.length → goodR gen rs ends j
      · refine ⟨true, start (yes_cm (L := fun k i => impl_areReaders.l0 k (ends.length : Int) com (com.length : Int) i gen rs com ends) com.length (fun i hi => step i hi (hq i hi)) ?_), by simp only [true_iff]; exact ⟨hd, fun p hp => hq p (by omega), hg⟩⟩
        refine cm_step (fun k => by rw [impl_areReaders.l0]) ?_
        refine cm_no (by omega) (yes_cm (L := fun k i => impl_areReaders.l1 k (ends.length : Int) rs (rs.length : Int) i gen rs com ends) rs.length (fun i hi => (impl_round gen rs com ends hr t2.2 hs hi).1 (hg i hi)) ?_)
        refine cm_step (fun k => by rw [impl_areReaders.l1]) ?_
        exact cm_no (by omega) (cm_now fun _ => rfl)
      · refine ⟨false, start (yes_cm (L := fun k i => impl_areReaders.l0 k (ends.length : Int) com (com.length : Int) i gen rs com ends) com.length (fun i hi => step i hi (hq i hi)) ?_), by simp only [Bool.false_eq_true, false_iff]; exact fun e => hg e.2.2⟩
        refine cm_step (fun k => by rw [impl_areReaders.l0]) ?_
        exact cm_no (by omega) (no_cm (L := fun k i => impl_areReaders.l1 k (ends.length : Int) rs (rs.length : Int) i gen rs com ends) rs.length (fun i => goodR gen rs ends i) (fun i hi => (impl_round gen rs com ends hr t2.2 hs hi).1) (fun i hi => (impl_round gen rs com ends hr t2.2 hs hi).2) hg)
    · refine ⟨false, start (no_cm (L := fun k i => impl_areReaders.l0 k (ends.length : Int) com (com.length : Int) i gen rs com ends) com.length (fun i => endR com ends i) step ?_ hq), by simp only [Bool.false_eq_true, false_iff]; exact fun e => hq (fun p hp => e.2.1 p (by omega))⟩
      intro i hi q
      refine cm_step (fun k => by rw [impl_areReaders.l0]) ?_
      refine cm_yes (by omega) (cm_yes (by omega) (cm_yes (by omega) (cm_yes (by omega) (cm_bind (cm_now fun _ => in_f _ _ _) (cm_no (fun c => ?_) (cm_now fun _ => rfl))))))
      simp only [decide_eq_true_eq] at c
      exact q ⟨hE i (by omega), c⟩
  · refine ⟨false, ?_, by simp only [Bool.false_eq_true, false_iff]; exact fun e => ht ⟨e.1, fun p hp => (e.2.1 p hp).1⟩⟩
    unfold impl_areReaders.f
    refine cm_bind hn (cm_if (fun c1 => cm_if (fun c2 => cm_bind (cm_now fun _ => in_f _ _ _) ?_) (fun c2 => no)) (fun c1 => no))
    have c3 := hni.1 c1
    rw [show decide (0 ≤ gen ∧ gen ≤ 1000) = false from decide_eq_false (fun z => ht ⟨⟨c3.1, by omega, z⟩, c3.2⟩)]
    exact no
theorem good_both (x : S25) (h : smReaders x) : ∃ b, Cm (fun k => spec_GoodReaders.f k x.f0 x.f1 x.f2 x.f3) b ∧ Cm (fun k => impl_areReaders.f k x.f0 x.f1 x.f2 x.f3) b ∧ (b = true ↔ good x.f0 x.f1 x.f2 x.f3) := by
  obtain ⟨_, ⟨h1, h1s⟩, h2, h3⟩ := h
  obtain ⟨b, hb, hbi⟩ := specGood_f x.f0 x.f1 x.f2 x.f3 h1 h2 h3 h1s
  obtain ⟨c, hc, hci⟩ := areReaders_f x.f0 x.f1 x.f2 x.f3 h1 h2 h3 h1s
  obtain rfl : b = c := by rw [Bool.eq_iff_iff, hbi, hci]
  exact ⟨b, hb, hc, hbi⟩
end Go.Proofs.Ytfdgmknjmljhbaa.Rd
end
section
namespace Go.Proofs.Ytfdgmknjmljhbaa.Rd
open Go.RowKit Go.Proofs.Ytfdgmknjmljhbaa.P Go.Proofs.YtfdgmknjmljhbaaW.PrintWords Go.Proofs.YtfdgmknjmljhbaaW.PrintLast Go.Proofs.YtfdgmknjmljhbaaW.PrintMore
open Go.Proofs.Ytfdgmknjmljhbaa.Pl Go.Proofs.Ytfdgmknjmljhbaa.EvN Go.Proofs.Ytfdgmknjmljhbaa.Lp Go.Proofs.Ytfdgmknjmljhbaa.Sets Go.Proofs.Ytfdgmknjmljhbaa.Hs Go.Proofs.Ytfdgmknjmljhbaa.Hg Go.Proofs.Ytfdgmknjmljhbaa.Mem
set_option linter.unusedVariables false
set_option linter.unusedSimpArgs false
theorem share_both (x : S25) (h : smReaders x) (a : Int) : ∃ r b, Cm (fun k => spec_ShareOf.f k x.f0 x.f1 x.f2 x.f3 a) (r, b) ∧ Cm (fun k => impl_ShareOf.f k x.f0 x.f1 x.f2 x.f3 a) (r, b) ∧ r.length ≤ 6 := by
  obtain ⟨b, hb, hc, hi⟩ := good_both x h
  have hr := h.2.1.1
  have hw : wrap64 ((x.f1.length : Int) - 1) = (x.f1.length : Int) - 1 := wrap_in (by omega) (by omega)
  by_cases g : b = true ∧ (0 ≤ a ∧ a < (x.f1.length : Int)) ∧ (rd_T71 x.f1 a).f0 = true
  · obtain ⟨g0, g1, g2⟩ := g
    have hg := hi.1 g0
    have he := hg.1.1.2
    obtain ⟨j, rfl⟩ : ∃ j : Nat, a = (j : Int) := ⟨a.toNat, by omega⟩
    have hj : j < x.f1.length := by omega
    refine ⟨share x.f1 x.f3.length j, true, ?_, ?_, by have := picksN_le (one x.f1 j) x.f3.length; unfold share; omega⟩
    · unfold spec_ShareOf.f
      exact cm_bind hb (cm_yes g0 (cm_no (by omega) (cm_no (by omega) (cm_yes (by omega) (cm_yes (by omega) (cm_yes g2 (cm_bind (specShare_f x.f0 x.f1 x.f2 x.f3 hr (by omega) hj) (cm_now fun _ => rfl))))))))
    · unfold impl_ShareOf.f
      rw [hw]
      exact cm_bind hc (cm_yes g0 (cm_bind (cm_now fun _ => in_f _ _ _) (cm_yes (by simp; omega) (cm_yes (by omega) (cm_yes (by omega) (cm_yes g2 (cm_bind (implShare_f x.f0 x.f1 x.f2 x.f3 hr (by omega) hj g2) (cm_now fun _ => rfl))))))))
  · refine ⟨[], false, ?_, ?_, Nat.zero_le _⟩
    · unfold spec_ShareOf.f
      exact cm_bind hb (cm_if (fun c0 => cm_if (fun _ => cm_now fun _ => rfl) (fun c1 => cm_if (fun _ => cm_now fun _ => rfl) (fun c2 => cm_yes (by omega) (cm_yes (by omega) (cm_no (fun c3 => g ⟨c0, by omega, c3⟩) (cm_now fun _ => rfl)))))) (fun _ => cm_now fun _ => rfl))
    · unfold impl_ShareOf.f
      rw [hw]
      refine cm_bind hc (cm_if (fun c0 => cm_bind (cm_now fun _ => in_f _ _ _) (cm_if (fun c1 => ?_) (fun _ => cm_now fun _ => rfl))) (fun _ => cm_now fun _ => rfl))
      simp only [decide_eq_true_eq] at c1
      exact cm_yes (by omega) (cm_yes (by omega) (cm_no (fun c3 => g ⟨c0, by omega, c3⟩) (cm_now fun _ => rfl)))
end Go.Proofs.Ytfdgmknjmljhbaa.Rd
end
section
namespace Go.Proofs.Ytfdgmknjmljhbaa.Pure
open Go.RowKit Go.Proofs.Ytfdgmknjmljhbaa.P Go.Proofs.YtfdgmknjmljhbaaW.PrintWords Go.Proofs.YtfdgmknjmljhbaaW.PrintLast Go.Proofs.YtfdgmknjmljhbaaW.PrintMore
open Go.Proofs.Ytfdgmknjmljhbaa.Pl Go.Proofs.Ytfdgmknjmljhbaa.EvN Go.Proofs.Ytfdgmknjmljhbaa.Lp Go.Proofs.Ytfdgmknjmljhbaa.Hs Go.Proofs.Ytfdgmknjmljhbaa.Hg Go.Proofs.Ytfdgmknjmljhbaa.Sz Go.Proofs.Ytfdgmknjmljhbaa.Rd Go.Proofs.Ytfdgmknjmljhbaa.Rd
set_option linter.unusedVariables false
theorem FnExactShareOf : Mk.FnExactShareOf_Pure := by
  intro x0 a1 b0 b1
  obtain ⟨z1, cz1, dz1⟩ := szReaders_wt x0 b0 1048576 (by omega) (by omega)
  by_cases nz1 : z1 < 0
  · obtain ⟨Kz1, jz1⟩ := cz1; exact ⟨Kz1, z1, jz1 _ (by omega), .inl nz1⟩
  simp only [wReaders] at dz1
  obtain ⟨r27, r28, hspec, himpl, hsm⟩ := share_both (cReaders x0) (sm_cReaders x0 b0) a1
  have e2 : (cReaders x0).f2.length = x0.f2.length := rfl
  have e3 : (cReaders x0).f3.length = x0.f3.length := rfl
  obtain ⟨K0, j0⟩ := toReaders_f x0 b0
  obtain ⟨K1, j1⟩ := hspec
  obtain ⟨K2, j2⟩ := himpl
  obtain ⟨K3, j3⟩ := eqIntS_same r27 (by first | omega | assumption | exact hsm)
  obtain ⟨K4, j4⟩ := eqReaders_same _ (sm_cReaders x0 b0)
  obtain ⟨Kz1, jz1⟩ := cz1
  have tb0 : Mk.tot Mk.pcReader (cReaders x0).f1 ≤ 10 * wReaderS x0.f1 := totReader_le _
  have tb1 : Mk.tot (fun _ => 1) (cReaders x0).f2 = _ := Mk.tot_one _
  have tb2 : Mk.tot (fun _ => 1) (cReaders x0).f3 = _ := Mk.tot_one _
  have tb3 : Mk.tot (fun _ => 1) r27 = _ := Mk.tot_one _
  exact ⟨K0 + K1 + K2 + K3 + K4 + Kz1, z1, jz1 _ (by omega), .inr ⟨nz1, (cReaders x0).f0, (cReaders x0).f1, (cReaders x0).f2, (cReaders x0).f3, r27, r28, j0 _ (by omega), j1 _ (by omega), j2 _ (by omega), j3 _ (by omega), j4 _ (by omega), (by omega), (by omega), (by omega), (by omega)⟩⟩
end Go.Proofs.Ytfdgmknjmljhbaa.Pure
end
