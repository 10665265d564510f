-- Written by programs of this session (wip/prune.py, wip/xp.py), out of the translation and the printed words; what the law does not reach is left out. Not trusted: Lean checks it.
import Derived.Laws.World
import Derived.Test.YtomdjipejoafgaaZXCommittedInPx0
import Derived.Test.YtomdjipejoafgaaZXCommittedInW0
import Derived.Test.YtomdjipejoafgaaZXCommittedInPx2
import Derived.Test.YtomdjipejoafgaaZXCommittedInPx5
import Derived.Test.YtomdjipejoafgaaZXCommittedInPx6
import Derived.Test.YtomdjipejoafgaaZXCommittedInPx72
import Derived.Test.YtomdjipejoafgaaZXCommittedInPx74
import Derived.Test.YtomdjipejoafgaaZXCommittedInPxok
import Derived.Test.YtomdjipejoafgaaZXCommittedInPx3
import Derived.Test.YtomdjipejoafgaaZXCommittedInPx1
import Derived.Test.YtomdjipejoafgaaZXCommittedInPx23
import Derived.Test.YtomdjipejoafgaaZXCommittedInPx24
import Derived.Test.YtomdjipejoafgaaZXCommittedInPx25
import Derived.Test.YtomdjipejoafgaaZXCommittedInPx26
import Derived.Laws.BitsAllLaws
import Derived.Test.YtomdjipejoafgaaZXCommittedInPx10
import Derived.Test.YtomdjipejoafgaaZXCommittedInPx4
import Derived.Test.YtomdjipejoafgaaZXCommittedInPx7
import Derived.Test.YtomdjipejoafgaaZXCommittedInPx8
section
namespace Go.Proofs.Ytomdjipejoafgaa.Mk
open Go.RowKit Go.Proofs.YtomdjipejoafgaaW.PrintWords Go.Proofs.YtomdjipejoafgaaW.PrintLast
set_option linter.unusedVariables false
set_option linter.unusedSimpArgs false
abbrev Pl := Nat × Nat × Bool
def adr (p : Pl) : Addr := ⟨p.1, p.2.1, none⟩
def three (k : Int) : Bool := k % 3 == 0
def mkv (t : Bool) (k : Int) : Value := if t = true then .bool (three k) else .int .i64 k
def plain : Bool → Value → Prop
  | true, u => ∃ z, u = .bool z
  | false, u => ∃ z : Int, u = .int .i64 z
theorem plain_mkv (t : Bool) (k : Int) : plain t (mkv t k) := by cases t <;> exact ⟨_, rfl⟩
theorem plain_one {s t : Bool} {u : Value} (h : plain s u) (h2 : plain t u) : s = t := by
  cases s <;> cases t <;> obtain ⟨a, rfl⟩ := h <;> obtain ⟨b, hb⟩ := h2 <;> first | rfl | cases hb
def puts : World → List Pl → Int → World
  | w, [], _ => w
  | w, p :: l, k => puts (w.setCell (adr p) (mkv p.2.2 k)) l (k + 1)
theorem set_size (w : World) (a : Addr) (u : Value) : (w.setCell a u).heap.size = w.heap.size := by simp [World.setCell]
theorem puts_size : ∀ (l : List Pl) (w : World) (k : Int), (puts w l k).heap.size = w.heap.size
  | [], _, _ => rfl
  | p :: l, w, k => by rw [puts, puts_size l, set_size]
theorem set_cong {w1 w2 : World} {i : Nat} (h : w1.heap[i]? = w2.heap[i]?) (a : Addr) (u : Value) : (w1.setCell a u).heap[i]? = (w2.setCell a u).heap[i]? := by
  simp only [World.setCell, Array.getElem?_modify, h]
theorem puts_cong {i : Nat} : ∀ (l : List Pl) {w1 w2 : World} (k : Int), w1.heap[i]? = w2.heap[i]? → (puts w1 l k).heap[i]? = (puts w2 l k).heap[i]?
  | [], _, _, _, h => h
  | p :: l, _, _, k, h => puts_cong l (k + 1) (set_cong h _ _)
theorem puts_app : ∀ (l m : List Pl) (w : World) (k : Int), puts w (l ++ m) k = puts (puts w l k) m (k + (l.length : Int))
  | [], m, w, k => by simp [puts]
  | p :: l, m, w, k => by
    rw [List.cons_append, puts, puts_app l m, puts]
    congr 1
    simp only [List.length_cons]
    omega
theorem puts_far {i : Nat} : ∀ (l : List Pl) (w : World) (k : Int), (∀ p ∈ l, p.1 ≠ i) → (puts w l k).heap[i]? = w.heap[i]?
  | [], _, _, _ => rfl
  | p :: l, w, k, h => by
    rw [puts, puts_far l _ _ (fun q hq => h q (List.mem_cons_of_mem _ hq))]
    exact Below.heap_setCell w _ _ _ (fun e => h p List.mem_cons_self e.symm)
structure Wr (w w' : World) (ps : List Pl) (k : Int) : Prop where
  os : w'.os = w.os
  tape : w'.tape = w.tape
  output : w'.output = w.output
  size : w.heap.size ≤ w'.heap.size
  block : ∀ i, i < w.heap.size → w'.heap[i]? = (puts w ps k).heap[i]?
theorem Wr.refl (w : World) (k : Int) : Wr w w [] k := ⟨rfl, rfl, rfl, Nat.le_refl _, fun _ _ => rfl⟩
theorem Wr.below {w w1 w2 : World} {ps : List Pl} {k : Int} (h : Wr w w1 ps k) (hb : Below w1.heap.size w1 w2) : Wr w w2 ps k :=
  ⟨hb.os.trans h.os, hb.tape.trans h.tape, hb.output.trans h.output, Nat.le_trans h.size hb.size, fun i hi => (hb.block i (Nat.lt_of_lt_of_le hi h.size)).trans (h.block i hi)⟩
theorem Wr.trans {w w1 w2 : World} {ps bs : List Pl} {k j : Int} (h : Wr w w1 ps k) (g : Wr w1 w2 bs j) (hj : j = k + (ps.length : Int)) : Wr w w2 (ps ++ bs) k := by
  subst hj
  refine ⟨g.os.trans h.os, g.tape.trans h.tape, g.output.trans h.output, Nat.le_trans h.size g.size, fun i hi => ?_⟩
  rw [g.block i (Nat.lt_of_lt_of_le hi h.size), puts_app]
  exact puts_cong bs _ (h.block i hi)
theorem Wr.one (w : World) (p : Pl) (k : Int) : Wr w (w.setCell (adr p) (mkv p.2.2 k)) [p] k :=
  ⟨rfl, rfl, rfl, Nat.le_of_eq (set_size w _ _).symm, fun _ _ => rfl⟩
theorem Wr.put {w w1 : World} {ps : List Pl} {k j : Int} (h : Wr w w1 ps k) (p : Pl) (hj : j = k + (ps.length : Int)) : Wr w (w1.setCell (adr p) (mkv p.2.2 j)) (ps ++ [p]) k :=
  h.trans (Wr.one w1 p j) hj
theorem Wr.kept {w w' : World} {ps : List Pl} {k : Int} {S : Nat → Prop} (h : Wr w w' ps k) (hS : ∀ p ∈ ps, S p.1) : Kept w w' S :=
  ⟨h.size, fun i hi hn => (h.block i hi).trans (puts_far ps w k (fun p hp e => hn (e ▸ hS p hp)))⟩
theorem Wr.under {w0 w w' : World} {ps : List Pl} {k : Int} (h : Wr w w' ps k) (hb : Below w0.heap.size w0 w) (ha : ∀ p ∈ ps, w0.heap.size ≤ p.1) : Below w0.heap.size w0 w' :=
  ⟨h.os.trans hb.os, h.tape.trans hb.tape, h.output.trans hb.output, Nat.le_trans hb.size h.size, fun i hi =>
    ((h.block i (Nat.lt_of_lt_of_le hi hb.size)).trans (puts_far ps w k (fun p hp e => by have := ha p hp; omega))).trans (hb.block i hi)⟩
def okc (w : World) (p : Pl) : Prop := (∃ u, w.cell? (adr p) = some u ∧ plain p.2.2 u) ∧ w.frozen? (adr p) = false
def okh (w : World) (q : (Nat × Nat) × Value) : Prop := w.cell? ⟨q.1.1, q.1.2, none⟩ = some q.2 ∧ ∃ A n c, q.2 = .slice A n c
theorem adr_ne {p q : Pl} (h : ¬ (p.1 = q.1 ∧ p.2.1 = q.2.1)) : adr p ≠ adr q := by
  intro e
  injection e with e1 e2
  exact h ⟨e1, e2⟩
theorem okc_set {w : World} {p q : Pl} (hp : okc w p) (hq : okc w q) (k : Int) : okc (w.setCell (adr p) (mkv p.2.2 k)) q := by
  refine ⟨?_, by rw [World.frozen?_setCell]; exact hq.2⟩
  obtain ⟨⟨u, hu, hpu⟩, _⟩ := hp
  obtain ⟨⟨v, hv, hpv⟩, _⟩ := hq
  by_cases c : p.1 = q.1 ∧ p.2.1 = q.2.1
  · have e : adr p = adr q := by unfold adr; rw [c.1, c.2]
    rw [e] at hu ⊢
    rw [hu] at hv
    cases hv
    exact ⟨_, World.cell?_setCell_same _ _ _ hu, by rw [plain_one hpv hpu]; exact plain_mkv _ _⟩
  · exact ⟨v, by rw [World.cell?_setCell_other (h := adr_ne c)]; exact hv, hpv⟩
theorem okh_set {w : World} {p : Pl} {q : (Nat × Nat) × Value} (hp : okc w p) (hq : okh w q) (k : Int) : okh (w.setCell (adr p) (mkv p.2.2 k)) q := by
  obtain ⟨⟨u, hu, hpu⟩, _⟩ := hp
  obtain ⟨hv, A, n, c, he⟩ := hq
  refine ⟨?_, A, n, c, he⟩
  rw [World.cell?_setCell_other]
  · exact hv
  · intro e
    rw [e, hv, he] at hu
    cases hu
    cases hb : p.2.2 <;> rw [hb] at hpu <;> obtain ⟨z, hz⟩ := hpu <;> cases hz
structure Pt (w : World) (hs : List ((Nat × Nat) × Value)) (ps : List Pl) : Prop where
  h : ∀ q ∈ hs, okh w q
  a : ∀ p ∈ ps, okc w p
theorem Pt.nil (w : World) : Pt w [] [] := ⟨fun _ h => by simp at h, fun _ h => by simp at h⟩
theorem Pt.app {w : World} {h1 h2 : List ((Nat × Nat) × Value)} {a1 a2 : List Pl} (x : Pt w h1 a1) (y : Pt w h2 a2) : Pt w (h1 ++ h2) (a1 ++ a2) :=
  ⟨fun q hq => (List.mem_append.1 hq).elim (x.h q) (y.h q), fun p hp => (List.mem_append.1 hp).elim (x.a p) (y.a p)⟩
theorem Pt.right {w : World} {h1 h2 : List ((Nat × Nat) × Value)} {a1 a2 : List Pl} (x : Pt w (h1 ++ h2) (a1 ++ a2)) : Pt w h2 a2 :=
  ⟨fun q hq => x.h q (List.mem_append_right _ hq), fun p hp => x.a p (List.mem_append_right _ hp)⟩
theorem Pt.puts {hs : List ((Nat × Nat) × Value)} {ps : List Pl} : ∀ (bs : List Pl) {w : World} (k : Int), Pt w hs ps → (∀ p ∈ bs, okc w p) → Pt (puts w bs k) hs ps
  | [], _, _, h, _ => h
  | p :: bs, w, k, h, hb => by
    have hp := hb p List.mem_cons_self
    exact Pt.puts bs (k + 1) ⟨fun q hq => okh_set hp (h.h q hq) k, fun q hq => okc_set hp (h.a q hq) k⟩ (fun q hq => okc_set hp (hb q (List.mem_cons_of_mem _ hq)) k)
theorem okc_block {w w' : World} {p : Pl} (h : okc w p) (hb : ∀ i, i < w.heap.size → w'.heap[i]? = w.heap[i]?) : okc w' p := by
  obtain ⟨⟨u, hu, hp⟩, hf⟩ := h
  have := hb _ (World.block_lt_of_cell? _ _ hu)
  exact ⟨⟨u, by rw [World.cell?_of_block this]; exact hu, hp⟩, by rw [World.frozen?_of_block this]; exact hf⟩
theorem okh_block {w w' : World} {q : (Nat × Nat) × Value} (h : okh w q) (hb : ∀ i, i < w.heap.size → w'.heap[i]? = w.heap[i]?) : okh w' q :=
  ⟨by rw [World.cell?_of_block (hb _ (World.block_lt_of_cell? _ _ h.1))]; exact h.1, h.2⟩
theorem Pt.block {w w' : World} {hs : List ((Nat × Nat) × Value)} {ps : List Pl} (h : Pt w hs ps) (hb : ∀ i, i < w.heap.size → w'.heap[i]? = w.heap[i]?) : Pt w' hs ps :=
  ⟨fun q hq => okh_block (h.h q hq) hb, fun p hp => okc_block (h.a p hp) hb⟩
theorem Pt.below {w w' : World} {hs : List ((Nat × Nat) × Value)} {ps : List Pl} (h : Pt w hs ps) (hb : Below w.heap.size w w') : Pt w' hs ps := h.block hb.block
theorem Pt.wr {w w' : World} {hs : List ((Nat × Nat) × Value)} {ps bs : List Pl} {k : Int} (h : Pt w hs ps) (hw : Wr w w' bs k) (hb : ∀ p ∈ bs, okc w p) : Pt w' hs ps :=
  (h.puts bs k hb).block (fun i hi => hw.block i (by rwa [puts_size] at hi))
theorem Pt.set {w : World} {hs : List ((Nat × Nat) × Value)} {ps : List Pl} (h : Pt w hs ps) {p : Pl} (hp : okc w p) (k : Int) : Pt (w.setCell (adr p) (mkv p.2.2 k)) hs ps :=
  ⟨fun q hq => okh_set hp (h.h q hq) k, fun q hq => okc_set hp (h.a q hq) k⟩
def Hs (w : World) (ps : List Pl) (k : Int) : Prop := ∀ (i : Nat) (p : Pl), ps[i]? = some p → w.cell? (adr p) = some (mkv p.2.2 (k + (i : Int)))
theorem Hs.block {w w' : World} {ps : List Pl} {k : Int} (h : Hs w ps k) (hb : ∀ i, i < w.heap.size → w'.heap[i]? = w.heap[i]?) : Hs w' ps k :=
  fun i p hp => by rw [World.cell?_of_block (hb _ (World.block_lt_of_cell? _ _ (h i p hp)))]; exact h i p hp
theorem Hs.below {w w' : World} {ps : List Pl} {k : Int} (h : Hs w ps k) (hb : Below w.heap.size w w') : Hs w' ps k := h.block hb.block
theorem Hs.head {w : World} {p : Pl} {ps : List Pl} {k : Int} (h : Hs w (p :: ps) k) : w.cell? (adr p) = some (mkv p.2.2 k) := by
  have := h 0 p rfl
  simpa using this
theorem Hs.right {w : World} {ps bs : List Pl} {k : Int} (h : Hs w (ps ++ bs) k) : Hs w bs (k + (ps.length : Int)) := fun i p hp => by
  have := h (ps.length + i) p (by rw [List.getElem?_append_right (by omega), Nat.add_sub_cancel_left]; exact hp)
  rw [this]
  congr 2
  omega
def apart (ps : List Pl) : Prop := (ps.map fun p => (p.1, p.2.1)).Nodup
theorem puts_cell : ∀ (l : List Pl) (w : World) (k : Int) (q : Pl), (∀ p ∈ l, ¬ (p.1 = q.1 ∧ p.2.1 = q.2.1)) → (puts w l k).cell? (adr q) = w.cell? (adr q)
  | [], _, _, _, _ => rfl
  | p :: l, w, k, q, h => by
    rw [puts, puts_cell l _ _ q (fun r hr => h r (List.mem_cons_of_mem _ hr)), World.cell?_setCell_other (h := adr_ne (h p List.mem_cons_self))]
theorem hs_puts : ∀ (ps : List Pl) {w : World} (k : Int), apart ps → (∀ p ∈ ps, okc w p) → Hs (puts w ps k) ps k
  | [], _, _, _, _ => fun i p h => by simp at h
  | q :: ps, w, k, hn, ho => by
    have hq := ho q List.mem_cons_self
    unfold apart at hn
    rw [List.map_cons, List.nodup_cons] at hn
    have ih := hs_puts ps (w := w.setCell (adr q) (mkv q.2.2 k)) (k + 1) hn.2 (fun p hp => okc_set hq (ho p (List.mem_cons_of_mem _ hp)) k)
    intro i p hp
    cases i with
    | zero =>
      simp only [List.getElem?_cons_zero, Option.some.injEq] at hp
      subst hp
      rw [puts, puts_cell ps _ _ q (fun r hr e => hn.1 (List.mem_map.2 ⟨r, hr, by rw [e.1, e.2]⟩))]
      obtain ⟨⟨u, hu, _⟩, _⟩ := hq
      rw [World.cell?_setCell_same _ _ _ hu]
      congr 2
      omega
    | succ i =>
      simp only [List.getElem?_cons_succ] at hp
      rw [puts, ih i p hp]
      congr 2
      omega
theorem Wr.hs {w w' : World} {ps : List Pl} {k : Int} (h : Wr w w' ps k) (hn : apart ps) (ho : ∀ p ∈ ps, okc w p) : Hs w' ps k :=
  (hs_puts ps k hn ho).block (fun i hi => h.block i (by rwa [puts_size] at hi))
structure Md where
  sz : Nat
  Sh : Nat → Nat → List ((Nat × Nat) × Value) → List Pl → Prop
namespace Md
def int : Md := ⟨1, fun g o hs ps => hs = [] ∧ ps = [(g, o, false)]⟩
def bool : Md := ⟨1, fun g o hs ps => hs = [] ∧ ps = [(g, o, true)]⟩
def pair (a b : Md) : Md := ⟨a.sz + b.sz, fun g o hs ps => ∃ h1 a1 h2 a2, a.Sh g o h1 a1 ∧ b.Sh g (o + a.sz) h2 a2 ∧ hs = h1 ++ h2 ∧ ps = a1 ++ a2⟩
def N (d : Md) (g : Nat) : Nat → Nat → List ((Nat × Nat) × Value) → List Pl → Prop
  | _, 0, hs, ps => hs = [] ∧ ps = []
  | j, n + 1, hs, ps => ∃ h1 a1 h2 a2, d.Sh g (j * d.sz) h1 a1 ∧ N d g (j + 1) n h2 a2 ∧ hs = h1 ++ h2 ∧ ps = a1 ++ a2
def Row (d : Md) (v : Value) (hs : List ((Nat × Nat) × Value)) (ps : List Pl) : Prop :=
  ∃ A n c, v = .slice A n c ∧ n ≤ c ∧ n ≤ 9223372036854775807 ∧ ((n = 0 ∧ hs = [] ∧ ps = []) ∨ ∃ g, A = some ⟨g, 0, none⟩ ∧ d.N g 0 n hs ps)
def Nr (d : Md) (A : Option Addr) (j n : Nat) (hs : List ((Nat × Nat) × Value)) (ps : List Pl) : Prop := (n = 0 ∧ hs = [] ∧ ps = []) ∨ ∃ g, A = some ⟨g, 0, none⟩ ∧ d.N g j n hs ps
theorem Nr_nil {d : Md} {A : Option Addr} {j : Nat} {hs : List ((Nat × Nat) × Value)} {ps : List Pl} (h : d.Nr A j 0 hs ps) : ps = [] := by
  rcases h with ⟨_, _, h⟩ | ⟨g, _, h⟩
  · exact h
  · exact h.2
theorem Nr_cons {d : Md} {A : Option Addr} {j n : Nat} {hs : List ((Nat × Nat) × Value)} {ps : List Pl} (h : d.Nr A j (n + 1) hs ps) :
    ∃ g, A = some ⟨g, 0, none⟩ ∧ ∃ h1 a1 h2 a2, d.Sh g (j * d.sz) h1 a1 ∧ d.Nr A (j + 1) n h2 a2 ∧ hs = h1 ++ h2 ∧ ps = a1 ++ a2 := by
  rcases h with ⟨h, _⟩ | ⟨g, hA, h1, a1, h2, a2, x, y, z⟩
  · cases h
  · exact ⟨g, hA, h1, a1, h2, a2, x, .inr ⟨g, hA, y⟩, z⟩
def slice (d : Md) : Md := ⟨1, fun g o hs ps => ∃ v h1, d.Row v h1 ps ∧ hs = ((g, o), v) :: h1⟩
end Md
end Go.Proofs.Ytomdjipejoafgaa.Mk
end
section
namespace Go.Proofs.Ytomdjipejoafgaa.Mk
open Go.RowKit Go.Proofs.YtomdjipejoafgaaW.PrintWords Go.Proofs.YtomdjipejoafgaaW.PrintLast
set_option linter.unusedVariables false
set_option linter.unusedSimpArgs false
theorem apart_nil : apart [] := List.nodup_nil
theorem apart_app {a b : List Pl} (ha : apart a) (hb : apart b) (h : ∀ p ∈ a, ∀ q ∈ b, ¬ (p.1 = q.1 ∧ p.2.1 = q.2.1)) : apart (a ++ b) := by
  unfold apart at *
  rw [List.map_append, List.nodup_append]
  refine ⟨ha, hb, fun x hx y hy e => ?_⟩
  obtain ⟨p, hp, rfl⟩ := List.mem_map.1 hx
  obtain ⟨q, hq, rfl⟩ := List.mem_map.1 hy
  injection e with e1 e2
  exact h p hp q hq ⟨e1, e2⟩
structure Br {α : Type} (d : Kd α) (m : Md) (c inn : α → Nat) (ex : α → Prop) : Prop where
  sz : m.sz = d.sz
  el : ∀ {w : World} {base : Nat} {ok : Nat → Prop} {x : α} {cs : List Value} {g o : Nat}, d.M w base ok x cs → (∀ k, ok k → k ≠ g) → (∀ j u, cs[j]? = some u → w.cell? ⟨g, o + j, none⟩ = some u) → (∀ j, w.frozen? ⟨g, o + j, none⟩ = false) →
    ∃ hs ps, m.Sh g o hs ps ∧ Pt w hs ps ∧ ps.length = c x ∧ (ex x → apart ps) ∧ (∀ p ∈ ps, (p.1 = g ∧ o ≤ p.2.1 ∧ p.2.1 < o + m.sz) ∨ (ok p.1 ∧ inn x ≠ 0)) ∧ ∀ q ∈ hs, q.1.1 = g ∨ ok q.1.1
namespace Br
variable {α β : Type}
theorem int : Br (Kd.int .i64) Md.int (fun _ => 1) (fun _ => 0) (fun _ => True) where
  sz := rfl
  el := by
    intro w base ok x cs g o h _ hc hf
    obtain rfl : cs = [.int .i64 x] := h
    refine ⟨[], [(g, o, false)], ⟨rfl, rfl⟩, ⟨fun _ h => by simp at h, fun p hp => ?_⟩, rfl, fun _ => by simp [apart], fun p hp => ?_, fun _ h => by simp at h⟩
    · obtain rfl := List.mem_singleton.1 hp
      exact ⟨⟨_, hc 0 _ rfl, x, rfl⟩, hf 0⟩
    · obtain rfl := List.mem_singleton.1 hp
      exact .inl ⟨rfl, Nat.le_refl _, Nat.lt_succ_self _⟩
theorem bool : Br Kd.bool Md.bool (fun _ => 1) (fun _ => 0) (fun _ => True) where
  sz := rfl
  el := by
    intro w base ok x cs g o h _ hc hf
    obtain rfl : cs = [.bool x] := h
    refine ⟨[], [(g, o, true)], ⟨rfl, rfl⟩, ⟨fun _ h => by simp at h, fun p hp => ?_⟩, rfl, fun _ => by simp [apart], fun p hp => ?_, fun _ h => by simp at h⟩
    · obtain rfl := List.mem_singleton.1 hp
      exact ⟨⟨_, hc 0 _ rfl, x, rfl⟩, hf 0⟩
    · obtain rfl := List.mem_singleton.1 hp
      exact .inl ⟨rfl, Nat.le_refl _, Nat.lt_succ_self _⟩
theorem pair {d1 : Kd α} {d2 : Kd β} {m1 m2 : Md} {c1 i1 : α → Nat} {c2 i2 : β → Nat} {e1 : α → Prop} {e2 : β → Prop} (h1 : Br d1 m1 c1 i1 e1) (h2 : Br d2 m2 c2 i2 e2) :
    Br (Kd.pair d1 d2) (Md.pair m1 m2) (fun x => c1 x.1 + c2 x.2) (fun x => i1 x.1 + i2 x.2) (fun x => e1 x.1 ∧ e2 x.2 ∧ (i1 x.1 = 0 ∨ i2 x.2 = 0)) where
  sz := by show m1.sz + m2.sz = d1.sz + d2.sz; rw [h1.sz, h2.sz]
  el := by
    rintro w base ok x cs g o ⟨u0, u1, rfl, hM1, hM2⟩ hg hc hf
    have hl := d1.K_len (d1.K_of_M hM1)
    obtain ⟨s1, a1, sh1, p1, l1, x1, b1, q1⟩ := h1.el (g := g) (o := o) hM1 hg (fun j u hu => hc j u (by rw [List.getElem?_append_left (List.getElem?_eq_some_iff.1 hu).1]; exact hu)) hf
    obtain ⟨s2, a2, sh2, p2, l2, x2, b2, q2⟩ := h2.el (g := g) (o := o + m1.sz) hM2 hg (fun j u hu => by
      have := hc (m1.sz + j) u (by rw [List.getElem?_append_right (by rw [hl, h1.sz]; omega), hl, h1.sz, Nat.add_sub_cancel_left]; exact hu)
      rw [← Nat.add_assoc] at this
      exact this) (fun j => by have := hf (m1.sz + j); rw [← Nat.add_assoc] at this; exact this)
    refine ⟨s1 ++ s2, a1 ++ a2, ⟨s1, a1, s2, a2, sh1, sh2, rfl, rfl⟩, p1.app p2, by rw [List.length_append, l1, l2], ?_, ?_, fun q hq => (List.mem_append.1 hq).elim (q1 q) (q2 q)⟩
    · rintro ⟨y1, y2, y3⟩
      refine apart_app (x1 y1) (x2 y2) (fun p hp q hq e => ?_)
      rcases b1 p hp with hp' | ⟨hp', hp2⟩
      · rcases b2 q hq with hq' | ⟨hq', _⟩
        · omega
        · exact hg _ hq' (by rw [← e.1]; exact hp'.1)
      · rcases b2 q hq with hq' | ⟨_, hq2⟩
        · exact hg _ hp' (by rw [e.1]; exact hq'.1)
        · exact y3.elim hp2 hq2
    · intro p hp
      show (p.1 = g ∧ o ≤ p.2.1 ∧ p.2.1 < o + (m1.sz + m2.sz)) ∨ _
      rcases List.mem_append.1 hp with hp | hp
      · rcases b1 p hp with hp' | hp'
        · exact .inl ⟨hp'.1, by omega, by omega⟩
        · exact .inr ⟨hp'.1, by have := hp'.2; omega⟩
      · rcases b2 p hp with hp' | hp'
        · exact .inl ⟨hp'.1, by omega, by omega⟩
        · exact .inr ⟨hp'.1, by have := hp'.2; omega⟩
theorem iso {d : Kd α} {m : Md} {c i : α → Nat} {e : α → Prop} (h : Br d m c i e) (f : β → α) : Br (Kd.iso d f) m (fun x => c (f x)) (fun x => i (f x)) (fun x => e (f x)) where
  sz := h.sz
  el := fun hM => h.el hM
end Br
section
variable {α : Type} {d : Kd α} {m : Md} {c inn : α → Nat} {ex : α → Prop}
def tot (c : α → Nat) (xs : List α) : Nat := (xs.map c).sum
theorem tot_one (xs : List α) : tot (fun _ => 1) xs = xs.length := by
  induction xs with
  | nil => rfl
  | cons x xs ih =>
    unfold tot at *
    rw [List.map_cons, List.sum_cons, ih, List.length_cons, Nat.add_comm]
theorem tot_drop (c : α → Nat) (xs : List α) (j : Nat) (h : j < xs.length) : tot c (xs.drop j) = c xs[j] + tot c (xs.drop (j + 1)) := by
  unfold tot
  rw [List.drop_eq_getElem_cons h, List.map_cons, List.sum_cons]
theorem row_n (hb : Br d m c inn ex) {w : World} {base g : Nat} {ok : Nat → Prop} {Q : Nat → Nat → Prop} (xs : List α)
    (E : ∀ i (h : i < xs.length), ∃ cs, d.M w base (fun k => ok k ∧ k ≠ g ∧ Q i k) xs[i] cs ∧ (∀ j u, cs[j]? = some u → w.cell? ⟨g, i * m.sz + j, none⟩ = some u) ∧ ∀ j, w.frozen? ⟨g, i * m.sz + j, none⟩ = false) :
    ∀ n j, j + n = xs.length → ∃ hs ps, m.N g j n hs ps ∧ Pt w hs ps ∧ ps.length = tot c (xs.drop j) ∧ (∀ q ∈ hs, q.1.1 = g ∨ ok q.1.1) ∧
      (∀ p ∈ ps, (p.1 = g ∧ j * m.sz ≤ p.2.1) ∨ (ok p.1 ∧ p.1 ≠ g ∧ ∃ i, j ≤ i ∧ Q i p.1 ∧ ∃ h : i < xs.length, inn xs[i] ≠ 0)) ∧
      ((∀ x ∈ xs, ex x) → ((∀ i i' k, Q i k → Q i' k → i = i') ∨ ∀ x ∈ xs, inn x = 0) → apart ps)
  | 0, j, e => ⟨[], [], ⟨rfl, rfl⟩, Pt.nil w, by
      rw [List.drop_eq_nil_of_le (by omega)]
      rfl, fun q hq => by simp at hq, fun p hp => by simp at hp, fun _ _ => apart_nil⟩
  | n + 1, j, e => by
    have hj : j < xs.length := by omega
    obtain ⟨cs, hM, hc, hf⟩ := E j hj
    obtain ⟨s1, a1, sh1, p1, l1, x1, b1, q1⟩ := hb.el (g := g) (o := j * m.sz) hM (fun k hk => hk.2.1) hc hf
    obtain ⟨s2, a2, sh2, p2, l2, q2, b2, x2⟩ := row_n hb xs E n (j + 1) (by omega)
    have hmul : (j + 1) * m.sz = j * m.sz + m.sz := Nat.succ_mul _ _
    refine ⟨s1 ++ s2, a1 ++ a2, ⟨s1, a1, s2, a2, sh1, sh2, rfl, rfl⟩, p1.app p2, by rw [List.length_append, l1, l2, tot_drop c xs j hj], fun q hq => (List.mem_append.1 hq).elim (fun h => (q1 q h).imp_right (·.1)) (q2 q), ?_, ?_⟩
    · intro p hp
      rcases List.mem_append.1 hp with hp | hp
      · rcases b1 p hp with hp' | hp'
        · exact .inl ⟨hp'.1, hp'.2.1⟩
        · exact .inr ⟨hp'.1.1, hp'.1.2.1, j, Nat.le_refl _, hp'.1.2.2, hj, hp'.2⟩
      · rcases b2 p hp with hp' | ⟨h1, h2, i, hi, hq, hl, hn⟩
        · exact .inl ⟨hp'.1, by omega⟩
        · exact .inr ⟨h1, h2, i, by omega, hq, hl, hn⟩
    · intro y1 y2
      refine apart_app (x1 (y1 _ (List.getElem_mem hj))) (x2 y1 y2) (fun p hp q hq e => ?_)
      rcases b1 p hp with hp' | hp'
      · rcases b2 q hq with hq' | hq'
        · omega
        · exact hq'.2.1 (by rw [← e.1]; exact hp'.1)
      · rcases b2 q hq with hq' | ⟨_, _, i, hi, hqi, hl, hn⟩
        · exact hp'.1.2.1 (by rw [e.1]; exact hq'.1)
        · rcases y2 with y2 | y2
          · have := y2 j i p.1 hp'.1.2.2 (by rw [e.1]; exact hqi)
            omega
          · exact hn (y2 _ (List.getElem_mem hl))
theorem row_R (hb : Br d m c inn ex) {e base : Nat} {w : World} {ok : Nat → Prop} {v : Value} {xs : List α} (h : d.R e w base ok v xs) :
    ∃ hs ps, m.Row v hs ps ∧ Pt w hs ps ∧ ps.length = tot c xs ∧ (∀ q ∈ hs, ok q.1.1) ∧ (∀ p ∈ ps, ok p.1 ∧ (some p.1 = v.ownBlock ∨ ∃ x ∈ xs, inn x ≠ 0)) ∧ ((∀ x ∈ xs, ex x) → (∀ x ∈ xs, inn x = 0) → apart ps) := by
  obtain ⟨A, cp, rfl, hle, hC⟩ := Kd.R_reads h
  have hmax : xs.length ≤ 9223372036854775807 := hC.2.1
  by_cases hp : 0 < xs.length
  · obtain ⟨g, cap, he, _, _, _⟩ := Kd.R_form h hp
    injection he with h1 h2 h3
    subst h1
    obtain ⟨z⟩ : Nonempty α := ⟨xs[0]⟩
    obtain ⟨hs, ps, hN, hPt, hl, hq0, hbk, hx⟩ := row_n hb (g := g) (ok := ok) (Q := fun _ _ => True) (base := base) (w := w) xs (fun i hi => by
      obtain ⟨cs, _, hM, hc, hf⟩ := Kd.R_elem h z (i : Int) (by omega) (by omega)
      rw [Int.toNat_natCast] at hM hc hf
      rw [List.getD_eq_getElem?_getD, List.getElem?_eq_getElem hi, Option.getD_some] at hM
      rw [← hb.sz] at hc hf
      exact ⟨cs, d.M_mono (fun k hk => ⟨hk.1, hk.2, trivial⟩) hM, hc, hf⟩) xs.length 0 (by omega)
    refine ⟨hs, ps, ⟨_, _, _, rfl, hle, hmax, .inr ⟨g, rfl, hN⟩⟩, hPt, by rw [hl, List.drop_zero], fun q hq => (hq0 q hq).elim (fun e => by rw [e]; exact h.1 g rfl) id, fun p hp => ?_, fun y1 y2 => hx y1 (.inr y2)⟩
    rcases hbk p hp with hp' | ⟨hp', _, i, _, _, hl, hn⟩
    · exact ⟨by rw [hp'.1]; exact h.1 g rfl, .inl (by rw [hp'.1]; rfl)⟩
    · exact ⟨hp', .inr ⟨_, List.getElem_mem hl, hn⟩⟩
  · have h0 : xs = [] := List.eq_nil_of_length_eq_zero (by omega)
    subst h0
    exact ⟨[], [], ⟨_, _, _, rfl, hle, hmax, .inl ⟨rfl, rfl, rfl⟩⟩, Pt.nil w, rfl, fun q hq => by simp at hq, fun p hp => by simp at hp, fun _ _ => apart_nil⟩
theorem row_S (hb : Br d m c inn ex) {e base : Nat} {w : World} {ok : Nat → Prop} {v : Value} {xs : List α} (h : Kd.S d e w base ok v xs) :
    ∃ hs ps, m.Row v hs ps ∧ Pt w hs ps ∧ ps.length = tot c xs ∧ (∀ q ∈ hs, ok q.1.1) ∧ (∀ p ∈ ps, ok p.1 ∧ (some p.1 = v.ownBlock ∨ ∃ x ∈ xs, inn x ≠ 0)) ∧ ((∀ x ∈ xs, ex x) → apart ps) := by
  have hR := Kd.S_R h
  obtain ⟨A, cp, rfl, hle, hC⟩ := Kd.R_reads hR
  have hmax : xs.length ≤ 9223372036854775807 := hC.2.1
  obtain ⟨f, hf_⟩ := h
  by_cases hp : 0 < xs.length
  · obtain ⟨g, cap, he, _, _, _⟩ := Kd.R_form hR hp
    injection he with h1 h2 h3
    subst h1
    obtain ⟨z⟩ : Nonempty α := ⟨xs[0]⟩
    obtain ⟨hs, ps, hN, hPt, hl, hq0, hbk, hx⟩ := row_n hb (g := g) (ok := ok) (Q := fun i k => f k = i) (base := base) (w := w) xs (fun i hi => by
      obtain ⟨cs, _, hM, hc, hf⟩ := Kd.R_elem hf_ (z, 0) (i : Int) (by omega) (by omega)
      rw [Int.toNat_natCast] at hM hc hf
      rw [List.getD_eq_getElem?_getD, Kd.zip_at (List.getElem?_eq_getElem hi), Option.getD_some] at hM
      rw [show (Kd.tag f d).sz = m.sz from hb.sz.symm] at hc hf
      exact ⟨cs, d.M_mono (fun k hk => ⟨hk.1.1, hk.1.2, hk.2⟩) hM, hc, hf⟩) xs.length 0 (by omega)
    refine ⟨hs, ps, ⟨_, _, _, rfl, hle, hmax, .inr ⟨g, rfl, hN⟩⟩, hPt, by rw [hl, List.drop_zero], fun q hq => (hq0 q hq).elim (fun e => by rw [e]; exact hR.1 g rfl) id, fun p hp => ?_, fun y1 => hx y1 (.inl fun i i' k h1 h2 => h1.symm.trans h2)⟩
    rcases hbk p hp with hp' | ⟨hp', _, i, _, _, hl, hn⟩
    · exact ⟨by rw [hp'.1]; exact hR.1 g rfl, .inl (by rw [hp'.1]; rfl)⟩
    · exact ⟨hp', .inr ⟨_, List.getElem_mem hl, hn⟩⟩
  · have h0 : xs = [] := List.eq_nil_of_length_eq_zero (by omega)
    subst h0
    exact ⟨[], [], ⟨_, _, _, rfl, hle, hmax, .inl ⟨rfl, rfl, rfl⟩⟩, Pt.nil w, rfl, fun q hq => by simp at hq, fun p hp => by simp at hp, fun _ => apart_nil⟩
theorem Br.slice (hb : Br d m c inn ex) (e : Nat) (h0 : ∀ x, inn x = 0) : Br (Kd.slice e d) (Md.slice m) (fun xs => tot c xs) (fun xs => tot c xs) (fun xs => ∀ x ∈ xs, ex x) where
  sz := rfl
  el := by
    rintro w base ok x cs g o ⟨v, rfl, hR⟩ hg hc hf
    obtain ⟨hs, ps, hr, hPt, hl, hq0, hbk, hx⟩ := row_R hb hR
    obtain ⟨A, n, cp, hv, _⟩ := hr
    refine ⟨((g, o), v) :: hs, ps, ⟨v, hs, ⟨A, n, cp, hv, by assumption⟩, rfl⟩, ⟨fun q hq => ?_, hPt.a⟩, hl, fun y => hx y (fun x _ => h0 x), fun p hp => .inr ⟨(hbk p hp).1, ?_⟩, fun q hq => ?_⟩
    · rcases List.mem_cons.1 hq with rfl | hq
      · exact ⟨hc 0 _ rfl, A, n, cp, hv⟩
      · exact hPt.h q hq
    · show tot c x ≠ 0
      have := List.length_pos_of_mem hp
      omega
    · rcases List.mem_cons.1 hq with rfl | hq
      · exact .inl rfl
      · exact .inr (hq0 q hq)
end
structure Sg (w : World) (k : Int) (wr : World) (pre : List Pl) (hs : List ((Nat × Nat) × Value)) (ps : List Pl) (kk : Int) : Prop where
  ek : kk = k + (pre.length : Int)
  pt : Pt wr hs ps
  wr : Wr w wr pre k
theorem Pt.sub {w : World} {hs h1 : List ((Nat × Nat) × Value)} {ps a1 : List Pl} (h : Pt w hs ps) (x : ∀ q ∈ h1, q ∈ hs) (y : ∀ q ∈ a1, q ∈ ps) : Pt w h1 a1 := ⟨fun q hq => h.h q (x q hq), fun q hq => h.a q (y q hq)⟩
namespace Sg
variable {w wr w2 : World} {k kk : Int} {pre ps qs a1 a2 : List Pl} {hs h1 h2 : List ((Nat × Nat) × Value)}
theorem start (h : Pt w hs ps) (k : Int) : Sg w k w [] hs ps k := ⟨by simp, h, Wr.refl w k⟩
theorem put (h : Sg w k wr pre hs ps kk) {b o : Nat} {t : Bool} (hm : (b, o, t) ∈ ps) {v : Value} (hv : v = mkv t kk) : Sg w k (wr.setCell ⟨b, o, none⟩ v) (pre ++ [(b, o, t)]) hs ps (kk + 1) := by
  subst hv
  refine ⟨by rw [h.ek, List.length_append, List.length_singleton]; omega, h.pt.set (p := (b, o, t)) (h.pt.a _ hm) kk, h.wr.put (b, o, t) h.ek⟩
theorem call (h : Sg w k wr pre hs ps kk) (hw : Wr wr w2 qs kk) (hq : ∀ q ∈ qs, q ∈ ps) : Sg w k w2 (pre ++ qs) hs ps (kk + (qs.length : Int)) :=
  ⟨by rw [h.ek, List.length_append]; omega, h.pt.wr hw (fun p hp => h.pt.a p (hq p hp)), h.wr.trans hw h.ek⟩
theorem below (h : Sg w k wr pre hs ps kk) (hb : Below wr.heap.size wr w2) : Sg w k w2 pre hs ps kk := ⟨h.ek, h.pt.below hb, h.wr.below hb⟩
theorem rest (h : Sg w k wr pre (h1 ++ h2) (a1 ++ a2) kk) : Sg w k wr pre h2 a2 kk := ⟨h.ek, h.pt.right, h.wr⟩
theorem cell (h : Sg w k wr pre hs ps kk) {b o : Nat} {t : Bool} (hm : (b, o, t) ∈ ps) : ∃ u, wr.cell? ⟨b, o, none⟩ = some u ∧ wr.frozen? ⟨b, o, none⟩ = false := by
  obtain ⟨⟨u, hu, _⟩, hf⟩ := h.pt.a _ hm
  exact ⟨u, hu, hf⟩
theorem head (h : Sg w k wr pre hs ps kk) {b o : Nat} {v : Value} (hm : ((b, o), v) ∈ hs) : wr.cell? ⟨b, o, none⟩ = some v := (h.pt.h _ hm).1
theorem sub (h : Sg w k wr pre hs ps kk) (x : ∀ q ∈ h1, q ∈ hs) (y : ∀ q ∈ a1, q ∈ ps) : Pt wr h1 a1 := h.pt.sub x y
theorem narrow (h : Sg w k wr pre hs ps kk) (x : ∀ q ∈ h1, q ∈ hs) (y : ∀ q ∈ a1, q ∈ ps) : Sg w k wr pre h1 a1 kk := ⟨h.ek, h.pt.sub x y, h.wr⟩
end Sg
theorem Wr.after {w wb w2 : World} {ps : List Pl} {k : Int} (hb : Below w.heap.size w wb) (h : Wr wb w2 ps k) : Wr w w2 ps k :=
  ⟨h.os.trans hb.os, h.tape.trans hb.tape, h.output.trans hb.output, Nat.le_trans hb.size h.size, fun i hi =>
    (h.block i (Nat.lt_of_lt_of_le hi hb.size)).trans (puts_cong ps k (hb.block i hi))⟩
theorem Md.Row_slice {d : Md} {v : Value} {hs : List ((Nat × Nat) × Value)} {ps : List Pl} (h : d.Row v hs ps) : ∃ A n c, v = .slice A n c := by
  obtain ⟨A, n, c, e, _⟩ := h
  exact ⟨A, n, c, e⟩
structure Sq (w : World) (k : Int) (wr : World) (pre : List Pl) (hs : List ((Nat × Nat) × Value)) (ps : List Pl) (kk : Int) : Prop where
  ek : kk = k + (pre.length : Int)
  pt : Pt wr hs ps
  hd : Hs wr ps kk
  bl : Below w.heap.size w wr
theorem Hs.tail {w : World} {p : Pl} {ps : List Pl} {k : Int} (h : Hs w (p :: ps) k) : Hs w ps (k + 1) := by
  have := Hs.right (ps := [p]) (bs := ps) h
  simpa using this
namespace Sq
variable {w wr w2 : World} {k kk : Int} {pre ps qs a1 a2 : List Pl} {hs h1 h2 : List ((Nat × Nat) × Value)} {p : Pl}
theorem start (h : Pt w hs ps) (g : Hs w ps k) : Sq w k w [] hs ps k := ⟨by simp, h, g, Below.refl _ _⟩
theorem cell {b o : Nat} {t : Bool} (h : Sq w k wr pre hs ((b, o, t) :: ps) kk) : wr.cell? ⟨b, o, none⟩ = some (mkv t kk) := h.hd.head (p := (b, o, t))
theorem tail (h : Sq w k wr pre hs (p :: ps) kk) : Sq w k wr (pre ++ [p]) hs ps (kk + 1) :=
  ⟨by rw [h.ek, List.length_append, List.length_singleton]; omega, ⟨h.pt.h, fun q hq => h.pt.a q (List.mem_cons_of_mem _ hq)⟩, h.hd.tail, h.bl⟩
theorem call (h : Sq w k wr pre hs (a1 ++ a2) kk) (hb : Below wr.heap.size wr w2) : Sq w k w2 (pre ++ a1) hs a2 (kk + (a1.length : Int)) :=
  ⟨by rw [h.ek, List.length_append]; omega, ⟨(h.pt.below hb).h, fun q hq => (h.pt.below hb).a q (List.mem_append_right _ hq)⟩, h.hd.right.below hb, h.bl.trans (hb.mono h.bl.size)⟩
theorem head (h : Sq w k wr pre hs ps kk) {b o : Nat} {v : Value} (hm : ((b, o), v) ∈ hs) : wr.cell? ⟨b, o, none⟩ = some v := (h.pt.h _ hm).1
theorem narrow (h : Sq w k wr pre hs ps kk) (x : ∀ q ∈ h1, q ∈ hs) : Sq w k wr pre h1 ps kk := ⟨h.ek, h.pt.sub x (fun _ hq => hq), h.hd, h.bl⟩
end Sq
end Go.Proofs.Ytomdjipejoafgaa.Mk
end
section
namespace Go.Proofs.Ytomdjipejoafgaa.Mk
open Go.RowKit Go.Proofs.YtomdjipejoafgaaW.PrintWords Go.Proofs.YtomdjipejoafgaaW.PrintLast
set_option linter.unusedVariables false
set_option linter.unusedSimpArgs false
def Bt (lo hi : Nat) (q : Nat) : Prop := lo ≤ q ∧ q < hi
abbrev Item := Nat × Nat × (World → Prop)
def Chn (n0 : Nat) (W : World) : List Item → Prop
  | [] => True
  | (lo, hi, P) :: L => n0 ≤ lo ∧ lo ≤ hi ∧ hi ≤ W.heap.size ∧ Foot P W (Bt lo hi) ∧ (∀ y ∈ L, y.2.1 ≤ lo) ∧ Chn n0 W L
theorem Chn.step {n0 : Nat} {W W' : World} {S : Nat → Prop} (hk : Kept W W' S) : ∀ {L : List Item}, (∀ y ∈ L, ∀ q, Bt y.1 y.2.1 q → ¬ S q) → Chn n0 W L → Chn n0 W' L
  | [], _, _ => trivial
  | (lo, hi, P) :: L, hd, ⟨h1, h2, h3, h4, h5, h6⟩ =>
    ⟨h1, h2, Nat.le_trans h3 hk.1, h4.step (fun k hk' hlt => hk.2 k hlt (hd _ List.mem_cons_self k hk')), h5, Chn.step hk (fun y hy => hd y (List.mem_cons_of_mem _ hy)) h6⟩
theorem Chn.lt {n0 : Nat} {W : World} : ∀ {L : List Item}, Chn n0 W L → ∀ y ∈ L, n0 ≤ y.1 ∧ y.1 ≤ y.2.1 ∧ y.2.1 ≤ W.heap.size
  | [], _, y, hy => by simp at hy
  | (lo, hi, P) :: L, ⟨h1, h2, h3, _, _, h6⟩, y, hy => by
    rcases List.mem_cons.1 hy with rfl | hy
    · exact ⟨h1, h2, h3⟩
    · exact Chn.lt h6 y hy
structure Ch (w W : World) (L : List Item) : Prop where
  b : Below w.heap.size w W
  c : Chn w.heap.size W L
namespace Ch
variable {w W W' : World} {L L1 L2 : List Item} {lo hi : Nat} {P P' : World → Prop}
theorem start (w : World) : Ch w w [] := ⟨Below.refl _ _, trivial⟩
theorem below (h : Ch w W L) (hb : Below W.heap.size W W') : Ch w W' L := ⟨below_step h.b hb, Chn.step (Kept.of_below hb (fun _ => False)) (fun _ _ _ _ h => h) h.c⟩
theorem drawn (h : Ch w W L) (hd : Drawn0 W W') : Ch w W' L := by
  obtain ⟨n, rfl⟩ := hd.out
  exact h.below (pw_below_drewN (Below.refl _ _) n)
theorem push (h : Ch w W L) (hb : Below W.heap.size W W') {Q : Nat → Nat → World → Prop} (hQ : Foot (Q W.heap.size W'.heap.size) W' (Bt W.heap.size W'.heap.size)) : ∃ lo hi, Ch w W' ((lo, hi, Q lo hi) :: L) :=
  ⟨W.heap.size, W'.heap.size, (h.below hb).b, h.b.size, hb.size, Nat.le_refl _, hQ, fun y hy => (h.c.lt y hy).2.2, (h.below hb).c⟩
theorem get (h : Ch w W L) : ∀ (i : Nat), L[i]? = some (lo, hi, P) → P W ∧ Foot P W (Bt lo hi) := by
  have key : ∀ {L : List Item}, Chn w.heap.size W L → ∀ (i : Nat), L[i]? = some (lo, hi, P) → P W ∧ Foot P W (Bt lo hi) := by
    intro L
    induction L with
    | nil => intro _ i e; simp at e
    | cons y L ih =>
      intro hc i e
      obtain ⟨a, b, Q⟩ := y
      cases i with
      | zero =>
        simp only [List.getElem?_cons_zero, Option.some.injEq, Prod.mk.injEq] at e
        obtain ⟨rfl, rfl, rfl⟩ := e
        exact ⟨hc.2.2.2.1.now, hc.2.2.2.1⟩
      | succ i => exact ih hc.2.2.2.2.2 i (by simpa using e)
  exact key h.c
theorem at_ (h : Ch w W L) (i : Nat) (e : L[i]? = some (lo, hi, P)) : P W := (h.get i e).1
theorem mark (h : Ch w W (L1 ++ (lo, hi, P) :: L2)) (hk : Kept W W' (Bt lo hi)) (hb : Below w.heap.size w W') (hP : Foot P' W' (Bt lo hi)) : Ch w W' (L1 ++ (lo, hi, P') :: L2) := by
  refine ⟨hb, ?_⟩
  have key : ∀ {L1 : List Item}, Chn w.heap.size W (L1 ++ (lo, hi, P) :: L2) → Chn w.heap.size W' (L1 ++ (lo, hi, P') :: L2) := by
    intro L1
    induction L1 with
    | nil =>
      rintro ⟨h1, h2, h3, h4, h5, h6⟩
      exact ⟨h1, h2, Nat.le_trans h3 hk.1, hP, h5, Chn.step hk (fun y hy q hq hq2 => by have := h5 y hy; have := hq.2; have := hq2.1; omega) h6⟩
    | cons y L1 ih =>
      obtain ⟨a, b, Q⟩ := y
      rintro ⟨h1, h2, h3, h4, h5, h6⟩
      refine ⟨h1, h2, Nat.le_trans h3 hk.1, h4.step (fun k hk' hlt => hk.2 k hlt (fun hq => ?_)), ?_, ih h6⟩
      · have := h5 (lo, hi, P) (List.mem_append_right _ List.mem_cons_self)
        have := hk'.1
        have := hq.2
        simp only at *
        omega
      · intro y hy
        rcases List.mem_append.1 hy with hy | hy
        · exact h5 y (List.mem_append_left _ hy)
        · rcases List.mem_cons.1 hy with rfl | hy
          · exact h5 (lo, hi, P) (List.mem_append_right _ List.mem_cons_self)
          · exact h5 y (List.mem_append_right _ (List.mem_cons_of_mem _ hy))
  exact key h.c
theorem lt_ (h : Ch w W (L1 ++ (lo, hi, P) :: L2)) : w.heap.size ≤ lo := (h.c.lt (lo, hi, P) (List.mem_append_right _ List.mem_cons_self)).1
theorem wr {ps : List Pl} {k : Int} (h : Ch w W (L1 ++ (lo, hi, P) :: L2)) (hw : Wr W W' ps k) (hp : ∀ p ∈ ps, Bt lo hi p.1) (hP : Foot P' W' (Bt lo hi)) : Ch w W' (L1 ++ (lo, hi, P') :: L2) :=
  h.mark (hw.kept hp) (hw.under h.b (fun p hq => Nat.le_trans h.lt_ (hp p hq).1)) hP
theorem wr0 {ps : List Pl} {k : Int} (h : Ch w W (L1 ++ (lo, hi, P) :: L2)) (hw : Wr W W' ps k) (hp : ∀ p ∈ ps, Bt lo hi p.1) : Ch w W' (L1 ++ (lo, hi, fun _ => True) :: L2) :=
  h.wr hw hp (fun _ _ => trivial)
end Ch
section
variable {α : Type} {d : Kd α} {e : Nat} {W W' : World} {lo hi : Nat} {v : Value} {xs : List α}
theorem foot_R (h : d.R e W lo (Bt lo hi) v xs) : Foot (fun U => d.R e U lo (Bt lo hi) v xs) W (Bt lo hi) := fun _ hW => Kd.R_step h hW
theorem foot_S (h : Kd.S d e W lo (Bt lo hi) v xs) : Foot (fun U => Kd.S d e U lo (Bt lo hi) v xs) W (Bt lo hi) := fun _ hW => Kd.S_step h hW
theorem in_R {ok : Nat → Prop} (h : d.R e W' W.heap.size ok v xs) : d.R e W' W.heap.size (Bt W.heap.size W'.heap.size) v xs := Kd.R_mono (Kd.R_bound h) (fun _ hk => ⟨hk.2.1, hk.2.2.1⟩)
theorem in_S {ok : Nat → Prop} (h : Kd.S d e W' W.heap.size ok v xs) : Kd.S d e W' W.heap.size (Bt W.heap.size W'.heap.size) v xs := Kd.S_mono (Kd.S_bound h) (fun _ hk => ⟨hk.2.1, hk.2.2.1⟩)
theorem foot_and {P Q : World → Prop} {ok : Nat → Prop} (h : Foot P W ok) (g : Foot Q W ok) : Foot (fun U => P U ∧ Q U) W ok := fun U hU => ⟨h U hU, g U hU⟩
end
theorem foot_blk {W : World} {g : Nat} {o : Obj} {lo hi : Nat} (h : W.heap[g]? = some o) (hg : Bt lo hi g) : Foot (fun U => U.heap[g]? = some o) W (Bt lo hi) := fun _ hU => (hU g hg (blk_lt h)).trans h
theorem foot_pt {W : World} {hs : List ((Nat × Nat) × Value)} {ps : List Pl} {ok : Nat → Prop} (h : Pt W hs ps) (h1 : ∀ q ∈ hs, ok q.1.1) (h2 : ∀ p ∈ ps, ok p.1) : Foot (fun U => Pt U hs ps) W ok := fun U hU => by
  refine ⟨fun q hq => ?_, fun p hp => ?_⟩
  · have a := h.h q hq
    exact ⟨by rw [World.cell?_of_block (hU _ (h1 q hq) (World.block_lt_of_cell? _ _ a.1))]; exact a.1, a.2⟩
  · obtain ⟨⟨u, hu, hpu⟩, hf⟩ := h.a p hp
    have e := hU _ (h2 p hp) (World.block_lt_of_cell? _ _ hu)
    exact ⟨⟨u, by rw [World.cell?_of_block e]; exact hu, hpu⟩, by rw [World.frozen?_of_block e]; exact hf⟩
theorem foot_hs {W : World} {ps : List Pl} {k : Int} {ok : Nat → Prop} (h : Hs W ps k) (h2 : ∀ p ∈ ps, ok p.1) : Foot (fun U => Hs U ps k) W ok := fun U hU i p hp => by
  rw [World.cell?_of_block (hU _ (h2 p (List.mem_of_getElem? hp)) (World.block_lt_of_cell? _ _ (h i p hp)))]
  exact h i p hp
theorem Ch.box {w W : World} {L : List Item} (h : Ch w W L) (o : Obj) : Ch w (W.alloc o) ((W.heap.size, W.heap.size + 1, fun U => U.heap[W.heap.size]? = some o) :: L) := by
  have hb := below_alloc (Below.refl W.heap.size W) o
  refine ⟨(h.below hb).b, h.b.size, Nat.le_succ _, by simp, foot_blk (blk_new W o) ⟨Nat.le_refl _, Nat.lt_succ_self _⟩, fun y hy => (h.c.lt y hy).2.2, (h.below hb).c⟩
end Go.Proofs.Ytomdjipejoafgaa.Mk
end
section
namespace Go.Proofs.Ytomdjipejoafgaa.Mk
open Go.RowKit Go.Proofs.Ytomdjipejoafgaa.P Go.Proofs.YtomdjipejoafgaaW.PrintWords Go.Proofs.YtomdjipejoafgaaW.PrintLast Go.Proofs.YtomdjipejoafgaaW.PrintMore
set_option linter.unusedVariables false
set_option linter.unusedSimpArgs false
def mdEntry : Md := Md.pair Md.int (Md.int)
def pcEntry (x : S67) : Nat := 1 + (1)
def piEntry (x : S67) : Nat := 0 + (0)
def peEntry (x : S67) : Prop := True ∧ (True) ∧ (0 = 0 ∨ 0 = 0)
theorem brEntry : Br k67 mdEntry pcEntry piEntry peEntry := (Br.pair Br.int (Br.int)).iso (fun x : S67 => (x.f0, x.f1))
def mdPeer : Md := Md.pair Md.int (Md.pair Md.bool (Md.pair (Md.slice mdEntry) (Md.pair Md.int ((Md.slice Md.int)))))
def pcPeer (x : S98) : Nat := 1 + (1 + (tot pcEntry x.f2 + (1 + (tot (fun _ => 1) x.f4))))
def piPeer (x : S98) : Nat := 0 + (0 + (tot pcEntry x.f2 + (0 + (tot (fun _ => 1) x.f4))))
def pePeer (x : S98) : Prop := True ∧ (True ∧ ((∀ y ∈ x.f2, peEntry y) ∧ (True ∧ ((∀ y ∈ x.f4, True)) ∧ (0 = 0 ∨ tot (fun _ => 1) x.f4 = 0)) ∧ (tot pcEntry x.f2 = 0 ∨ 0 + (tot (fun _ => 1) x.f4) = 0)) ∧ (0 = 0 ∨ tot pcEntry x.f2 + (0 + (tot (fun _ => 1) x.f4)) = 0)) ∧ (0 = 0 ∨ 0 + (tot pcEntry x.f2 + (0 + (tot (fun _ => 1) x.f4))) = 0)
theorem brPeer : Br k98 mdPeer pcPeer piPeer pePeer := (Br.pair Br.int (Br.pair Br.bool (Br.pair (Br.slice brEntry 67 (fun _ => rfl)) (Br.pair Br.int ((Br.slice Br.int 3 (fun _ => rfl))))))).iso (fun x : S98 => (x.f0, x.f1, x.f2, x.f3, x.f4))
theorem mdPeer_open {g o : Nat} {hs : List ((Nat × Nat) × Value)} {ps : List Pl} (h : mdPeer.Sh g o hs ps) : ∃ v2 h2 b2 v4 h4 b4, mdEntry.Row v2 h2 b2 ∧ Md.int.Row v4 h4 b4 ∧ hs = (((g, o + 2), v2) :: h2) ++ (((g, o + 4), v4) :: h4) ∧ ps = [(g, o, false)] ++ [(g, o + 1, true)] ++ b2 ++ [(g, o + 3, false)] ++ b4 := by
  obtain ⟨_, _, _, _, ⟨rfl, rfl⟩, ⟨_, _, _, _, ⟨rfl, rfl⟩, ⟨_, b2, _, _, ⟨v2, h2, r2, rfl⟩, ⟨_, _, _, b4, ⟨rfl, rfl⟩, ⟨v4, h4, r4, rfl⟩, rfl, rfl⟩, rfl, rfl⟩, rfl, rfl⟩, rfl, rfl⟩ := h
  exact ⟨v2, h2, b2, v4, h4, b4, r2, r4, by simp [mdPeer, Md.pair, Md.int, Md.bool, Md.slice, Nat.add_assoc], by simp [mdPeer, Md.pair, Md.int, Md.bool, Md.slice, Nat.add_assoc]⟩
theorem mdEntry_open {g o : Nat} {hs : List ((Nat × Nat) × Value)} {ps : List Pl} (h : mdEntry.Sh g o hs ps) : hs = [] ∧ ps = [(g, o, false)] ++ [(g, o + 1, false)] := by
  obtain ⟨_, _, _, _, ⟨rfl, rfl⟩, ⟨rfl, rfl⟩, rfl, rfl⟩ := h
  exact ⟨by simp [mdEntry, Md.pair, Md.int, Md.bool, Md.slice, Nat.add_assoc], by simp [mdEntry, Md.pair, Md.int, Md.bool, Md.slice, Nat.add_assoc]⟩
set_option maxHeartbeats 4000000 in
set_option maxRecDepth 100000 in
theorem markEntryS_ok (v : Value) (hs : List ((Nat × Nat) × Value)) (ps : List Pl) (k : Int) (w : World) (hr : Md.Row (mdEntry) v hs ps) (hp : Pt w hs ps) (h0 : 0 ≤ k) (h1 : k + (ps.length : Int) ≤ 1000000000) :
    Calls Try.prog 58 #[v, .int .i64 k] w fun e w' => e = .returned (.int .i64 (k + (ps.length : Int))) ∧ Wr w w' ps k := by
  obtain ⟨A, n, c, rfl, hnc, hmax, hN0⟩ := hr
  have HN : Aside0 (Md.Nr (mdEntry) A 0 n hs ps) := ⟨hN0⟩
  have HG := Aside0.mk (Sg.start hp k)
  clear hN0 hp hnc
  go_enter Try.func58, Try.ntmps58
  go_wp2
  go_loopg [1, 5] n (fun kq v1 v5 w' => ∃ (j : Nat) (kk : Int) (pre : List Pl) (hs1 : List ((Nat × Nat) × Value)) (ps1 : List Pl), v1 = .int .i64 kk ∧ v5 = .int .i64 (j : Int) ∧ Aside0 (j + kq = n) ∧ Aside0 (ps = pre ++ ps1) ∧ Aside0 (Md.Nr (mdEntry) A j kq hs1 ps1) ∧ Aside0 (Sg w k w' pre hs1 ps1 kk))
  case atStart => exact ⟨0, k, [], hs, ps, rfl, rfl, ⟨by omega⟩, ⟨rfl⟩, HN, HG⟩
  case round =>
    clear HN HG
    obtain ⟨j, kk, pre, hs1, ps1, rfl, rfl, HJ, HS, HN, HG⟩ := hrel
    cases gk with
    | zero =>
      have hd : decide ((j : Int) < (n : Int)) = false := decide_eq_false (by have := HJ.out; omega)
      have hd2 : decide (j < n) = false := decide_eq_false (by have := HJ.out; omega)
      go_wp2
      go_ret
      have e0 := Md.Nr_nil HN.out
      have e1 := HS.out
      subst e0
      rw [List.append_nil] at e1
      subst e1
      exact ⟨by rw [HG.out.ek]; rfl, HG.out.wr⟩
    | succ m =>
      have hd : decide ((j : Int) < (n : Int)) = true := decide_eq_true (by have := HJ.out; omega)
      have hd2 : decide (j < n) = true := decide_eq_true (by have := HJ.out; omega)
      have hlt : j < n := by have := HJ.out; omega
      have hlt2 : (j : Int) < (n : Int) := by omega
      obtain ⟨g, rfl, s1, a1, s2, a2, hsh, hn2, rfl, rfl⟩ := Md.Nr_cons HN.out
      clear HN
      have HN2 := Aside0.mk hn2
      clear hn2
      obtain ⟨rfl, rfl⟩ := mdEntry_open (show mdEntry.Sh g (j * 2) s1 a1 from hsh)
      have hk0 : 0 ≤ kk := by have := HG.out.ek; omega
      have hk1 : kk ≤ 1000000000 := by have := HG.out.ek; have := HS.out; subst this; simp only [List.length_append] at h1; omega
      obtain ⟨u0_0, x0_0, f0_0⟩ := HG.out.cell (b := g) (o := j * 2) (t := false) (by simp)
      obtain ⟨u0_1, x0_1, f0_1⟩ := HG.out.cell (b := g) (o := j * 2 + 1) (t := false) (by simp)
      go_wp2
      go_roundg m
      case measure => omega
      case rel =>
        have HZ := (Sg.put (Sg.put HG.out (b := g) (o := j * 2) (t := false) (by simp) rfl) (b := g) (o := j * 2 + 1) (t := false) (by simp) rfl).narrow (h1 := s2) (a1 := a2) (by intro q_ hq_; simp [hq_]) (by intro q_ hq_; simp [hq_])
        exact ⟨j + 1, _, _, s2, a2, rfl, by go_num, ⟨by have := HJ.out; omega⟩, ⟨by rw [HS.out]; simp⟩, HN2, ⟨HZ⟩⟩
set_option maxHeartbeats 4000000 in
set_option maxRecDepth 100000 in
theorem markIntS_ok (v : Value) (hs : List ((Nat × Nat) × Value)) (ps : List Pl) (k : Int) (w : World) (hr : Md.Row (Md.int) v hs ps) (hp : Pt w hs ps) (h0 : 0 ≤ k) (h1 : k + (ps.length : Int) ≤ 1000000000) :
    Calls Try.prog 54 #[v, .int .i64 k] w fun e w' => e = .returned (.int .i64 (k + (ps.length : Int))) ∧ Wr w w' ps k := by
  obtain ⟨A, n, c, rfl, hnc, hmax, hN0⟩ := hr
  have HN : Aside0 (Md.Nr (Md.int) A 0 n hs ps) := ⟨hN0⟩
  have HG := Aside0.mk (Sg.start hp k)
  clear hN0 hp hnc
  go_enter Try.func54, Try.ntmps54
  go_wp2
  go_loopg [1, 5] n (fun kq v1 v5 w' => ∃ (j : Nat) (kk : Int) (pre : List Pl) (hs1 : List ((Nat × Nat) × Value)) (ps1 : List Pl), v1 = .int .i64 kk ∧ v5 = .int .i64 (j : Int) ∧ Aside0 (j + kq = n) ∧ Aside0 (ps = pre ++ ps1) ∧ Aside0 (Md.Nr (Md.int) A j kq hs1 ps1) ∧ Aside0 (Sg w k w' pre hs1 ps1 kk))
  case atStart => exact ⟨0, k, [], hs, ps, rfl, rfl, ⟨by omega⟩, ⟨rfl⟩, HN, HG⟩
  case round =>
    clear HN HG
    obtain ⟨j, kk, pre, hs1, ps1, rfl, rfl, HJ, HS, HN, HG⟩ := hrel
    cases gk with
    | zero =>
      have hd : decide ((j : Int) < (n : Int)) = false := decide_eq_false (by have := HJ.out; omega)
      have hd2 : decide (j < n) = false := decide_eq_false (by have := HJ.out; omega)
      go_wp2
      go_ret
      have e0 := Md.Nr_nil HN.out
      have e1 := HS.out
      subst e0
      rw [List.append_nil] at e1
      subst e1
      exact ⟨by rw [HG.out.ek]; rfl, HG.out.wr⟩
    | succ m =>
      have hd : decide ((j : Int) < (n : Int)) = true := decide_eq_true (by have := HJ.out; omega)
      have hd2 : decide (j < n) = true := decide_eq_true (by have := HJ.out; omega)
      have hlt : j < n := by have := HJ.out; omega
      have hlt2 : (j : Int) < (n : Int) := by omega
      obtain ⟨g, rfl, s1, a1, s2, a2, hsh, hn2, rfl, rfl⟩ := Md.Nr_cons HN.out
      clear HN
      have HN2 := Aside0.mk hn2
      clear hn2
      obtain ⟨rfl, rfl⟩ := (show (Md.int).Sh g (j * 1) s1 a1 from hsh)
      simp only [Nat.mul_one] at HG HS
      have hk0 : 0 ≤ kk := by have := HG.out.ek; omega
      have hk1 : kk ≤ 1000000000 := by have := HG.out.ek; have := HS.out; subst this; simp only [List.length_append] at h1; omega
      obtain ⟨u0_0, x0_0, f0_0⟩ := HG.out.cell (b := g) (o := j) (t := false) (by simp)
      go_wp2
      go_roundg m
      case measure => omega
      case rel =>
        have HZ := (Sg.put HG.out (b := g) (o := j) (t := false) (by simp) rfl).narrow (h1 := s2) (a1 := a2) (by intro q_ hq_; simp [hq_]) (by intro q_ hq_; simp [hq_])
        exact ⟨j + 1, _, _, s2, a2, rfl, by go_num, ⟨by have := HJ.out; omega⟩, ⟨by rw [HS.out]; simp⟩, HN2, ⟨HZ⟩⟩
set_option maxHeartbeats 4000000 in
set_option maxRecDepth 100000 in
theorem markPeerS_ok (v : Value) (hs : List ((Nat × Nat) × Value)) (ps : List Pl) (k : Int) (w : World) (hr : Md.Row (mdPeer) v hs ps) (hp : Pt w hs ps) (h0 : 0 ≤ k) (h1 : k + (ps.length : Int) ≤ 1000000000) :
    Calls Try.prog 75 #[v, .int .i64 k] w fun e w' => e = .returned (.int .i64 (k + (ps.length : Int))) ∧ Wr w w' ps k := by
  obtain ⟨A, n, c, rfl, hnc, hmax, hN0⟩ := hr
  have HN : Aside0 (Md.Nr (mdPeer) A 0 n hs ps) := ⟨hN0⟩
  have HG := Aside0.mk (Sg.start hp k)
  clear hN0 hp hnc
  go_enter Try.func75, Try.ntmps75
  go_wp2
  go_loopg [1, 5] n (fun kq v1 v5 w' => ∃ (j : Nat) (kk : Int) (pre : List Pl) (hs1 : List ((Nat × Nat) × Value)) (ps1 : List Pl), v1 = .int .i64 kk ∧ v5 = .int .i64 (j : Int) ∧ Aside0 (j + kq = n) ∧ Aside0 (ps = pre ++ ps1) ∧ Aside0 (Md.Nr (mdPeer) A j kq hs1 ps1) ∧ Aside0 (Sg w k w' pre hs1 ps1 kk))
  case atStart => exact ⟨0, k, [], hs, ps, rfl, rfl, ⟨by omega⟩, ⟨rfl⟩, HN, HG⟩
  case round =>
    clear HN HG
    obtain ⟨j, kk, pre, hs1, ps1, rfl, rfl, HJ, HS, HN, HG⟩ := hrel
    cases gk with
    | zero =>
      have hd : decide ((j : Int) < (n : Int)) = false := decide_eq_false (by have := HJ.out; omega)
      have hd2 : decide (j < n) = false := decide_eq_false (by have := HJ.out; omega)
      go_wp2
      go_ret
      have e0 := Md.Nr_nil HN.out
      have e1 := HS.out
      subst e0
      rw [List.append_nil] at e1
      subst e1
      exact ⟨by rw [HG.out.ek]; rfl, HG.out.wr⟩
    | succ m =>
      have hd : decide ((j : Int) < (n : Int)) = true := decide_eq_true (by have := HJ.out; omega)
      have hd2 : decide (j < n) = true := decide_eq_true (by have := HJ.out; omega)
      have hlt : j < n := by have := HJ.out; omega
      have hlt2 : (j : Int) < (n : Int) := by omega
      obtain ⟨g, rfl, s1, a1, s2, a2, hsh, hn2, rfl, rfl⟩ := Md.Nr_cons HN.out
      clear HN
      have HN2 := Aside0.mk hn2
      clear hn2
      obtain ⟨v2, h2, b2, v4, h4, b4, r2, r4, rfl, rfl⟩ := mdPeer_open (show mdPeer.Sh g (j * 5) s1 a1 from hsh)
      obtain ⟨A2, n2, c2, rfl⟩ := Md.Row_slice r2
      have R2 := Aside0.mk r2
      clear r2
      obtain ⟨A4, n4, c4, rfl⟩ := Md.Row_slice r4
      have R4 := Aside0.mk r4
      clear r4
      have hk0 : 0 ≤ kk := by have := HG.out.ek; omega
      have hk1 : kk ≤ 1000000000 := by have := HG.out.ek; have := HS.out; subst this; simp only [List.length_append] at h1; omega
      obtain ⟨u0_0, x0_0, f0_0⟩ := HG.out.cell (b := g) (o := j * 5) (t := false) (by simp)
      obtain ⟨u0_1, x0_1, f0_1⟩ := HG.out.cell (b := g) (o := j * 5 + 1) (t := true) (by simp)
      have x0_2 : wr.cell? ⟨g, j * 5 + 2, none⟩ = some (.slice A2 n2 c2) := HG.out.head (by simp)
      obtain ⟨u0_3, x0_3, f0_3⟩ := HG.out.cell (b := g) (o := j * 5 + 3) (t := false) (by simp)
      have x0_4 : wr.cell? ⟨g, j * 5 + 4, none⟩ = some (.slice A4 n4 c4) := HG.out.head (by simp)
      go_wp2_with fail
      have HG1 := Aside0.mk (Sg.put (Sg.put HG.out (b := g) (o := j * 5) (t := false) (by simp) rfl) (b := g) (o := j * 5 + 1) (t := true) (by simp) rfl)
      (try simp only [List.append_assoc, List.singleton_append, List.cons_append, List.nil_append] at HG1)
      refine (markEntryS_ok _ h2 b2 _ _ R2.out (HG1.out.sub (by intro q_ hq_; simp [hq_]) (by intro q_ hq_; simp [hq_])) (by omega) (by have := HG1.out.ek; have := HS.out; subst this; simp only [List.length_append, List.length_cons, List.length_nil] at *; omega)).mono ?_
      rintro e w1 ⟨rfl, hw⟩
      have HC1 := Aside0.mk (HG1.out.call hw (by intro q_ hq_; simp [hq_]))
      obtain ⟨kq1, hkq⟩ : ∃ kq_ : Int, kq_ = kk + 1 + 1 + (b2.length : Int) := ⟨_, rfl⟩
      rw [← hkq] at HC1 ⊢
      have hq0_1 : 0 ≤ kq1 := by omega
      have hq1_1 : kq1 ≤ 1000000000 := by have := HC1.out.ek; have := HS.out; subst this; simp only [List.length_append, List.length_cons, List.length_nil] at *; omega
      clear hkq hw
      clear x0_0 f0_0 x0_1 f0_1 x0_2 x0_3 f0_3 x0_4
      obtain ⟨u1_0, x1_0, f1_0⟩ := HC1.out.cell (b := g) (o := j * 5) (t := false) (by simp)
      obtain ⟨u1_1, x1_1, f1_1⟩ := HC1.out.cell (b := g) (o := j * 5 + 1) (t := true) (by simp)
      have x1_2 : w1.cell? ⟨g, j * 5 + 2, none⟩ = some (.slice A2 n2 c2) := HC1.out.head (by simp)
      obtain ⟨u1_3, x1_3, f1_3⟩ := HC1.out.cell (b := g) (o := j * 5 + 3) (t := false) (by simp)
      have x1_4 : w1.cell? ⟨g, j * 5 + 4, none⟩ = some (.slice A4 n4 c4) := HC1.out.head (by simp)
      go_wp2_with fail
      have HG2 := Aside0.mk (Sg.put HC1.out (b := g) (o := j * 5 + 3) (t := false) (by simp) rfl)
      (try simp only [List.append_assoc, List.singleton_append, List.cons_append, List.nil_append] at HG2)
      refine (markIntS_ok _ h4 b4 _ _ R4.out (HG2.out.sub (by intro q_ hq_; simp [hq_]) (by intro q_ hq_; simp [hq_])) (by omega) (by have := HG2.out.ek; have := HS.out; subst this; simp only [List.length_append, List.length_cons, List.length_nil] at *; omega)).mono ?_
      rintro e w2 ⟨rfl, hw⟩
      have HC2 := Aside0.mk (HG2.out.call hw (by intro q_ hq_; simp [hq_]))
      obtain ⟨kq2, hkq⟩ : ∃ kq_ : Int, kq_ = kq1 + 1 + (b4.length : Int) := ⟨_, rfl⟩
      rw [← hkq] at HC2 ⊢
      have hq0_2 : 0 ≤ kq2 := by omega
      have hq1_2 : kq2 ≤ 1000000000 := by have := HC2.out.ek; have := HS.out; subst this; simp only [List.length_append, List.length_cons, List.length_nil] at *; omega
      clear hkq hw
      clear x1_0 f1_0 x1_1 f1_1 x1_2 x1_3 f1_3 x1_4
      obtain ⟨u2_0, x2_0, f2_0⟩ := HC2.out.cell (b := g) (o := j * 5) (t := false) (by simp)
      obtain ⟨u2_1, x2_1, f2_1⟩ := HC2.out.cell (b := g) (o := j * 5 + 1) (t := true) (by simp)
      have x2_2 : w2.cell? ⟨g, j * 5 + 2, none⟩ = some (.slice A2 n2 c2) := HC2.out.head (by simp)
      obtain ⟨u2_3, x2_3, f2_3⟩ := HC2.out.cell (b := g) (o := j * 5 + 3) (t := false) (by simp)
      have x2_4 : w2.cell? ⟨g, j * 5 + 4, none⟩ = some (.slice A4 n4 c4) := HC2.out.head (by simp)
      go_wp2
      go_roundg m
      case measure => omega
      case rel =>
        have HZ := HC2.out.narrow (h1 := s2) (a1 := a2) (by intro q_ hq_; simp [hq_]) (by intro q_ hq_; simp [hq_])
        exact ⟨j + 1, _, _, s2, a2, rfl, by go_num, ⟨by have := HJ.out; omega⟩, ⟨by rw [HS.out]; simp⟩, HN2, ⟨HZ⟩⟩
def mdMail : Md := Md.pair Md.bool (Md.pair Md.int (Md.pair Md.int (Md.pair Md.int (Md.pair Md.int (Md.pair Md.int (Md.pair (Md.slice mdEntry) (Md.pair Md.int (Md.int))))))))
def pcMail (x : S126) : Nat := 1 + (1 + (1 + (1 + (1 + (1 + (tot pcEntry x.f6 + (1 + (1))))))))
def piMail (x : S126) : Nat := 0 + (0 + (0 + (0 + (0 + (0 + (tot pcEntry x.f6 + (0 + (0))))))))
def peMail (x : S126) : Prop := True ∧ (True ∧ (True ∧ (True ∧ (True ∧ (True ∧ ((∀ y ∈ x.f6, peEntry y) ∧ (True ∧ (True) ∧ (0 = 0 ∨ 0 = 0)) ∧ (tot pcEntry x.f6 = 0 ∨ 0 + (0) = 0)) ∧ (0 = 0 ∨ tot pcEntry x.f6 + (0 + (0)) = 0)) ∧ (0 = 0 ∨ 0 + (tot pcEntry x.f6 + (0 + (0))) = 0)) ∧ (0 = 0 ∨ 0 + (0 + (tot pcEntry x.f6 + (0 + (0)))) = 0)) ∧ (0 = 0 ∨ 0 + (0 + (0 + (tot pcEntry x.f6 + (0 + (0))))) = 0)) ∧ (0 = 0 ∨ 0 + (0 + (0 + (0 + (tot pcEntry x.f6 + (0 + (0)))))) = 0)) ∧ (0 = 0 ∨ 0 + (0 + (0 + (0 + (0 + (tot pcEntry x.f6 + (0 + (0))))))) = 0)
theorem brMail : Br k126 mdMail pcMail piMail peMail := (Br.pair Br.bool (Br.pair Br.int (Br.pair Br.int (Br.pair Br.int (Br.pair Br.int (Br.pair Br.int (Br.pair (Br.slice brEntry 67 (fun _ => rfl)) (Br.pair Br.int (Br.int))))))))).iso (fun x : S126 => (x.f0, x.f1, x.f2, x.f3, x.f4, x.f5, x.f6, x.f7, x.f8))
theorem mdMail_open {g o : Nat} {hs : List ((Nat × Nat) × Value)} {ps : List Pl} (h : mdMail.Sh g o hs ps) : ∃ v6 h6 b6, mdEntry.Row v6 h6 b6 ∧ hs = (((g, o + 6), v6) :: h6) ∧ ps = [(g, o, true)] ++ [(g, o + 1, false)] ++ [(g, o + 2, false)] ++ [(g, o + 3, false)] ++ [(g, o + 4, false)] ++ [(g, o + 5, false)] ++ b6 ++ [(g, o + 7, false)] ++ [(g, o + 8, false)] := by
  obtain ⟨_, _, _, _, ⟨rfl, rfl⟩, ⟨_, _, _, _, ⟨rfl, rfl⟩, ⟨_, _, _, _, ⟨rfl, rfl⟩, ⟨_, _, _, _, ⟨rfl, rfl⟩, ⟨_, _, _, _, ⟨rfl, rfl⟩, ⟨_, _, _, _, ⟨rfl, rfl⟩, ⟨_, b6, _, _, ⟨v6, h6, r6, rfl⟩, ⟨_, _, _, _, ⟨rfl, rfl⟩, ⟨rfl, rfl⟩, rfl, rfl⟩, rfl, rfl⟩, rfl, rfl⟩, rfl, rfl⟩, rfl, rfl⟩, rfl, rfl⟩, rfl, rfl⟩, rfl, rfl⟩ := h
  exact ⟨v6, h6, b6, r6, by simp [mdMail, Md.pair, Md.int, Md.bool, Md.slice, Nat.add_assoc], by simp [mdMail, Md.pair, Md.int, Md.bool, Md.slice, Nat.add_assoc]⟩
set_option maxHeartbeats 4000000 in
set_option maxRecDepth 100000 in
theorem markMailS_ok (v : Value) (hs : List ((Nat × Nat) × Value)) (ps : List Pl) (k : Int) (w : World) (hr : Md.Row (mdMail) v hs ps) (hp : Pt w hs ps) (h0 : 0 ≤ k) (h1 : k + (ps.length : Int) ≤ 1000000000) :
    Calls Try.prog 76 #[v, .int .i64 k] w fun e w' => e = .returned (.int .i64 (k + (ps.length : Int))) ∧ Wr w w' ps k := by
  obtain ⟨A, n, c, rfl, hnc, hmax, hN0⟩ := hr
  have HN : Aside0 (Md.Nr (mdMail) A 0 n hs ps) := ⟨hN0⟩
  have HG := Aside0.mk (Sg.start hp k)
  clear hN0 hp hnc
  go_enter Try.func76, Try.ntmps76
  go_wp2
  go_loopg [1, 5] n (fun kq v1 v5 w' => ∃ (j : Nat) (kk : Int) (pre : List Pl) (hs1 : List ((Nat × Nat) × Value)) (ps1 : List Pl), v1 = .int .i64 kk ∧ v5 = .int .i64 (j : Int) ∧ Aside0 (j + kq = n) ∧ Aside0 (ps = pre ++ ps1) ∧ Aside0 (Md.Nr (mdMail) A j kq hs1 ps1) ∧ Aside0 (Sg w k w' pre hs1 ps1 kk))
  case atStart => exact ⟨0, k, [], hs, ps, rfl, rfl, ⟨by omega⟩, ⟨rfl⟩, HN, HG⟩
  case round =>
    clear HN HG
    obtain ⟨j, kk, pre, hs1, ps1, rfl, rfl, HJ, HS, HN, HG⟩ := hrel
    cases gk with
    | zero =>
      have hd : decide ((j : Int) < (n : Int)) = false := decide_eq_false (by have := HJ.out; omega)
      have hd2 : decide (j < n) = false := decide_eq_false (by have := HJ.out; omega)
      go_wp2
      go_ret
      have e0 := Md.Nr_nil HN.out
      have e1 := HS.out
      subst e0
      rw [List.append_nil] at e1
      subst e1
      exact ⟨by rw [HG.out.ek]; rfl, HG.out.wr⟩
    | succ m =>
      have hd : decide ((j : Int) < (n : Int)) = true := decide_eq_true (by have := HJ.out; omega)
      have hd2 : decide (j < n) = true := decide_eq_true (by have := HJ.out; omega)
      have hlt : j < n := by have := HJ.out; omega
      have hlt2 : (j : Int) < (n : Int) := by omega
      obtain ⟨g, rfl, s1, a1, s2, a2, hsh, hn2, rfl, rfl⟩ := Md.Nr_cons HN.out
      clear HN
      have HN2 := Aside0.mk hn2
      clear hn2
      obtain ⟨v6, h6, b6, r6, rfl, rfl⟩ := mdMail_open (show mdMail.Sh g (j * 9) s1 a1 from hsh)
      obtain ⟨A6, n6, c6, rfl⟩ := Md.Row_slice r6
      have R6 := Aside0.mk r6
      clear r6
      have hk0 : 0 ≤ kk := by have := HG.out.ek; omega
      have hk1 : kk ≤ 1000000000 := by have := HG.out.ek; have := HS.out; subst this; simp only [List.length_append] at h1; omega
      obtain ⟨u0_0, x0_0, f0_0⟩ := HG.out.cell (b := g) (o := j * 9) (t := true) (by simp)
      obtain ⟨u0_1, x0_1, f0_1⟩ := HG.out.cell (b := g) (o := j * 9 + 1) (t := false) (by simp)
      obtain ⟨u0_2, x0_2, f0_2⟩ := HG.out.cell (b := g) (o := j * 9 + 2) (t := false) (by simp)
      obtain ⟨u0_3, x0_3, f0_3⟩ := HG.out.cell (b := g) (o := j * 9 + 3) (t := false) (by simp)
      obtain ⟨u0_4, x0_4, f0_4⟩ := HG.out.cell (b := g) (o := j * 9 + 4) (t := false) (by simp)
      obtain ⟨u0_5, x0_5, f0_5⟩ := HG.out.cell (b := g) (o := j * 9 + 5) (t := false) (by simp)
      have x0_6 : wr.cell? ⟨g, j * 9 + 6, none⟩ = some (.slice A6 n6 c6) := HG.out.head (by simp)
      obtain ⟨u0_7, x0_7, f0_7⟩ := HG.out.cell (b := g) (o := j * 9 + 7) (t := false) (by simp)
      obtain ⟨u0_8, x0_8, f0_8⟩ := HG.out.cell (b := g) (o := j * 9 + 8) (t := false) (by simp)
      go_wp2_with fail
      have HG1 := Aside0.mk (Sg.put (Sg.put (Sg.put (Sg.put (Sg.put (Sg.put HG.out (b := g) (o := j * 9) (t := true) (by simp) rfl) (b := g) (o := j * 9 + 1) (t := false) (by simp) rfl) (b := g) (o := j * 9 + 2) (t := false) (by simp) rfl) (b := g) (o := j * 9 + 3) (t := false) (by simp) rfl) (b := g) (o := j * 9 + 4) (t := false) (by simp) rfl) (b := g) (o := j * 9 + 5) (t := false) (by simp) rfl)
      (try simp only [List.append_assoc, List.singleton_append, List.cons_append, List.nil_append] at HG1)
      refine (markEntryS_ok _ h6 b6 _ _ R6.out (HG1.out.sub (by intro q_ hq_; simp [hq_]) (by intro q_ hq_; simp [hq_])) (by omega) (by have := HG1.out.ek; have := HS.out; subst this; simp only [List.length_append, List.length_cons, List.length_nil] at *; omega)).mono ?_
      rintro e w1 ⟨rfl, hw⟩
      have HC1 := Aside0.mk (HG1.out.call hw (by intro q_ hq_; simp [hq_]))
      obtain ⟨kq1, hkq⟩ : ∃ kq_ : Int, kq_ = kk + 1 + 1 + 1 + 1 + 1 + 1 + (b6.length : Int) := ⟨_, rfl⟩
      rw [← hkq] at HC1 ⊢
      have hq0_1 : 0 ≤ kq1 := by omega
      have hq1_1 : kq1 ≤ 1000000000 := by have := HC1.out.ek; have := HS.out; subst this; simp only [List.length_append, List.length_cons, List.length_nil] at *; omega
      clear hkq hw
      clear x0_0 f0_0 x0_1 f0_1 x0_2 f0_2 x0_3 f0_3 x0_4 f0_4 x0_5 f0_5 x0_6 x0_7 f0_7 x0_8 f0_8
      obtain ⟨u1_0, x1_0, f1_0⟩ := HC1.out.cell (b := g) (o := j * 9) (t := true) (by simp)
      obtain ⟨u1_1, x1_1, f1_1⟩ := HC1.out.cell (b := g) (o := j * 9 + 1) (t := false) (by simp)
      obtain ⟨u1_2, x1_2, f1_2⟩ := HC1.out.cell (b := g) (o := j * 9 + 2) (t := false) (by simp)
      obtain ⟨u1_3, x1_3, f1_3⟩ := HC1.out.cell (b := g) (o := j * 9 + 3) (t := false) (by simp)
      obtain ⟨u1_4, x1_4, f1_4⟩ := HC1.out.cell (b := g) (o := j * 9 + 4) (t := false) (by simp)
      obtain ⟨u1_5, x1_5, f1_5⟩ := HC1.out.cell (b := g) (o := j * 9 + 5) (t := false) (by simp)
      have x1_6 : w1.cell? ⟨g, j * 9 + 6, none⟩ = some (.slice A6 n6 c6) := HC1.out.head (by simp)
      obtain ⟨u1_7, x1_7, f1_7⟩ := HC1.out.cell (b := g) (o := j * 9 + 7) (t := false) (by simp)
      obtain ⟨u1_8, x1_8, f1_8⟩ := HC1.out.cell (b := g) (o := j * 9 + 8) (t := false) (by simp)
      go_wp2
      go_roundg m
      case measure => omega
      case rel =>
        have HZ := (Sg.put (Sg.put HC1.out (b := g) (o := j * 9 + 7) (t := false) (by simp) rfl) (b := g) (o := j * 9 + 8) (t := false) (by simp) rfl).narrow (h1 := s2) (a1 := a2) (by intro q_ hq_; simp [hq_]) (by intro q_ hq_; simp [hq_])
        exact ⟨j + 1, _, _, s2, a2, rfl, by go_num, ⟨by have := HJ.out; omega⟩, ⟨by rw [HS.out]; simp⟩, HN2, ⟨HZ⟩⟩
set_option maxHeartbeats 4000000 in
set_option maxRecDepth 100000 in
theorem markRaft_ok (v0 : Value) (s0 : List ((Nat × Nat) × Value)) (b0 : List Pl) (v1 : Value) (s1 : List ((Nat × Nat) × Value)) (b1 : List Pl) (k : Int) (w : World) (r0 : Md.Row (mdPeer) v0 s0 b0) (r1 : Md.Row (mdMail) v1 s1 b1) (p0 : Pt w s0 b0) (p1 : Pt w s1 b1) (h0 : 0 ≤ k) (h1 : k + ((b0 ++ b1).length : Int) ≤ 1000000000) :
    Calls Try.prog 26 #[.agg #[v0, v1], .int .i64 k] w fun e w' => e = .returned (.int .i64 (k + ((b0 ++ b1).length : Int))) ∧ Wr w w' (b0 ++ b1) k := by
  obtain ⟨A0, n0, c0, rfl⟩ := Md.Row_slice r0
  have R0 := Aside0.mk r0
  clear r0
  obtain ⟨A1, n1, c1, rfl⟩ := Md.Row_slice r1
  have R1 := Aside0.mk r1
  clear r1
  have hb := below_alloc (Below.refl w.heap.size w) (.cells #[.slice A0 n0 c0, .slice A1 n1 c1] 37)
  have hx : Pt (w.alloc (.cells #[.slice A0 n0 c0, .slice A1 n1 c1] 37)) ([((w.heap.size, 0), Value.slice A0 n0 c0), ((w.heap.size, 1), Value.slice A1 n1 c1)] ++ (s0 ++ (s1))) (b0 ++ (b1)) := ⟨fun q hq => (List.mem_append.1 hq).elim (fun hq => ?_) (((p0.app p1).below hb).h q), ((p0.app p1).below hb).a⟩
  rotate_left
  · simp only [List.mem_cons, List.not_mem_nil, or_false] at hq
    rcases hq with rfl | rfl
    all_goals exact ⟨by rw [World.cell?_alloc_new]; rfl, _, _, _, rfl⟩
  have HG0 := Aside0.mk (Sg.start hx k)
  have HB := Aside0.mk hb
  clear hx hb p0 p1
  go_enter Try.func26, Try.ntmps26
  try simp only [List.append_assoc] at h1
  try simp only [List.append_assoc]
  go_wp2_with fail
  refine (markPeerS_ok _ s0 b0 _ _ R0.out (HG0.out.sub (by intro q_ hq_; simp [hq_]) (by intro q_ hq_; simp [hq_])) (by omega) (by have := HG0.out.ek; simp only [List.length_append, List.length_cons, List.length_nil] at *; omega)).mono ?_
  rintro e w1 ⟨rfl, hw⟩
  have HG1 := Aside0.mk (HG0.out.call hw (by intro q_ hq_; simp [hq_]))
  obtain ⟨kq1, hkq⟩ : ∃ kq_ : Int, kq_ = k + (b0.length : Int) := ⟨_, rfl⟩
  rw [← hkq] at HG1 ⊢
  have hq0_1 : 0 ≤ kq1 := by omega
  have hq1_1 : kq1 ≤ 1000000000 := by have := HG1.out.ek; simp only [List.length_append, List.length_cons, List.length_nil] at *; omega
  clear hkq hw
  have x1_1 : w1.cell? ⟨w.heap.size, 1, none⟩ = some (.slice A1 n1 c1) := HG1.out.head (by simp)
  go_wp2_with fail
  refine (markMailS_ok _ s1 b1 _ _ R1.out (HG1.out.sub (by intro q_ hq_; simp [hq_]) (by intro q_ hq_; simp [hq_])) (by omega) (by have := HG1.out.ek; simp only [List.length_append, List.length_cons, List.length_nil] at *; omega)).mono ?_
  rintro e w2 ⟨rfl, hw⟩
  have HG2 := Aside0.mk (HG1.out.call hw (by intro q_ hq_; simp [hq_]))
  obtain ⟨kq2, hkq⟩ : ∃ kq_ : Int, kq_ = kq1 + (b1.length : Int) := ⟨_, rfl⟩
  rw [← hkq] at HG2 ⊢
  have hq0_2 : 0 ≤ kq2 := by omega
  have hq1_2 : kq2 ≤ 1000000000 := by have := HG2.out.ek; simp only [List.length_append, List.length_cons, List.length_nil] at *; omega
  clear hkq hw
  clear x1_1
  go_wp2
  go_ret
  have HZ := HG2.out
  (try simp only [List.nil_append, List.append_assoc] at HZ)
  exact ⟨by rw [HZ.ek]; rfl, Wr.after HB.out HZ.wr⟩
set_option maxHeartbeats 4000000 in
set_option maxRecDepth 100000 in
theorem heldEntryS_ok (v : Value) (hs : List ((Nat × Nat) × Value)) (ps : List Pl) (k : Int) (w : World) (hr : Md.Row (mdEntry) v hs ps) (hp : Pt w hs ps) (hh : Hs w ps k) (h0 : 0 ≤ k) (h1 : k + (ps.length : Int) ≤ 1000000000) :
    Calls Try.prog 59 #[v, .int .i64 k] w fun e w' => e = .returned (.int .i64 (k + (ps.length : Int))) ∧ Below w.heap.size w w' := by
  obtain ⟨A, n, c, rfl, hnc, hmax, hN0⟩ := hr
  have HN : Aside0 (Md.Nr (mdEntry) A 0 n hs ps) := ⟨hN0⟩
  have HG := Aside0.mk (Sq.start hp hh)
  clear hN0 hp hnc hh
  go_enter Try.func59, Try.ntmps59
  go_wp2
  go_loopg [1, 5] n (fun kq v1 v5 w' => ∃ (j : Nat) (kk : Int) (pre : List Pl) (hs1 : List ((Nat × Nat) × Value)) (ps1 : List Pl), v1 = .int .i64 kk ∧ v5 = .int .i64 (j : Int) ∧ Aside0 (j + kq = n) ∧ Aside0 (ps = pre ++ ps1) ∧ Aside0 (Md.Nr (mdEntry) A j kq hs1 ps1) ∧ Aside0 (Sq w k w' pre hs1 ps1 kk))
  case atStart => exact ⟨0, k, [], hs, ps, rfl, rfl, ⟨by omega⟩, ⟨rfl⟩, HN, HG⟩
  case round =>
    clear HN HG
    obtain ⟨j, kk, pre, hs1, ps1, rfl, rfl, HJ, HS, HN, HG⟩ := hrel
    cases gk with
    | zero =>
      have hd : decide ((j : Int) < (n : Int)) = false := decide_eq_false (by have := HJ.out; omega)
      have hd2 : decide (j < n) = false := decide_eq_false (by have := HJ.out; omega)
      go_wp2
      go_ret
      have e0 := Md.Nr_nil HN.out
      have e1 := HS.out
      subst e0
      rw [List.append_nil] at e1
      subst e1
      exact ⟨by rw [HG.out.ek]; rfl, HG.out.bl⟩
    | succ m =>
      have hd : decide ((j : Int) < (n : Int)) = true := decide_eq_true (by have := HJ.out; omega)
      have hd2 : decide (j < n) = true := decide_eq_true (by have := HJ.out; omega)
      have hlt : j < n := by have := HJ.out; omega
      have hlt2 : (j : Int) < (n : Int) := by omega
      obtain ⟨g, rfl, s1, a1, s2, a2, hsh, hn2, rfl, rfl⟩ := Md.Nr_cons HN.out
      clear HN
      have HN2 := Aside0.mk hn2
      clear hn2
      obtain ⟨rfl, rfl⟩ := mdEntry_open (show mdEntry.Sh g (j * 2) s1 a1 from hsh)
      have hk0 : 0 ≤ kk := by have := HG.out.ek; omega
      have hk1 : kk ≤ 1000000000 := by have := HG.out.ek; have := HS.out; subst this; simp only [List.length_append] at h1; omega
      simp only [List.append_assoc, List.singleton_append, List.cons_append, List.nil_append] at HG
      have HG0 := HG
      clear HG
      have x0_0 : wr.cell? ⟨g, j * 2, none⟩ = some (.int .i64 kk) := HG0.out.cell
      have HG1 := Aside0.mk HG0.out.tail
      clear HG0
      have x0_1 : wr.cell? ⟨g, j * 2 + 1, none⟩ = some (.int .i64 (kk + 1)) := HG1.out.cell
      have HG2 := Aside0.mk HG1.out.tail
      clear HG1
      go_wp2
      go_roundg m
      case measure => omega
      case rel =>
        have HZ := HG2.out.narrow (h1 := s2) (by intro q_ hq_; simp [hq_])
        exact ⟨j + 1, _, _, s2, a2, rfl, by go_num, ⟨by have := HJ.out; omega⟩, ⟨by rw [HS.out]; simp⟩, HN2, ⟨HZ⟩⟩
end Go.Proofs.Ytomdjipejoafgaa.Mk
end
section
namespace Go.Proofs.Ytomdjipejoafgaa.Mk
open Go.RowKit Go.Proofs.Ytomdjipejoafgaa.P Go.Proofs.YtomdjipejoafgaaW.PrintWords Go.Proofs.YtomdjipejoafgaaW.PrintLast Go.Proofs.YtomdjipejoafgaaW.PrintMore
set_option linter.unusedVariables false
set_option linter.unusedSimpArgs false
set_option maxHeartbeats 8000000 in
set_option maxRecDepth 100000 in
theorem FnExactCommittedIn_law (k : Nat) (A0_0 : Option Addr) (c0_0 : Nat) (l0_0 : List S152) (A0_1 : Option Addr) (c0_1 : Nat) (l0_1 : List S155) (w : World) (hr0_0 : Kd.C k152 w A0_0 l0_0.length l0_0) (hc0_0 : l0_0.length ≤ c0_0) (hr0_1 : Kd.C k155 w A0_1 l0_1.length l0_1) (hc0_1 : l0_1.length ≤ c0_1) (z1 : Int) (eE2 : laws_szRaft.f k l0_0 l0_1 1048576 = some z1) (hz_z1n : ¬ z1 < 0) (x5 : List (S98)) (x6 : List (S126)) (r18 : List (S67)) (r19 : Bool) (eE7 : laws_toRaft.f k l0_0 l0_1 = some (x5, x6)) (eE20 : spec_CommittedIn.f k x5 x6 = some (r18, r19)) (eE40 : impl_CommittedIn.f k x5 x6 = some (r18, r19)) (eE50 : laws_eqEntryS.f k r18 r18 = some true) (eE63 : laws_eqRaft.f k x5 x6 x5 x6 = some true) (hB0_ : tot pcPeer x5 ≤ 100000000) (hB1_ : tot pcMail x6 ≤ 100000000) (hB2_ : tot pcEntry r18 ≤ 100000000) (hX0_ : ∀ x ∈ r18, peEntry x)  :
    Calls Try.prog 13 #[.agg #[.slice A0_0 l0_0.length c0_0, .slice A0_1 l0_1.length c0_1]] w fun e w' => e = .returned (.bool true) ∧ Below w.heap.size w w' := by
  have hu37 := Try.underlying37
  have hu61 := Try.underlying61
  have HR0_0 := Aside0.mk hr0_0
  clear hr0_0
  have HR0_1 := Aside0.mk hr0_1
  clear hr0_1
  have HC := Aside0.mk (Ch.start w)
  have E2 := Aside0.mk eE2
  clear eE2
  have E7 := Aside0.mk eE7
  clear eE7
  have E20 := Aside0.mk eE20
  clear eE20
  have E40 := Aside0.mk eE40
  clear eE40
  have E50 := Aside0.mk eE50
  clear eE50
  have E63 := Aside0.mk eE63
  clear eE63
  have hB0 := Aside0.mk hB0_
  clear hB0_
  have hB1 := Aside0.mk hB1_
  clear hB1_
  have hB2 := Aside0.mk hB2_
  clear hB2_
  have hX0 := Aside0.mk hX0_
  clear hX0_
  go_enter Try.func13, Try.ntmps13
  go_wp2_with fail
  replace HC := Aside0.mk (HC.out.box (.cells #[.slice A0_0 l0_0.length c0_0, .slice A0_1 l0_1.length c0_1] 61))
  refine (laws_szRaft.calls k _ _ l0_0 _ _ l0_1 1048576 z1 _ (Kd.C_below HR0_0.out HC.out.b) hc0_0 (Kd.C_below HR0_1.out HC.out.b) hc0_1 E2.out).mono ?_
  rintro e w1 ⟨rfl, hb⟩
  replace HC := Aside0.mk (HC.out.below hb)
  clear hb
  have hz_z1 : decide (z1 < 0) = false := decide_eq_false (by omega)
  have b3 := (blk_cell (HC.out.at_ 0 rfl) 0).trans rfl
  have b4 := (blk_cell (HC.out.at_ 0 rfl) 1).trans rfl
  go_wp2_with fail
  refine (laws_toRaft.calls k _ _ l0_0 _ _ l0_1 x5 x6 _ (Kd.C_below HR0_0.out HC.out.b) hc0_0 (Kd.C_below HR0_1.out HC.out.b) hc0_1 E7.out).mono ?_
  rintro e w2 ⟨v8, v9, rfl, ho0, ho1, hb⟩
  obtain ⟨A10, c11, rfl⟩ := Kd.S_slice ho0
  obtain ⟨A12, c13, rfl⟩ := Kd.S_slice ho1
  obtain ⟨lo14, hi15, HC'⟩ := HC.out.push hb (Q := fun lo hi U => Kd.S k98 98 U lo (Bt lo hi) (.slice A10 x5.length c11) x5 ∧ Kd.S k126 126 U lo (Bt lo hi) (.slice A12 x6.length c13) x6) (foot_and (foot_S (in_S ho0)) (foot_S (in_S ho1)))
  replace HC := Aside0.mk HC'
  clear HC' hb ho0 ho1
  clear b3 b4
  have b16 := (blk_cell (HC.out.at_ 1 rfl) 0).trans rfl
  have b17 := (blk_cell (HC.out.at_ 1 rfl) 1).trans rfl
  go_wp2_with fail
  refine (spec_CommittedIn.calls k _ _ x5 _ _ x6 r18 r19 _ (Kd.S_reads' (HC.out.at_ 0 rfl).1).2.2 (Kd.S_reads' (HC.out.at_ 0 rfl).1).2.1 (Kd.S_reads' (HC.out.at_ 0 rfl).2).2.2 (Kd.S_reads' (HC.out.at_ 0 rfl).2).2.1 E20.out).mono ?_
  rintro e w3 ⟨v21, rfl, ho0, hb⟩
  obtain ⟨A22, c23, rfl⟩ := Kd.R_slice ho0
  obtain ⟨lo24, hi25, HC'⟩ := HC.out.push hb (Q := fun lo hi U => Kd.R k67 67 U lo (Bt lo hi) (.slice A22 r18.length c23) r18) (foot_R (in_R ho0))
  replace HC := Aside0.mk HC'
  clear HC' hb ho0
  clear b16 b17
  have b26 := (blk_cell (HC.out.at_ 2 rfl) 0).trans rfl
  have b27 := (blk_cell (HC.out.at_ 2 rfl) 1).trans rfl
  go_wp2_with fail
  refine (laws_toRaft.calls k _ _ l0_0 _ _ l0_1 x5 x6 _ (Kd.C_below HR0_0.out HC.out.b) hc0_0 (Kd.C_below HR0_1.out HC.out.b) hc0_1 E7.out).mono ?_
  rintro e w4 ⟨v28, v29, rfl, ho0, ho1, hb⟩
  obtain ⟨A30, c31, rfl⟩ := Kd.S_slice ho0
  obtain ⟨A32, c33, rfl⟩ := Kd.S_slice ho1
  obtain ⟨lo34, hi35, HC'⟩ := HC.out.push hb (Q := fun lo hi U => Kd.S k98 98 U lo (Bt lo hi) (.slice A30 x5.length c31) x5 ∧ Kd.S k126 126 U lo (Bt lo hi) (.slice A32 x6.length c33) x6) (foot_and (foot_S (in_S ho0)) (foot_S (in_S ho1)))
  replace HC := Aside0.mk HC'
  clear HC' hb ho0 ho1
  clear b26 b27
  have b36 := (blk_cell (HC.out.at_ 3 rfl) 0).trans rfl
  have b37 := (blk_cell (HC.out.at_ 3 rfl) 1).trans rfl
  have b38 : (w4.alloc (.cells #[.slice A30 x5.length c31, .slice A32 x6.length c33] 37)).cell? ⟨w.heap.size, 0, none⟩ = some (.slice A0_0 l0_0.length c0_0) := (blk_cell (blk_alloc (HC.out.at_ 3 rfl) _) 0).trans rfl
  have b39 : (w4.alloc (.cells #[.slice A30 x5.length c31, .slice A32 x6.length c33] 37)).cell? ⟨w.heap.size, 1, none⟩ = some (.slice A0_1 l0_1.length c0_1) := (blk_cell (blk_alloc (HC.out.at_ 3 rfl) _) 1).trans rfl
  go_wp2_with fail
  replace HC := Aside0.mk (HC.out.box (.cells #[.slice A30 x5.length c31, .slice A32 x6.length c33] 37))
  refine (impl_CommittedIn.calls k _ _ x5 _ _ x6 r18 r19 _ (Kd.S_reads' (HC.out.at_ 1 rfl).1).2.2 (Kd.S_reads' (HC.out.at_ 1 rfl).1).2.1 (Kd.S_reads' (HC.out.at_ 1 rfl).2).2.2 (Kd.S_reads' (HC.out.at_ 1 rfl).2).2.1 E40.out).mono ?_
  rintro e w5 ⟨v41, rfl, ho0, hb⟩
  obtain ⟨A42, c43, rfl⟩ := Kd.R_slice ho0
  obtain ⟨lo44, hi45, HC'⟩ := HC.out.push hb (Q := fun lo hi U => Kd.R k67 67 U lo (Bt lo hi) (.slice A42 r18.length c43) r18) (foot_R (in_R ho0))
  replace HC := Aside0.mk HC'
  clear HC' hb ho0
  clear b36 b37 b38 b39
  have b46 := (blk_cell (HC.out.at_ 1 rfl) 0).trans rfl
  have b47 := (blk_cell (HC.out.at_ 1 rfl) 1).trans rfl
  have b48 := (blk_cell (HC.out.at_ 5 rfl) 0).trans rfl
  have b49 := (blk_cell (HC.out.at_ 5 rfl) 1).trans rfl
  go_wp2_with fail
  refine (laws_eqEntryS.calls k _ _ r18 _ _ r18 true _ (Kd.R_reads' (HC.out.at_ 0 rfl)).2.2 (Kd.R_reads' (HC.out.at_ 0 rfl)).2.1 (Kd.R_reads' (HC.out.at_ 3 rfl)).2.2 (Kd.R_reads' (HC.out.at_ 3 rfl)).2.1 E50.out).mono ?_
  rintro e w6 ⟨rfl, hb⟩
  replace HC := Aside0.mk (HC.out.below hb)
  clear hb
  clear b46 b47 b48 b49
  have b51 := (blk_cell (HC.out.at_ 1 rfl) 0).trans rfl
  have b52 := (blk_cell (HC.out.at_ 1 rfl) 1).trans rfl
  have b53 := (blk_cell (HC.out.at_ 5 rfl) 0).trans rfl
  have b54 := (blk_cell (HC.out.at_ 5 rfl) 1).trans rfl
  go_wp2_with fail
  replace HC := Aside0.mk (HC.out.below (below_drew (Below.refl _ _)))
  refine start_ (n := 5) (S := fun w' => w'.cell? ⟨w4.heap.size, 0, none⟩ = some (.slice A30 x5.length c31) ∧ w'.cell? ⟨w4.heap.size, 1, none⟩ = some (.slice A32 x6.length c33) ∧ w'.cell? ⟨w.heap.size, 0, none⟩ = some (.slice A0_0 l0_0.length c0_0) ∧ w'.cell? ⟨w.heap.size, 1, none⟩ = some (.slice A0_1 l0_1.length c0_1)) (ds := []) #[false, false, false, false, false] (by kernel_rfl) rfl rfl ⟨(blk_cell (HC.out.at_ 1 rfl) 0).trans rfl, (blk_cell (HC.out.at_ 1 rfl) 1).trans rfl, (blk_cell (HC.out.at_ 5 rfl) 0).trans rfl, (blk_cell (HC.out.at_ 5 rfl) 1).trans rfl⟩ (fun hHeld => ?_)
  generalize w6.drew = w7 at HC hHeld ⊢
  refine take_ (i := 0) (N := some 41) (v := ?_) (a' := ?_) #[true, false, false, false, false] rfl rfl (by kernel_rfl) (fun _ _ _ h => h) (Or.inl ⟨by rfl, ?_⟩) hHeld ?_ ?_
  rotate_left
  · rintro w' ⟨s0, s1, s2, s3⟩
    go_simp
    with_reducible rfl
  rotate_left
  · simp only [Act.put, List.setIfInBounds_toArray, List.set_cons_zero, List.set_cons_succ, i64_w, i32_w]
    rfl
  refine take_ (i := 1) (N := some 42) (v := ?_) (a' := ?_) #[true, true, false, false, false] rfl rfl (by kernel_rfl) (fun _ _ _ h => h) (Or.inl ⟨by rfl, ?_⟩) hHeld ?_ ?_
  rotate_left
  · rintro w' ⟨s0, s1, s2, s3⟩
    go_simp
    with_reducible rfl
  rotate_left
  · simp only [Act.put, List.setIfInBounds_toArray, List.set_cons_zero, List.set_cons_succ, i64_w, i32_w]
    rfl
  refine one_ (i := 2) (N := some 43) #[true, true, true, false, false] rfl rfl (by kernel_rfl) (by decide) (fun K hK => ?_)
  refine goes_ Try.func35 (by kernel_rfl) rfl #[.agg #[.slice A0_0 l0_0.length c0_0, .slice A0_1 l0_1.length c0_1]] (by rfl) rfl rfl (by (try simp only [List.map_toArray, List.map_cons, List.map_nil]); first | done | rfl | (simp only [List.length_drop, List.length_take]; rfl)) ?_
  refine (laws_toRaft.calls k _ _ l0_0 _ _ l0_1 x5 x6 _ (Kd.C_below HR0_0.out HC.out.b) hc0_0 (Kd.C_below HR0_1.out HC.out.b) hc0_1 E7.out).mono ?_
  rintro e w8 ⟨v55, v56, rfl, ho0, ho1, hb⟩
  refine ⟨_, rfl, ?_⟩
  obtain ⟨A57, c58, rfl⟩ := Kd.S_slice ho0
  obtain ⟨A59, c60, rfl⟩ := Kd.S_slice ho1
  obtain ⟨lo61, hi62, HC'⟩ := HC.out.push hb (Q := fun lo hi U => Kd.S k98 98 U lo (Bt lo hi) (.slice A57 x5.length c58) x5 ∧ Kd.S k126 126 U lo (Bt lo hi) (.slice A59 x6.length c60) x6) (foot_and (foot_S (in_S ho0)) (foot_S (in_S ho1)))
  replace HC := Aside0.mk HC'
  clear HC' hb ho0 ho1
  refine hK.out _ _ ⟨(blk_cell (HC.out.at_ 2 rfl) 0).trans rfl, (blk_cell (HC.out.at_ 2 rfl) 1).trans rfl, (blk_cell (HC.out.at_ 6 rfl) 0).trans rfl, (blk_cell (HC.out.at_ 6 rfl) 1).trans rfl⟩ (fun hHeld => ?_)
  clear hK K
  refine norm_ (a' := ?_) ?_ ?_
  rotate_left
  · show Act.put _ (some 43) _ = _
    simp only [Act.put, List.setIfInBounds_toArray, List.set_cons_zero, List.set_cons_succ, i64_w, i32_w]
    rfl
  refine one_ (i := 3) (N := some 44) #[true, true, true, true, false] rfl rfl (by kernel_rfl) (by decide) (fun K hK => ?_)
  refine goes_ Try.func25 (by kernel_rfl) rfl #[.agg #[.slice A30 x5.length c31, .slice A32 x6.length c33], .agg #[.slice A57 x5.length c58, .slice A59 x6.length c60]] (by rfl) rfl rfl (by (try simp only [List.map_toArray, List.map_cons, List.map_nil]); first | done | rfl | (simp only [List.length_drop, List.length_take]; rfl)) ?_
  refine (laws_eqRaft.calls k _ _ x5 _ _ x6 _ _ x5 _ _ x6 true _ (Kd.S_reads' (HC.out.at_ 3 rfl).1).2.2 (Kd.S_reads' (HC.out.at_ 3 rfl).1).2.1 (Kd.S_reads' (HC.out.at_ 3 rfl).2).2.2 (Kd.S_reads' (HC.out.at_ 3 rfl).2).2.1 (Kd.S_reads' (HC.out.at_ 0 rfl).1).2.2 (Kd.S_reads' (HC.out.at_ 0 rfl).1).2.1 (Kd.S_reads' (HC.out.at_ 0 rfl).2).2.2 (Kd.S_reads' (HC.out.at_ 0 rfl).2).2.1 E63.out).mono ?_
  rintro e w9 ⟨rfl, hb⟩
  refine ⟨_, rfl, ?_⟩
  replace HC := Aside0.mk (HC.out.below hb)
  clear hb
  refine hK.out _ _ ⟨(blk_cell (HC.out.at_ 2 rfl) 0).trans rfl, (blk_cell (HC.out.at_ 2 rfl) 1).trans rfl, (blk_cell (HC.out.at_ 6 rfl) 0).trans rfl, (blk_cell (HC.out.at_ 6 rfl) 1).trans rfl⟩ (fun hHeld => ?_)
  clear hK K
  refine norm_ (a' := ?_) ?_ ?_
  rotate_left
  · show Act.put _ (some 44) _ = _
    simp only [Act.put, List.setIfInBounds_toArray, List.set_cons_zero, List.set_cons_succ, i64_w, i32_w]
    rfl
  refine pure_ (i := 4) (N := some 45) (v := ?_) (a' := ?_) #[true, true, true, true, true] rfl rfl (by kernel_rfl) (fun _ _ _ h => h) (Or.inl ⟨by rfl, ?_⟩) ?_ ?_
  rotate_left
  · intro w'
    go_simp
    with_reducible rfl
  rotate_left
  · simp only [Act.put, List.setIfInBounds_toArray, List.set_cons_zero, List.set_cons_succ, i64_w, i32_w]
    rfl
  refine done_ (by kernel_rfl) ?_
  clear b51 b52 b53 b54
  have b64 := (blk_cell (HC.out.at_ 2 rfl) 0).trans rfl
  have b65 := (blk_cell (HC.out.at_ 2 rfl) 1).trans rfl
  have b66 := (blk_cell (HC.out.at_ 6 rfl) 0).trans rfl
  have b67 := (blk_cell (HC.out.at_ 6 rfl) 1).trans rfl
  go_wp2_with fail
  obtain ⟨ms1_0, mp1_0, mq1_0, mt1_0, mn1_0, mg1_0, mf1_0, md1_0⟩ := row_S brPeer (HC.out.at_ 3 rfl).1
  obtain ⟨ms1_1, mp1_1, mq1_1, mt1_1, mn1_1, mg1_1, mf1_1, md1_1⟩ := row_S brMail (HC.out.at_ 3 rfl).2
  refine (markRaft_ok _ ms1_0 mp1_0 _ ms1_1 mp1_1  1 _ mq1_0 mq1_1 mt1_0 mt1_1 (by decide) (by rw [List.length_append, mn1_0, mn1_1]; have := hB0.out; have := hB1.out;  omega)).mono ?_
  rintro e w10 ⟨rfl, hw⟩
  replace HC := Aside0.mk (Ch.wr0 (L1 := [_, _, _]) HC.out hw (fun p h => by (try simp only [List.append_assoc] at h); exact (List.mem_append.1 h).elim (fun h => (mf1_0 p h).1) (fun h => (mf1_1 p h).1)))
  obtain ⟨km1, hkm⟩ : ∃ km_ : Int, km_ = 1 + ((mp1_0 ++ mp1_1).length : Int) := ⟨_, rfl⟩
  rw [← hkm]
  have km1p : Aside0 (0 ≤ km1) := ⟨by  omega⟩
  have km1b : Aside0 (km1 ≤ 400000001) := ⟨by rw [hkm]; rw [List.length_append, mn1_0, mn1_1]; have := hB0.out; have := hB1.out;  omega⟩
  have hd_km1 : decide (km1 < 0) = false := decide_eq_false (by have := km1p.out; omega)
  clear hkm hw ms1_0 mq1_0 mt1_0 mn1_0 mg1_0 mf1_0 md1_0 ms1_1 mq1_1 mt1_1 mn1_1 mg1_1 mf1_1 md1_1 
  clear b64 b65 b66 b67
  have b68 := (blk_cell (HC.out.at_ 2 rfl) 0).trans rfl
  have b69 := (blk_cell (HC.out.at_ 2 rfl) 1).trans rfl
  have b70 := (blk_cell (HC.out.at_ 6 rfl) 0).trans rfl
  have b71 := (blk_cell (HC.out.at_ 6 rfl) 1).trans rfl
  go_wp2_with fail
  refine (laws_eqEntryS.calls k _ _ r18 _ _ r18 true _ (Kd.R_reads' (HC.out.at_ 1 rfl)).2.2 (Kd.R_reads' (HC.out.at_ 1 rfl)).2.1 (Kd.R_reads' (HC.out.at_ 4 rfl)).2.2 (Kd.R_reads' (HC.out.at_ 4 rfl)).2.1 E50.out).mono ?_
  rintro e w11 ⟨rfl, hb⟩
  replace HC := Aside0.mk (HC.out.below hb)
  clear hb
  clear b68 b69 b70 b71
  have b72 := (blk_cell (HC.out.at_ 2 rfl) 0).trans rfl
  have b73 := (blk_cell (HC.out.at_ 2 rfl) 1).trans rfl
  have b74 := (blk_cell (HC.out.at_ 6 rfl) 0).trans rfl
  have b75 := (blk_cell (HC.out.at_ 6 rfl) 1).trans rfl
  go_wp2_with fail
  obtain ⟨ms2_0, mp2_0, mq2_0, mt2_0, mn2_0, mg2_0, mf2_0, md2_0⟩ := row_R brEntry (HC.out.at_ 1 rfl)
  refine (markEntryS_ok _ ms2_0 mp2_0  1 _ mq2_0 mt2_0 (by decide) (by rw [mn2_0]; have := hB2.out;  omega)).mono ?_
  rintro e w12 ⟨rfl, hw⟩
  have mT : Pt w12 (ms2_0) (mp2_0) := (mt2_0).wr hw (mt2_0).a
  have mA : apart (mp2_0) := (md2_0 hX0.out (fun _ _ => rfl))
  have mH := hw.hs mA (mt2_0).a
  replace HC := Aside0.mk (Ch.wr (L1 := [_]) HC.out hw (fun p hp => (mf2_0 p hp).1) (foot_and (foot_pt mT mg2_0 (fun p hp => (mf2_0 p hp).1)) (foot_hs mH (fun p hp => (mf2_0 p hp).1))))
  have hl2 : Aside0 (1 + ((mp2_0).length : Int) ≤ 1000000000) := ⟨by rw [mn2_0]; have := hB2.out; omega⟩
  have Qmq2_0 := Aside0.mk mq2_0
  obtain ⟨km2, hkm⟩ : ∃ km_ : Int, km_ = 1 + ((mp2_0).length : Int) := ⟨_, rfl⟩
  have HK2 := Aside0.mk hkm
  rw [← hkm]
  have hd_km2 : decide (km2 < 0) = false := decide_eq_false (by omega)
  clear hkm hw mT mA mH mq2_0 mt2_0 mn2_0 mg2_0 mf2_0 md2_0
  clear b72 b73 b74 b75
  have b76 := (blk_cell (HC.out.at_ 2 rfl) 0).trans rfl
  have b77 := (blk_cell (HC.out.at_ 2 rfl) 1).trans rfl
  have b78 := (blk_cell (HC.out.at_ 6 rfl) 0).trans rfl
  have b79 := (blk_cell (HC.out.at_ 6 rfl) 1).trans rfl
  go_wp2_with fail
  refine (heldEntryS_ok _ ms2_0 mp2_0  1 _ Qmq2_0.out (HC.out.at_ 1 rfl).1 (HC.out.at_ 1 rfl).2 (by decide) (by  exact hl2.out)).mono ?_
  rintro e w13 ⟨rfl, hb⟩
  replace HC := Aside0.mk (HC.out.below hb)
  rw [← HK2.out]
  clear hb
  clear b76 b77 b78 b79
  have b80 := (blk_cell (HC.out.at_ 2 rfl) 0).trans rfl
  have b81 := (blk_cell (HC.out.at_ 2 rfl) 1).trans rfl
  have b82 := (blk_cell (HC.out.at_ 6 rfl) 0).trans rfl
  have b83 := (blk_cell (HC.out.at_ 6 rfl) 1).trans rfl
  go_wp2_with fail
  refine (laws_toRaft.calls k _ _ l0_0 _ _ l0_1 x5 x6 _ (Kd.C_below HR0_0.out HC.out.b) hc0_0 (Kd.C_below HR0_1.out HC.out.b) hc0_1 E7.out).mono ?_
  rintro e w14 ⟨v84, v85, rfl, ho0, ho1, hb⟩
  obtain ⟨A86, c87, rfl⟩ := Kd.S_slice ho0
  obtain ⟨A88, c89, rfl⟩ := Kd.S_slice ho1
  obtain ⟨lo90, hi91, HC'⟩ := HC.out.push hb (Q := fun lo hi U => Kd.S k98 98 U lo (Bt lo hi) (.slice A86 x5.length c87) x5 ∧ Kd.S k126 126 U lo (Bt lo hi) (.slice A88 x6.length c89) x6) (foot_and (foot_S (in_S ho0)) (foot_S (in_S ho1)))
  replace HC := Aside0.mk HC'
  clear HC' hb ho0 ho1
  clear b80 b81 b82 b83
  have b92 := (blk_cell (HC.out.at_ 3 rfl) 0).trans rfl
  have b93 := (blk_cell (HC.out.at_ 3 rfl) 1).trans rfl
  have b94 := (blk_cell (HC.out.at_ 7 rfl) 0).trans rfl
  have b95 := (blk_cell (HC.out.at_ 7 rfl) 1).trans rfl
  go_wp2_with fail
  refine (impl_CommittedIn.calls k _ _ x5 _ _ x6 r18 r19 _ (Kd.S_reads' (HC.out.at_ 0 rfl).1).2.2 (Kd.S_reads' (HC.out.at_ 0 rfl).1).2.1 (Kd.S_reads' (HC.out.at_ 0 rfl).2).2.2 (Kd.S_reads' (HC.out.at_ 0 rfl).2).2.1 E40.out).mono ?_
  rintro e w15 ⟨v96, rfl, ho0, hb⟩
  obtain ⟨A97, c98, rfl⟩ := Kd.R_slice ho0
  obtain ⟨lo99, hi100, HC'⟩ := HC.out.push hb (Q := fun lo hi U => Kd.R k67 67 U lo (Bt lo hi) (.slice A97 r18.length c98) r18) (foot_R (in_R ho0))
  replace HC := Aside0.mk HC'
  clear HC' hb ho0
  clear b92 b93 b94 b95
  have b101 := (blk_cell (HC.out.at_ 4 rfl) 0).trans rfl
  have b102 := (blk_cell (HC.out.at_ 4 rfl) 1).trans rfl
  have b103 := (blk_cell (HC.out.at_ 8 rfl) 0).trans rfl
  have b104 := (blk_cell (HC.out.at_ 8 rfl) 1).trans rfl
  go_wp2_with fail
  refine (laws_eqEntryS.calls k _ _ r18 _ _ r18 true _ (Kd.R_reads' (HC.out.at_ 0 rfl)).2.2 (Kd.R_reads' (HC.out.at_ 0 rfl)).2.1 (Kd.R_reads' (HC.out.at_ 6 rfl)).2.2 (Kd.R_reads' (HC.out.at_ 6 rfl)).2.1 E50.out).mono ?_
  rintro e w16 ⟨rfl, hb⟩
  replace HC := Aside0.mk (HC.out.below hb)
  clear hb
  clear b101 b102 b103 b104
  have b105 := (blk_cell (HC.out.at_ 4 rfl) 0).trans rfl
  have b106 := (blk_cell (HC.out.at_ 4 rfl) 1).trans rfl
  have b107 := (blk_cell (HC.out.at_ 8 rfl) 0).trans rfl
  have b108 := (blk_cell (HC.out.at_ 8 rfl) 1).trans rfl
  go_wp2_with fail
  refine (heldEntryS_ok _ ms2_0 mp2_0  1 _ Qmq2_0.out (HC.out.at_ 3 rfl).1 (HC.out.at_ 3 rfl).2 (by decide) (by  exact hl2.out)).mono ?_
  rintro e w17 ⟨rfl, hb⟩
  replace HC := Aside0.mk (HC.out.below hb)
  rw [← HK2.out]
  clear hb
  clear b105 b106 b107 b108
  have b109 := (blk_cell (HC.out.at_ 4 rfl) 0).trans rfl
  have b110 := (blk_cell (HC.out.at_ 4 rfl) 1).trans rfl
  have b111 := (blk_cell (HC.out.at_ 8 rfl) 0).trans rfl
  have b112 := (blk_cell (HC.out.at_ 8 rfl) 1).trans rfl
  go_wp2
  go_ret
  exact ⟨rfl, HC.out.b⟩
set_option maxHeartbeats 8000000 in
set_option maxRecDepth 100000 in
theorem FnExactCommittedIn_out0 (k : Nat) (A0_0 : Option Addr) (c0_0 : Nat) (l0_0 : List S152) (A0_1 : Option Addr) (c0_1 : Nat) (l0_1 : List S155) (w : World) (hr0_0 : Kd.C k152 w A0_0 l0_0.length l0_0) (hc0_0 : l0_0.length ≤ c0_0) (hr0_1 : Kd.C k155 w A0_1 l0_1.length l0_1) (hc0_1 : l0_1.length ≤ c0_1) (z1 : Int) (eE2 : laws_szRaft.f k l0_0 l0_1 1048576 = some z1)  (hz : z1 < 0)  :
    Calls Try.prog 13 #[.agg #[.slice A0_0 l0_0.length c0_0, .slice A0_1 l0_1.length c0_1]] w fun e w' => e = .returned (.bool true) ∧ Below w.heap.size w w' := by
  have hu37 := Try.underlying37
  have hu61 := Try.underlying61
  have HR0_0 := Aside0.mk hr0_0
  clear hr0_0
  have HR0_1 := Aside0.mk hr0_1
  clear hr0_1
  have HC := Aside0.mk (Ch.start w)
  have E2 := Aside0.mk eE2
  clear eE2
  go_enter Try.func13, Try.ntmps13
  go_wp2_with fail
  replace HC := Aside0.mk (HC.out.box (.cells #[.slice A0_0 l0_0.length c0_0, .slice A0_1 l0_1.length c0_1] 61))
  refine (laws_szRaft.calls k _ _ l0_0 _ _ l0_1 1048576 z1 _ (Kd.C_below HR0_0.out HC.out.b) hc0_0 (Kd.C_below HR0_1.out HC.out.b) hc0_1 E2.out).mono ?_
  rintro e w1 ⟨rfl, hb⟩
  replace HC := Aside0.mk (HC.out.below hb)
  clear hb
  have hz_ : decide (z1 < 0) = true := decide_eq_true hz
  clear hz
  go_wp2
  go_ret
  exact ⟨rfl, HC.out.b⟩
def FnExactCommittedIn_Pure : Prop := ∀ (x0 : S61), (ok61 x0) → ∃ k : Nat, ∃ z1 : Int, laws_szRaft.f k x0.f0 x0.f1 1048576 = some z1 ∧ (z1 < 0 ∨ ¬ z1 < 0 ∧ (∃ (x5 : List (S98)) (x6 : List (S126)) (r18 : List (S67)) (r19 : Bool), laws_toRaft.f k x0.f0 x0.f1 = some (x5, x6) ∧ spec_CommittedIn.f k x5 x6 = some (r18, r19) ∧ impl_CommittedIn.f k x5 x6 = some (r18, r19) ∧ laws_eqEntryS.f k r18 r18 = some true ∧ laws_eqRaft.f k x5 x6 x5 x6 = some true ∧ tot pcPeer x5 ≤ 100000000 ∧ tot pcMail x6 ≤ 100000000 ∧ tot pcEntry r18 ≤ 100000000 ∧ (∀ x ∈ r18, peEntry x)))
theorem FnExactCommittedIn_calls (hP : FnExactCommittedIn_Pure) (x0 : S61) (A0_0 : Option Addr) (c0_0 : Nat) (A0_1 : Option Addr) (c0_1 : Nat) (b0 : ok61 x0) (w : World) (hr0_0 : Kd.C k152 w A0_0 x0.f0.length x0.f0) (hc0_0 : x0.f0.length ≤ c0_0) (hr0_1 : Kd.C k155 w A0_1 x0.f1.length x0.f1) (hc0_1 : x0.f1.length ≤ c0_1) :
    Calls Try.prog 13 #[.agg #[.slice A0_0 x0.f0.length c0_0, .slice A0_1 x0.f1.length c0_1]] w fun e w' => e = .returned (.bool true) ∧ Below w.heap.size w w' := by
  obtain ⟨k, hk⟩ := hP x0 b0
  obtain ⟨z1, eE2, hk⟩ := hk
  rcases hk with hz | ⟨hz_z1n, hk⟩
  · exact FnExactCommittedIn_out0 k A0_0 c0_0 x0.f0 A0_1 c0_1 x0.f1 w hr0_0 hc0_0 hr0_1 hc0_1 z1 eE2  hz 
  obtain ⟨x5, x6, r18, r19, eE7, eE20, eE40, eE50, eE63, hB0_, hB1_, hB2_, hX0_⟩ := hk
  exact FnExactCommittedIn_law k A0_0 c0_0 x0.f0 A0_1 c0_1 x0.f1 w hr0_0 hc0_0 hr0_1 hc0_1 z1 eE2 hz_z1n x5 x6 r18 r19 eE7 eE20 eE40 eE50 eE63 hB0_ hB1_ hB2_ hX0_ 
end Go.Proofs.Ytomdjipejoafgaa.Mk
end
section
namespace Go.Proofs.Ytomdjipejoafgaa.Pl
open Go.RowKit Go.Proofs.YtomdjipejoafgaaW.PrintWords Go.Proofs.YtomdjipejoafgaaW.PrintLast Go.Proofs.YtomdjipejoafgaaW.PrintMore
theorem wrap_in {x : Int} (h0 : -9223372036854775808 ≤ x) (h1 : x ≤ 9223372036854775807) : wrap64 x = x := by
  unfold wrap64
  omega
theorem wrap_len {n m : Nat} (h : n < m) (hm : m ≤ 4611686018427387904) : wrap64 ((n : Int) + 1) = ((n + 1 : Nat) : Int) := by
  rw [wrap_in (by omega) (by omega)]
  omega
theorem round {k d : Nat} (h : d < k) : ∃ m, k = m + 1 := ⟨k - 1, by omega⟩
theorem rd_mid (pre : List Int) (h : Int) (t : List Int) : rd (pre ++ h :: t) (pre.length : Int) = h := by
  simp [rd]
theorem rd_at {pre t l : List Int} {h : Int} (e : pre ++ h :: t = l) : rd l (pre.length : Int) = h := by
  rw [← e]; exact rd_mid pre h t
theorem len_mid {α : Type} {pre t : List α} {h : α} {l : List α} (e : pre ++ h :: t = l) : pre.length < l.length := by
  rw [← e]; simp
theorem len_end {α : Type} {pre l : List α} (e : pre ++ [] = l) : pre.length = l.length := by
  rw [← e]; simp
theorem app_mid {α : Type} {pre t : List α} {h : α} {l : List α} (e : pre ++ h :: t = l) : (pre ++ [h]) ++ t = l := by
  rw [← e]; simp
theorem len_one {α : Type} (pre : List α) (h : α) : (pre ++ [h]).length = pre.length + 1 := by simp
theorem no_last {α : Type} {pre : List α} (h : pre.getLast? = none) : pre = [] := by
  simpa using h
end Go.Proofs.Ytomdjipejoafgaa.Pl
end
section
namespace Go.Proofs.Ytomdjipejoafgaa.EvN
def Cm {α : Type} (f : Nat → Option α) (v : α) : Prop := ∃ K, ∀ k, K ≤ k → f k = some v
theorem cm_now {α : Type} {f : Nat → Option α} {v : α} (h : ∀ k, f k = some v) : Cm f v := ⟨0, fun k _ => h k⟩
theorem cm_step {α : Type} {f g : Nat → Option α} {v : α} (h : ∀ k, f (k + 1) = g k) (hg : Cm g v) : Cm f v := by
  obtain ⟨K, hK⟩ := hg
  refine ⟨K + 1, fun k hk => ?_⟩
  obtain ⟨m, rfl⟩ : ∃ m, k = m + 1 := ⟨k - 1, by omega⟩
  rw [h, hK m (by omega)]
theorem cm_same {α : Type} {f g : Nat → Option α} {v : α} (h : ∀ k, f k = g k) (hg : Cm g v) : Cm f v := by
  obtain ⟨K, hK⟩ := hg
  exact ⟨K, fun k hk => by rw [h, hK k hk]⟩
theorem cm_bind {α β : Type} {a : Nat → Option α} {t : α} {g : Nat → α → Option β} {v : β} (ha : Cm a t) (hg : Cm (fun k => g k t) v) : Cm (fun k => (a k).bind (g k)) v := by
  obtain ⟨K, hK⟩ := ha
  obtain ⟨M, hM⟩ := hg
  exact ⟨K + M, fun k hk => by simp only [hK k (by omega)]; exact hM k (by omega)⟩
theorem cm_yes {α : Type} {c : Prop} [Decidable c] {x y : Nat → Option α} {v : α} (h : c) (h2 : Cm x v) : Cm (fun k => if c then x k else y k) v :=
  cm_same (fun _ => if_pos h) h2
theorem cm_no {α : Type} {c : Prop} [Decidable c] {x y : Nat → Option α} {v : α} (h : ¬ c) (h2 : Cm y v) : Cm (fun k => if c then x k else y k) v :=
  cm_same (fun _ => if_neg h) h2
end Go.Proofs.Ytomdjipejoafgaa.EvN
end
section
namespace Go.Proofs.Ytomdjipejoafgaa.Lp
open Go.RowKit Go.Proofs.YtomdjipejoafgaaW.PrintWords
open Go.Proofs.Ytomdjipejoafgaa.Pl Go.Proofs.Ytomdjipejoafgaa.EvN
def okFrom {α : Type} (p : List α → α → Bool) : List α → List α → Bool
  | _, [] => true
  | pre, h :: t => p pre h && okFrom p (pre ++ [h]) t
theorem all_cm {α ρ : Type} {L : Nat → Int → Option ρ} (xs : List α) (p : List α → α → Bool) {fin no : ρ}
    (hstep : ∀ pre h t, pre ++ h :: t = xs → pre.length < xs.length → p pre h = true → ∀ v, Cm (fun k => L k ((pre.length + 1 : Nat) : Int)) v → Cm (fun k => L k (pre.length : Int)) v)
    (hno : ∀ pre h t, pre ++ h :: t = xs → pre.length < xs.length → p pre h = false → Cm (fun k => L k (pre.length : Int)) no)
    (hend : okFrom p [] xs = true → Cm (fun k => L k (xs.length : Int)) fin) : Cm (fun k => L k 0) (if okFrom p [] xs = true then fin else no) := by
  have key : ∀ (rest pre : List α), pre ++ rest = xs → (okFrom p pre rest = okFrom p [] xs) → Cm (fun k => L k (pre.length : Int)) (if okFrom p pre rest = true then fin else no) := by
    intro rest
    induction rest with
    | nil =>
      intro pre e h
      rw [List.append_nil] at e
      subst e
      simp only [okFrom, if_true] at h ⊢
      exact hend h.symm
    | cons x t ih =>
      intro pre e h
      by_cases c : p pre x = true
      · have h2 : okFrom p pre (x :: t) = okFrom p (pre ++ [x]) t := by simp only [okFrom, c, Bool.true_and]
        rw [h2] at h ⊢
        have h3 := ih (pre ++ [x]) (app_mid e) h
        rw [len_one] at h3
        exact hstep pre x t e (len_mid e) c _ h3
      · have c2 : p pre x = false := by simpa using c
        have h2 : okFrom p pre (x :: t) = false := by simp only [okFrom, c2, Bool.false_and]
        rw [h2]
        simpa using hno pre x t e (len_mid e) c2
  exact key xs [] rfl rfl
theorem okFrom_all {α : Type} (p : α → Bool) : ∀ (rest pre : List α), okFrom (fun _ h => p h) pre rest = rest.all p
  | [], _ => rfl
  | x :: t, pre => by simp only [okFrom, List.all_cons, okFrom_all p t]
theorem every_cm {α ρ : Type} {L : Nat → Int → Option ρ} (xs : List α) (p : α → Bool) {fin no : ρ}
    (hstep : ∀ pre h t, pre ++ h :: t = xs → pre.length < xs.length → p h = true → ∀ v, Cm (fun k => L k ((pre.length + 1 : Nat) : Int)) v → Cm (fun k => L k (pre.length : Int)) v)
    (hno : ∀ pre h t, pre ++ h :: t = xs → pre.length < xs.length → p h = false → Cm (fun k => L k (pre.length : Int)) no)
    (hend : xs.all p = true → Cm (fun k => L k (xs.length : Int)) fin) : Cm (fun k => L k 0) (if xs.all p = true then fin else no) := by
  have := all_cm (L := L) xs (fun _ h => p h) hstep hno (by rw [okFrom_all]; exact hend)
  rw [okFrom_all] at this
  exact this
def foundAt {α ρ : Type} (p : α → Bool) (found : Nat → α → ρ) (none_ : ρ) : Nat → List α → ρ
  | _, [] => none_
  | i, h :: t => if p h = true then found i h else foundAt p found none_ (i + 1) t
theorem find_cm {α ρ : Type} {L : Nat → Int → Option ρ} (xs : List α) (p : α → Bool) (found : Nat → α → ρ) {none_ : ρ}
    (hstep : ∀ pre h t, pre ++ h :: t = xs → pre.length < xs.length → p h = false → ∀ v, Cm (fun k => L k ((pre.length + 1 : Nat) : Int)) v → Cm (fun k => L k (pre.length : Int)) v)
    (hyes : ∀ pre h t, pre ++ h :: t = xs → pre.length < xs.length → p h = true → Cm (fun k => L k (pre.length : Int)) (found pre.length h))
    (hend : Cm (fun k => L k (xs.length : Int)) none_) : Cm (fun k => L k 0) (foundAt p found none_ 0 xs) := by
  have key : ∀ (rest pre : List α), pre ++ rest = xs → Cm (fun k => L k (pre.length : Int)) (foundAt p found none_ pre.length rest) := by
    intro rest
    induction rest with
    | nil =>
      intro pre e
      rw [List.append_nil] at e
      subst e
      exact hend
    | cons x t ih =>
      intro pre e
      unfold foundAt
      by_cases c : p x = true
      · rw [if_pos c]
        exact hyes pre x t e (len_mid e) c
      · rw [if_neg c]
        have h3 := ih (pre ++ [x]) (app_mid e)
        rw [len_one] at h3
        exact hstep pre x t e (len_mid e) (by simpa using c) _ h3
  exact key xs [] rfl
theorem found_any {α : Type} (p : α → Bool) : ∀ (l : List α) (i : Nat), decide (foundAt p (fun i _ => (i : Int)) (-1) i l ≥ 0) = l.any p
  | [], _ => by simp [foundAt]
  | h :: t, i => by
    unfold foundAt
    by_cases c : p h = true
    · rw [if_pos c]; simp [c]
    · rw [if_neg c, found_any p t (i + 1)]; simp [c]
theorem not_any {α : Type} (p q : α → Bool) (l : List α) (h : ∀ x ∈ l, p x = !q x) : (!l.any p) = l.all q := by
  induction l with
  | nil => rfl
  | cons x t ih => rw [List.any_cons, List.all_cons, h x (by simp), ← ih (fun y hy => h y (by simp [hy]))]; cases q x <;> simp
theorem same_cm {α ρ : Type} {L : Nat → Int → Option ρ} (xs : List α) {fin : ρ}
    (hstep : ∀ pre h t, pre ++ h :: t = xs → pre.length < xs.length → ∀ v, Cm (fun k => L k ((pre.length + 1 : Nat) : Int)) v → Cm (fun k => L k (pre.length : Int)) v)
    (hend : Cm (fun k => L k (xs.length : Int)) fin) : Cm (fun k => L k 0) fin := by
  have := every_cm (L := L) xs (fun _ => true) (fin := fin) (no := fin) (fun pre h t e hl _ => hstep pre h t e hl) (fun _ _ _ _ _ hp => by cases hp) (fun _ => hend)
  have h : (xs.all fun _ => true) = true := by simp
  rw [if_pos h] at this
  exact this
theorem map_cm {α β : Type} {L : Nat → Int → List β → Option (List β)} (xs : List α) (c : α → β) (z : β)
    (hstep : ∀ pre h t acc, pre ++ h :: t = xs → pre.length < xs.length → acc.length = xs.length → ∀ u, Cm (fun k => L k ((pre.length + 1 : Nat) : Int) (acc.set pre.length (c h))) u → Cm (fun k => L k (pre.length : Int) acc) u)
    (hend : ∀ acc, acc.length = xs.length → Cm (fun k => L k (xs.length : Int) acc) acc) : Cm (fun k => L k 0 (List.replicate xs.length z)) (xs.map c) := by
  have key : ∀ (rest pre : List α) (tl : List β), pre ++ rest = xs → tl.length = rest.length → Cm (fun k => L k (pre.length : Int) (pre.map c ++ tl)) (xs.map c) := by
    intro rest
    induction rest with
    | nil =>
      intro pre tl e ht
      have ht2 : tl = [] := List.length_eq_zero_iff.1 ht
      rw [List.append_nil] at e
      subst ht2 e
      rw [List.append_nil]
      exact hend _ (by simp)
    | cons h t ih =>
      intro pre tl e ht
      match tl, ht with
      | y :: tl, ht =>
        refine hstep pre h t _ e (len_mid e) (by rw [← e]; simp at ht ⊢; omega) _ ?_
        have e2 : (pre.map c ++ y :: tl).set pre.length (c h) = (pre ++ [h]).map c ++ tl := by
          have : pre.length = (pre.map c).length := by simp
          rw [this]
          simp
        rw [e2]
        have := ih (pre ++ [h]) tl (app_mid e) (by simpa using ht)
        rw [len_one] at this
        exact this
  have := key xs [] (List.replicate xs.length z) rfl (by simp)
  simpa using this
theorem cm_if {α : Type} {c : Prop} [Decidable c] {x y : Nat → Option α} {v : α} (h : c → Cm x v) (h2 : ¬ c → Cm y v) : Cm (fun k => if c then x k else y k) v := by
  by_cases hc : c
  · exact cm_yes hc (h hc)
  · exact cm_no hc (h2 hc)
theorem getD_at {α : Type} {pre t l : List α} {h : α} (e : pre ++ h :: t = l) (d : α) : l.getD ((pre.length : Int)).toNat d = h := by
  rw [← e]; simp
theorem getLast_at {α : Type} {pre rest l : List α} (e : pre ++ rest = l) (d : α) {q : α} (h : pre.getLast? = some q) : 0 < pre.length ∧ l.getD ((pre.length : Int) - 1).toNat d = q := by
  obtain ⟨z, rfl⟩ := List.getLast?_eq_some_iff.1 h
  refine ⟨by simp, ?_⟩
  have h3 : ((((z ++ [q]).length : Nat) : Int) - 1).toNat = z.length := by simp
  rw [← e, h3]
  simp
theorem wrap_less {n : Nat} (h : 0 < n) (hm : n ≤ 4611686018427387904) : wrap64 ((n : Int) - 1) = (n : Int) - 1 := wrap_in (by omega) (by omega)
theorem cm_val {α : Type} {f : Nat → Option α} {u v : α} (h : Cm f u) (e : u = v) : Cm f v := e ▸ h
end Go.Proofs.Ytomdjipejoafgaa.Lp
end
section
namespace Go.Proofs.Ytomdjipejoafgaa.Hs
open Go.RowKit Go.Proofs.Ytomdjipejoafgaa.P Go.Proofs.YtomdjipejoafgaaW.PrintWords Go.Proofs.YtomdjipejoafgaaW.PrintLast Go.Proofs.YtomdjipejoafgaaW.PrintMore
open Go.Proofs.Ytomdjipejoafgaa.Pl Go.Proofs.Ytomdjipejoafgaa.EvN Go.Proofs.Ytomdjipejoafgaa.Lp
set_option linter.unusedSimpArgs false
set_option linter.unusedVariables false
theorem toIntS_f (l : List Int) (h : l.length * 8 ≤ 140737488351232) : Cm (fun k => laws_toIntS.f k l) l := by
  unfold laws_toIntS.f
  refine cm_yes (by omega) (cm_yes (by omega) ?_)
  have := map_cm (L := fun k i s => laws_toIntS.l0 k l s i) l (fun x => x) 0 ?_ ?_
  · simpa using this
  · intro pre x t acc e hlt ha u hu
    refine cm_step (fun k => by rw [laws_toIntS.l0]) ?_
    simp only [rd_at e, wrap_len hlt (show l.length ≤ 4611686018427387904 by omega), Int.toNat_natCast]
    repeat (first | assumption | exact cm_now (fun _ => rfl) | refine cm_yes (by first | omega | assumption | (simp; done) | (simp; omega)) ?_ | refine cm_no (by first | omega | assumption | (simp; done) | (simp; omega)) ?_)
  · intro acc ha
    refine cm_step (fun k => by rw [laws_toIntS.l0]) ?_
    repeat (first | assumption | exact cm_now (fun _ => rfl) | refine cm_yes (by first | omega | assumption | (simp; done) | (simp; omega)) ?_ | refine cm_no (by first | omega | assumption | (simp; done) | (simp; omega)) ?_)
theorem eqIntS_same (l : List Int) (h : l.length ≤ 4611686018427387904) : Cm (fun k => laws_eqIntS.f k l l) true := by
  unfold laws_eqIntS.f
  refine cm_yes rfl ?_
  refine same_cm (L := fun k i => laws_eqIntS.l0 k l l i) l ?_ ?_
  · intro pre x t e hlt v hv
    refine cm_step (fun k => by rw [laws_eqIntS.l0]) ?_
    simp only [rd_at e, wrap_len hlt h]
    repeat (first | assumption | exact cm_now (fun _ => rfl) | refine cm_yes (by first | omega | assumption | (simp; done) | (simp; omega) | exact rfl) ?_ | refine cm_no (by first | omega | assumption | (simp; done) | (simp; omega) | exact rfl) ?_)
  · refine cm_step (fun k => by rw [laws_eqIntS.l0]) ?_
    repeat (first | assumption | exact cm_now (fun _ => rfl) | refine cm_yes (by first | omega | assumption | (simp; done) | (simp; omega)) ?_ | refine cm_no (by first | omega | assumption | (simp; done) | (simp; omega)) ?_)
end Go.Proofs.Ytomdjipejoafgaa.Hs
end
section
namespace Go.Proofs.Ytomdjipejoafgaa.Hg
open Go.RowKit Go.Proofs.Ytomdjipejoafgaa.P Go.Proofs.YtomdjipejoafgaaW.PrintWords Go.Proofs.YtomdjipejoafgaaW.PrintLast Go.Proofs.YtomdjipejoafgaaW.PrintMore
open Go.Proofs.Ytomdjipejoafgaa.Pl Go.Proofs.Ytomdjipejoafgaa.EvN Go.Proofs.Ytomdjipejoafgaa.Lp Go.Proofs.Ytomdjipejoafgaa.Hs
set_option linter.unusedSimpArgs false
set_option linter.unusedVariables false
theorem rdT95_at {pre t l : List S95} {h : S95} (e : pre ++ h :: t = l) : rd_T95 l (pre.length : Int) = h := getD_at e _
theorem rdT67_at {pre t l : List S67} {h : S67} (e : pre ++ h :: t = l) : rd_T67 l (pre.length : Int) = h := getD_at e _
def cEntry (x : S95) : S67 := ⟨x.f0, x.f1⟩
def smEntry (x : S67) : Prop := (True) ∧ (True)
theorem sm_cEntry (x : S95) (h : ok95 x) : smEntry (cEntry x) := by
  obtain ⟨h0, h1⟩ := h
  exact ⟨trivial, trivial⟩
theorem toEntry_f (x : S95) (h : ok95 x) : Cm (fun k => laws_toEntry.f x.f0 x.f1) ((cEntry x).f0, (cEntry x).f1) := by
  obtain ⟨h0, h1⟩ := h
  unfold laws_toEntry.f
  exact cm_now fun _ => rfl
theorem toEntryS_f (l : List S95) (h : l.length ≤ maxLen ∧ l.length * 16 ≤ 140737488351232 ∧ ∀ x_ ∈ l, ok95 x_) : Cm (fun k => laws_toEntryS.f k l) (l.map cEntry) := by
  have hl := h.2.1
  unfold laws_toEntryS.f
  refine cm_yes (by omega) (cm_yes (by omega) ?_)
  rw [Int.toNat_natCast]
  refine map_cm (L := fun k i s => laws_toEntryS.l0 k l s i) l cEntry z67 ?_ ?_
  · intro pre x t acc e hlt ha u hu
    have hx := h.2.2 x (by rw [← e]; simp)
    refine cm_step (fun k => by rw [laws_toEntryS.l0]) ?_
    simp only [rdT95_at e, wrap_len hlt (show l.length ≤ 4611686018427387904 by omega), Int.toNat_natCast]
    refine cm_yes (by omega) (cm_yes (by omega) (cm_bind (toEntry_f x hx) (cm_yes (by omega) ?_)))
    exact hu
  · intro acc ha
    refine cm_step (fun k => by rw [laws_toEntryS.l0]) ?_
    exact cm_no (by omega) (cm_now fun _ => rfl)
theorem eqEntry_same (x : S67) (h : smEntry x) : Cm (fun k => laws_eqEntry.f x.f0 x.f1 x.f0 x.f1) true := by
  obtain ⟨h0, h1⟩ := h
  unfold laws_eqEntry.f
  exact cm_yes rfl (cm_yes rfl (cm_now fun _ => rfl))
theorem eqEntryS_same (l : List S67) (h : l.length ≤ 4611686018427387904 ∧ ∀ y ∈ l, smEntry y) : Cm (fun k => laws_eqEntryS.f k l l) true := by
  unfold laws_eqEntryS.f
  refine cm_yes rfl ?_
  refine same_cm (L := fun k i => laws_eqEntryS.l0 k l l i) l ?_ ?_
  · intro pre x t e hlt v hv
    have hx := h.2 x (by rw [← e]; simp)
    refine cm_step (fun k => by rw [laws_eqEntryS.l0]) ?_
    simp only [rdT67_at e, wrap_len hlt h.1]
    exact cm_yes (by omega) (cm_yes (by omega) (cm_yes (by omega) (cm_bind (eqEntry_same x hx) (cm_yes rfl hv))))
  · refine cm_step (fun k => by rw [laws_eqEntryS.l0]) ?_
    exact cm_no (by omega) (cm_now fun _ => rfl)
theorem rdT155_at {pre t l : List S155} {h : S155} (e : pre ++ h :: t = l) : rd_T155 l (pre.length : Int) = h := getD_at e _
theorem rdT126_at {pre t l : List S126} {h : S126} (e : pre ++ h :: t = l) : rd_T126 l (pre.length : Int) = h := getD_at e _
def cMail (x : S155) : S126 := ⟨x.f0, x.f1, x.f2, x.f3, x.f4, x.f5, x.f6.map cEntry, x.f7, x.f8⟩
def smMail (x : S126) : Prop := (True) ∧ (True) ∧ (True) ∧ (True) ∧ (True) ∧ (True) ∧ (x.f6.length ≤ 4611686018427387904 ∧ ∀ y ∈ x.f6, smEntry y) ∧ (True) ∧ (True)
theorem sm_cMail (x : S155) (h : ok155 x) : smMail (cMail x) := by
  obtain ⟨h0, h1, h2, h3, h4, h5, h6, h7, h8⟩ := h
  exact ⟨trivial, trivial, trivial, trivial, trivial, trivial, ⟨by have := h6.2.1; simp only [cMail, List.length_map]; omega, fun y hy => by obtain ⟨z, hz, rfl⟩ := List.mem_map.1 hy; exact sm_cEntry z (h6.2.2 z hz)⟩, trivial, trivial⟩
theorem toMail_f (x : S155) (h : ok155 x) : Cm (fun k => laws_toMail.f k x.f0 x.f1 x.f2 x.f3 x.f4 x.f5 x.f6 x.f7 x.f8) ((cMail x).f0, (cMail x).f1, (cMail x).f2, (cMail x).f3, (cMail x).f4, (cMail x).f5, (cMail x).f6, (cMail x).f7, (cMail x).f8) := by
  obtain ⟨h0, h1, h2, h3, h4, h5, h6, h7, h8⟩ := h
  unfold laws_toMail.f
  exact cm_bind (toEntryS_f _ h6) (cm_now fun _ => rfl)
theorem toMailS_f (l : List S155) (h : l.length ≤ maxLen ∧ l.length * 88 ≤ 140737488351232 ∧ ∀ x_ ∈ l, ok155 x_) : Cm (fun k => laws_toMailS.f k l) (l.map cMail) := by
  have hl := h.2.1
  unfold laws_toMailS.f
  refine cm_yes (by omega) (cm_yes (by omega) ?_)
  rw [Int.toNat_natCast]
  refine map_cm (L := fun k i s => laws_toMailS.l0 k l s i) l cMail z126 ?_ ?_
  · intro pre x t acc e hlt ha u hu
    have hx := h.2.2 x (by rw [← e]; simp)
    refine cm_step (fun k => by rw [laws_toMailS.l0]) ?_
    simp only [rdT155_at e, wrap_len hlt (show l.length ≤ 4611686018427387904 by omega), Int.toNat_natCast]
    refine cm_yes (by omega) (cm_yes (by omega) (cm_bind (toMail_f x hx) (cm_yes (by omega) ?_)))
    exact hu
  · intro acc ha
    refine cm_step (fun k => by rw [laws_toMailS.l0]) ?_
    exact cm_no (by omega) (cm_now fun _ => rfl)
theorem eqMail_same (x : S126) (h : smMail x) : Cm (fun k => laws_eqMail.f k x.f0 x.f1 x.f2 x.f3 x.f4 x.f5 x.f6 x.f7 x.f8 x.f0 x.f1 x.f2 x.f3 x.f4 x.f5 x.f6 x.f7 x.f8) true := by
  obtain ⟨h0, h1, h2, h3, h4, h5, h6, h7, h8⟩ := h
  unfold laws_eqMail.f
  exact cm_no (by simp) (cm_yes rfl (cm_yes rfl (cm_yes rfl (cm_yes rfl (cm_yes rfl (cm_bind (eqEntryS_same _ h6) (cm_yes rfl (cm_yes rfl (cm_yes rfl (cm_now fun _ => rfl))))))))))
theorem eqMailS_same (l : List S126) (h : l.length ≤ 4611686018427387904 ∧ ∀ y ∈ l, smMail y) : Cm (fun k => laws_eqMailS.f k l l) true := by
  unfold laws_eqMailS.f
  refine cm_yes rfl ?_
  refine same_cm (L := fun k i => laws_eqMailS.l0 k l l i) l ?_ ?_
  · intro pre x t e hlt v hv
    have hx := h.2 x (by rw [← e]; simp)
    refine cm_step (fun k => by rw [laws_eqMailS.l0]) ?_
    simp only [rdT126_at e, wrap_len hlt h.1]
    exact cm_yes (by omega) (cm_yes (by omega) (cm_yes (by omega) (cm_bind (eqMail_same x hx) (cm_yes rfl hv))))
  · refine cm_step (fun k => by rw [laws_eqMailS.l0]) ?_
    exact cm_no (by omega) (cm_now fun _ => rfl)
theorem rdT152_at {pre t l : List S152} {h : S152} (e : pre ++ h :: t = l) : rd_T152 l (pre.length : Int) = h := getD_at e _
theorem rdT98_at {pre t l : List S98} {h : S98} (e : pre ++ h :: t = l) : rd_T98 l (pre.length : Int) = h := getD_at e _
def cPeer (x : S152) : S98 := ⟨x.f0, x.f1, x.f2.map cEntry, x.f3, x.f4⟩
def smPeer (x : S98) : Prop := (True) ∧ (True) ∧ (x.f2.length ≤ 4611686018427387904 ∧ ∀ y ∈ x.f2, smEntry y) ∧ (True) ∧ (x.f4.length ≤ 4611686018427387904)
theorem sm_cPeer (x : S152) (h : ok152 x) : smPeer (cPeer x) := by
  obtain ⟨h0, h1, h2, h3, h4⟩ := h
  exact ⟨trivial, trivial, ⟨by have := h2.2.1; simp only [cPeer, List.length_map]; omega, fun y hy => by obtain ⟨z, hz, rfl⟩ := List.mem_map.1 hy; exact sm_cEntry z (h2.2.2 z hz)⟩, trivial, by have := h4.2.1; simp only [cPeer]; omega⟩
theorem toPeer_f (x : S152) (h : ok152 x) : Cm (fun k => laws_toPeer.f k x.f0 x.f1 x.f2 x.f3 x.f4) ((cPeer x).f0, (cPeer x).f1, (cPeer x).f2, (cPeer x).f3, (cPeer x).f4) := by
  obtain ⟨h0, h1, h2, h3, h4⟩ := h
  unfold laws_toPeer.f
  exact cm_bind (toEntryS_f _ h2) (cm_bind (toIntS_f _ h4.2.1) (cm_now fun _ => rfl))
theorem toPeerS_f (l : List S152) (h : l.length ≤ maxLen ∧ l.length * 72 ≤ 140737488351232 ∧ ∀ x_ ∈ l, ok152 x_) : Cm (fun k => laws_toPeerS.f k l) (l.map cPeer) := by
  have hl := h.2.1
  unfold laws_toPeerS.f
  refine cm_yes (by omega) (cm_yes (by omega) ?_)
  rw [Int.toNat_natCast]
  refine map_cm (L := fun k i s => laws_toPeerS.l0 k l s i) l cPeer z98 ?_ ?_
  · intro pre x t acc e hlt ha u hu
    have hx := h.2.2 x (by rw [← e]; simp)
    refine cm_step (fun k => by rw [laws_toPeerS.l0]) ?_
    simp only [rdT152_at e, wrap_len hlt (show l.length ≤ 4611686018427387904 by omega), Int.toNat_natCast]
    refine cm_yes (by omega) (cm_yes (by omega) (cm_bind (toPeer_f x hx) (cm_yes (by omega) ?_)))
    exact hu
  · intro acc ha
    refine cm_step (fun k => by rw [laws_toPeerS.l0]) ?_
    exact cm_no (by omega) (cm_now fun _ => rfl)
theorem eqPeer_same (x : S98) (h : smPeer x) : Cm (fun k => laws_eqPeer.f k x.f0 x.f1 x.f2 x.f3 x.f4 x.f0 x.f1 x.f2 x.f3 x.f4) true := by
  obtain ⟨h0, h1, h2, h3, h4⟩ := h
  unfold laws_eqPeer.f
  exact cm_yes rfl (cm_no (by simp) (cm_bind (eqEntryS_same _ h2) (cm_yes rfl (cm_yes rfl (cm_bind (eqIntS_same _ h4) (cm_yes rfl (cm_now fun _ => rfl)))))))
theorem eqPeerS_same (l : List S98) (h : l.length ≤ 4611686018427387904 ∧ ∀ y ∈ l, smPeer y) : Cm (fun k => laws_eqPeerS.f k l l) true := by
  unfold laws_eqPeerS.f
  refine cm_yes rfl ?_
  refine same_cm (L := fun k i => laws_eqPeerS.l0 k l l i) l ?_ ?_
  · intro pre x t e hlt v hv
    have hx := h.2 x (by rw [← e]; simp)
    refine cm_step (fun k => by rw [laws_eqPeerS.l0]) ?_
    simp only [rdT98_at e, wrap_len hlt h.1]
    exact cm_yes (by omega) (cm_yes (by omega) (cm_yes (by omega) (cm_bind (eqPeer_same x hx) (cm_yes rfl hv))))
  · refine cm_step (fun k => by rw [laws_eqPeerS.l0]) ?_
    exact cm_no (by omega) (cm_now fun _ => rfl)
def cRaft (x : S61) : S37 := ⟨x.f0.map cPeer, x.f1.map cMail⟩
def smRaft (x : S37) : Prop := (x.f0.length ≤ 4611686018427387904 ∧ ∀ y ∈ x.f0, smPeer y) ∧ (x.f1.length ≤ 4611686018427387904 ∧ ∀ y ∈ x.f1, smMail y)
theorem sm_cRaft (x : S61) (h : ok61 x) : smRaft (cRaft x) := by
  obtain ⟨h0, h1⟩ := h
  exact ⟨⟨by have := h0.2.1; simp only [cRaft, List.length_map]; omega, fun y hy => by obtain ⟨z, hz, rfl⟩ := List.mem_map.1 hy; exact sm_cPeer z (h0.2.2 z hz)⟩, ⟨by have := h1.2.1; simp only [cRaft, List.length_map]; omega, fun y hy => by obtain ⟨z, hz, rfl⟩ := List.mem_map.1 hy; exact sm_cMail z (h1.2.2 z hz)⟩⟩
theorem toRaft_f (x : S61) (h : ok61 x) : Cm (fun k => laws_toRaft.f k x.f0 x.f1) ((cRaft x).f0, (cRaft x).f1) := by
  obtain ⟨h0, h1⟩ := h
  unfold laws_toRaft.f
  exact cm_bind (toPeerS_f _ h0) (cm_bind (toMailS_f _ h1) (cm_now fun _ => rfl))
theorem eqRaft_same (x : S37) (h : smRaft x) : Cm (fun k => laws_eqRaft.f k x.f0 x.f1 x.f0 x.f1) true := by
  obtain ⟨h0, h1⟩ := h
  unfold laws_eqRaft.f
  exact cm_bind (eqPeerS_same _ h0) (cm_yes rfl (cm_bind (eqMailS_same _ h1) (cm_yes rfl (cm_now fun _ => rfl))))
end Go.Proofs.Ytomdjipejoafgaa.Hg
end
section
namespace Go.Proofs.Ytomdjipejoafgaa.Sz
open Go.RowKit Go.Proofs.Ytomdjipejoafgaa.P Go.Proofs.YtomdjipejoafgaaW.PrintWords Go.Proofs.YtomdjipejoafgaaW.PrintLast Go.Proofs.YtomdjipejoafgaaW.PrintMore
open Go.Proofs.Ytomdjipejoafgaa.Pl Go.Proofs.Ytomdjipejoafgaa.EvN Go.Proofs.Ytomdjipejoafgaa.Lp Go.Proofs.Ytomdjipejoafgaa.Hs
set_option linter.unusedVariables false
set_option linter.unusedSimpArgs false
theorem wt_cm {α : Type} {L : Nat → Int → Int → Option Int} (xs : List α) (wt : α → Nat)
    (hstep : ∀ pre h t s, pre ++ h :: t = xs → pre.length < xs.length → 0 ≤ s → s ≤ 1099511627776 → (∃ v, v < 0 ∧ Cm (fun k => L k (pre.length : Int) s) v) ∨ ∃ s' : Int, 0 ≤ s' ∧ s' + (wt h : Int) = s ∧ ∀ u, Cm (fun k => L k ((pre.length + 1 : Nat) : Int) s') u → Cm (fun k => L k (pre.length : Int) s) u)
    (hend : ∀ s, Cm (fun k => L k (xs.length : Int) s) s) (s0 : Int) (h0 : 0 ≤ s0) (h1 : s0 ≤ 1099511627776) : ∃ v, Cm (fun k => L k 0 s0) v ∧ (v < 0 ∨ v + (((xs.map wt).sum : Nat) : Int) = s0) := by
  have key : ∀ (rest pre : List α) (s : Int), pre ++ rest = xs → 0 ≤ s → s ≤ 1099511627776 → ∃ v, Cm (fun k => L k (pre.length : Int) s) v ∧ (v < 0 ∨ v + (((rest.map wt).sum : Nat) : Int) = s) := by
    intro rest
    induction rest with
    | nil =>
      intro pre s e h0 h1
      rw [List.append_nil] at e
      subst e
      exact ⟨s, hend s, .inr (by simp)⟩
    | cons h t ih =>
      intro pre s e h0 h1
      rcases hstep pre h t s e (len_mid e) h0 h1 with ⟨v, hv, hc⟩ | ⟨s', hs', hw, hc⟩
      · exact ⟨v, hc, .inl hv⟩
      · obtain ⟨v, hv, hd⟩ := ih (pre ++ [h]) s' (app_mid e) hs' (by omega)
        rw [len_one] at hv
        refine ⟨v, hc v hv, hd.imp_right (fun hd => ?_)⟩
        rw [List.map_cons, List.sum_cons]
        push_cast
        omega
  exact key xs [] s0 rfl h0 h1
theorem off_wrap {n : Nat} {m : Int} (h0 : 0 ≤ m) (h1 : m ≤ 1099511627776) (h : n ≤ 4611686018427387904) : wrap64 (m - (n : Int)) = m - (n : Int) := wrap_in (by omega) (by omega)
theorem szIntS_wt (l : List Int) (hl : l.length ≤ 4611686018427387904) (m : Int) (h0 : 0 ≤ m) (h1 : m ≤ 1099511627776) : ∃ v, Cm (fun _ => laws_szIntS.f l m) v ∧ (v < 0 ∨ v + (l.length : Int) = m) := by
  unfold laws_szIntS.f
  rw [off_wrap h0 h1 hl]
  by_cases c : m - (l.length : Int) < 0
  · exact ⟨_, cm_yes c (cm_now fun _ => rfl), .inl (by omega)⟩
  · exact ⟨_, cm_no c (cm_now fun _ => rfl), .inr (by omega)⟩
theorem tot_map {α β : Type} (c : β → Nat) (g : α → β) (w : α → Nat) (l : List α) (h : ∀ x ∈ l, c (g x) ≤ 10 * (1 + w x)) : Mk.tot c (l.map g) ≤ 10 * (l.length + (l.map w).sum) := by
  induction l with
  | nil => exact Nat.zero_le _
  | cons x l ih =>
    have := ih (fun y hy => h y (List.mem_cons_of_mem _ hy))
    have := h x List.mem_cons_self
    unfold Mk.tot at *
    simp only [List.map_cons, List.sum_cons, List.length_cons] at *
    omega
end Go.Proofs.Ytomdjipejoafgaa.Sz
end
section
namespace Go.Proofs.Ytomdjipejoafgaa.Sz
open Go.RowKit Go.Proofs.Ytomdjipejoafgaa.P Go.Proofs.YtomdjipejoafgaaW.PrintWords Go.Proofs.YtomdjipejoafgaaW.PrintLast Go.Proofs.YtomdjipejoafgaaW.PrintMore
open Go.Proofs.Ytomdjipejoafgaa.Pl Go.Proofs.Ytomdjipejoafgaa.EvN Go.Proofs.Ytomdjipejoafgaa.Lp Go.Proofs.Ytomdjipejoafgaa.Hs Go.Proofs.Ytomdjipejoafgaa.Hg
set_option linter.unusedSimpArgs false
set_option linter.unusedVariables false
def wEntry (x : S95) : Nat := 0
def wEntryS (l : List S95) : Nat := l.length + (l.map wEntry).sum
theorem szEntryS_wt (l : List S95) (h : l.length ≤ maxLen ∧ l.length * 16 ≤ 140737488351232 ∧ ∀ x_ ∈ l, ok95 x_) (m : Int) (hm0 : 0 ≤ m) (hm1 : m ≤ 1099511627776) : ∃ v, Cm (fun k => laws_szEntryS.f l m) v ∧ (v < 0 ∨ v + (wEntryS l : Int) = m) := by
  have hl := h.2.1
  unfold laws_szEntryS.f wEntryS
  rw [off_wrap hm0 hm1 (by omega)]
  by_cases c : m - (l.length : Int) < 0
  · exact ⟨_, cm_yes c (cm_now fun _ => rfl), .inl (by omega)⟩
  · refine ⟨_, cm_no c (cm_now fun _ => rfl), .inr ?_⟩
    have e0 : (l.map wEntry).sum = 0 := by
      clear h hl c
      induction l with
      | nil => rfl
      | cons y l ih => rw [List.map_cons, List.sum_cons, ih]; rfl
    rw [e0]
    push_cast
    omega
theorem pcEntry_le (x : S95) : Mk.pcEntry (cEntry x) ≤ 10 * (1 + wEntry x) := by
  simp only [Mk.pcEntry, cEntry, wEntry]
  omega
def wPeer (x : S152) : Nat := wEntryS x.f2 + x.f4.length
def wPeerS (l : List S152) : Nat := l.length + (l.map wPeer).sum
theorem szPeer_wt (x : S152) (h : ok152 x) (m : Int) (hm0 : 0 ≤ m) (hm1 : m ≤ 1099511627776) : ∃ v, Cm (fun k => laws_szPeer.f x.f0 x.f1 x.f2 x.f3 x.f4 m) v ∧ (v < 0 ∨ v + (wPeer x : Int) = m) := by
  obtain ⟨h0, h1, h2, h3, h4⟩ := h
  unfold laws_szPeer.f wPeer
  obtain ⟨v0, w0, d0⟩ := szEntryS_wt x.f2 h2 m (by omega) (by omega)
  by_cases c0 : v0 < 0
  · exact ⟨-1, cm_bind w0 (cm_yes c0 (cm_now fun _ => rfl)), .inl (by omega)⟩
  obtain ⟨v1, w1, d1⟩ := szIntS_wt x.f4 (by have := h4.2.1; omega) v0 (by omega) (by omega)
  by_cases c1 : v1 < 0
  · exact ⟨-1, cm_bind w0 (cm_no c0 (cm_bind w1 (cm_yes c1 (cm_now fun _ => rfl)))), .inl (by omega)⟩
  exact ⟨v1, cm_bind w0 (cm_no c0 (cm_bind w1 (cm_no c1 (cm_now fun _ => rfl)))), .inr (by push_cast; omega)⟩
theorem szPeerS_wt (l : List S152) (h : l.length ≤ maxLen ∧ l.length * 72 ≤ 140737488351232 ∧ ∀ x_ ∈ l, ok152 x_) (m : Int) (hm0 : 0 ≤ m) (hm1 : m ≤ 1099511627776) : ∃ v, Cm (fun k => laws_szPeerS.f k l m) v ∧ (v < 0 ∨ v + (wPeerS l : Int) = m) := by
  have hl := h.2.1
  unfold laws_szPeerS.f wPeerS
  rw [off_wrap hm0 hm1 (by omega)]
  by_cases c : m - (l.length : Int) < 0
  · exact ⟨_, cm_yes c (cm_now fun _ => rfl), .inl (by omega)⟩
  · obtain ⟨v, hv, hd⟩ := wt_cm (L := fun k i s => laws_szPeerS.l0 k l s i) l wPeer (fun pre x t s e hlt g0 g1 => by
      obtain ⟨v, hv, hd⟩ := szPeer_wt x (h.2.2 x (by rw [← e]; simp)) s g0 g1
      by_cases c2 : v < 0
      · refine .inl ⟨-1, by omega, ?_⟩
        refine cm_step (fun k => by rw [laws_szPeerS.l0]) ?_
        simp only [rdT152_at e, wrap_len hlt (show l.length ≤ 4611686018427387904 by omega)]
        exact cm_yes (by omega) (cm_yes (by omega) (cm_bind hv (cm_yes c2 (cm_now fun _ => rfl))))
      · refine .inr ⟨v, by omega, by omega, fun u hu => ?_⟩
        refine cm_step (fun k => by rw [laws_szPeerS.l0]) ?_
        simp only [rdT152_at e, wrap_len hlt (show l.length ≤ 4611686018427387904 by omega)]
        exact cm_yes (by omega) (cm_yes (by omega) (cm_bind hv (cm_no c2 hu)))) (fun s => by
      refine cm_step (fun k => by rw [laws_szPeerS.l0]) ?_
      exact cm_no (by omega) (cm_now fun _ => rfl)) (m - (l.length : Int)) (by omega) (by omega)
    exact ⟨v, cm_no c hv, by push_cast; omega⟩
theorem pcPeer_le (x : S152) : Mk.pcPeer (cPeer x) ≤ 10 * (1 + wPeer x) := by
  have t2 : Mk.tot Mk.pcEntry (x.f2.map cEntry) ≤ 10 * wEntryS x.f2 := tot_map _ _ _ _ (fun y _ => pcEntry_le y)
  have t4 := Mk.tot_one x.f4
  simp only [Mk.pcPeer, cPeer, wPeer]
  omega
theorem totPeer_le (l : List S152) : Mk.tot Mk.pcPeer (l.map cPeer) ≤ 10 * wPeerS l := tot_map _ _ _ _ (fun y _ => pcPeer_le y)
def wMail (x : S155) : Nat := wEntryS x.f6
def wMailS (l : List S155) : Nat := l.length + (l.map wMail).sum
theorem szMail_wt (x : S155) (h : ok155 x) (m : Int) (hm0 : 0 ≤ m) (hm1 : m ≤ 1099511627776) : ∃ v, Cm (fun k => laws_szMail.f x.f0 x.f1 x.f2 x.f3 x.f4 x.f5 x.f6 x.f7 x.f8 m) v ∧ (v < 0 ∨ v + (wMail x : Int) = m) := by
  obtain ⟨h0, h1, h2, h3, h4, h5, h6, h7, h8⟩ := h
  unfold laws_szMail.f wMail
  obtain ⟨v0, w0, d0⟩ := szEntryS_wt x.f6 h6 m (by omega) (by omega)
  by_cases c0 : v0 < 0
  · exact ⟨-1, cm_bind w0 (cm_yes c0 (cm_now fun _ => rfl)), .inl (by omega)⟩
  exact ⟨v0, cm_bind w0 (cm_no c0 (cm_now fun _ => rfl)), .inr (by push_cast; omega)⟩
theorem szMailS_wt (l : List S155) (h : l.length ≤ maxLen ∧ l.length * 88 ≤ 140737488351232 ∧ ∀ x_ ∈ l, ok155 x_) (m : Int) (hm0 : 0 ≤ m) (hm1 : m ≤ 1099511627776) : ∃ v, Cm (fun k => laws_szMailS.f k l m) v ∧ (v < 0 ∨ v + (wMailS l : Int) = m) := by
  have hl := h.2.1
  unfold laws_szMailS.f wMailS
  rw [off_wrap hm0 hm1 (by omega)]
  by_cases c : m - (l.length : Int) < 0
  · exact ⟨_, cm_yes c (cm_now fun _ => rfl), .inl (by omega)⟩
  · obtain ⟨v, hv, hd⟩ := wt_cm (L := fun k i s => laws_szMailS.l0 k l s i) l wMail (fun pre x t s e hlt g0 g1 => by
      obtain ⟨v, hv, hd⟩ := szMail_wt x (h.2.2 x (by rw [← e]; simp)) s g0 g1
      by_cases c2 : v < 0
      · refine .inl ⟨-1, by omega, ?_⟩
        refine cm_step (fun k => by rw [laws_szMailS.l0]) ?_
        simp only [rdT155_at e, wrap_len hlt (show l.length ≤ 4611686018427387904 by omega)]
        exact cm_yes (by omega) (cm_yes (by omega) (cm_bind hv (cm_yes c2 (cm_now fun _ => rfl))))
      · refine .inr ⟨v, by omega, by omega, fun u hu => ?_⟩
        refine cm_step (fun k => by rw [laws_szMailS.l0]) ?_
        simp only [rdT155_at e, wrap_len hlt (show l.length ≤ 4611686018427387904 by omega)]
        exact cm_yes (by omega) (cm_yes (by omega) (cm_bind hv (cm_no c2 hu)))) (fun s => by
      refine cm_step (fun k => by rw [laws_szMailS.l0]) ?_
      exact cm_no (by omega) (cm_now fun _ => rfl)) (m - (l.length : Int)) (by omega) (by omega)
    exact ⟨v, cm_no c hv, by push_cast; omega⟩
theorem pcMail_le (x : S155) : Mk.pcMail (cMail x) ≤ 10 * (1 + wMail x) := by
  have t6 : Mk.tot Mk.pcEntry (x.f6.map cEntry) ≤ 10 * wEntryS x.f6 := tot_map _ _ _ _ (fun y _ => pcEntry_le y)
  simp only [Mk.pcMail, cMail, wMail]
  omega
theorem totMail_le (l : List S155) : Mk.tot Mk.pcMail (l.map cMail) ≤ 10 * wMailS l := tot_map _ _ _ _ (fun y _ => pcMail_le y)
def wRaft (x : S61) : Nat := wPeerS x.f0 + wMailS x.f1
theorem szRaft_wt (x : S61) (h : ok61 x) (m : Int) (hm0 : 0 ≤ m) (hm1 : m ≤ 1099511627776) : ∃ v, Cm (fun k => laws_szRaft.f k x.f0 x.f1 m) v ∧ (v < 0 ∨ v + (wRaft x : Int) = m) := by
  obtain ⟨h0, h1⟩ := h
  unfold laws_szRaft.f wRaft
  obtain ⟨v0, w0, d0⟩ := szPeerS_wt x.f0 h0 m (by omega) (by omega)
  by_cases c0 : v0 < 0
  · exact ⟨-1, cm_bind w0 (cm_yes c0 (cm_now fun _ => rfl)), .inl (by omega)⟩
  obtain ⟨v1, w1, d1⟩ := szMailS_wt x.f1 h1 v0 (by omega) (by omega)
  by_cases c1 : v1 < 0
  · exact ⟨-1, cm_bind w0 (cm_no c0 (cm_bind w1 (cm_yes c1 (cm_now fun _ => rfl)))), .inl (by omega)⟩
  exact ⟨v1, cm_bind w0 (cm_no c0 (cm_bind w1 (cm_no c1 (cm_now fun _ => rfl)))), .inr (by push_cast; omega)⟩
end Go.Proofs.Ytomdjipejoafgaa.Sz
end
section
namespace Go.Proofs.Ytomdjipejoafgaa.Sets
open Go.RowKit Go.Proofs.YtomdjipejoafgaaW.PrintWords Go.Proofs.YtomdjipejoafgaaW.PrintLast Go.Proofs.YtomdjipejoafgaaW.PrintMore
open Go.Proofs.Ytomdjipejoafgaa.Pl Go.Proofs.Ytomdjipejoafgaa.EvN Go.Proofs.Ytomdjipejoafgaa.Lp
set_option linter.unusedSimpArgs false
set_option linter.unusedVariables false
theorem and_self (a b : Nat) : a &&& b = b ↔ ∀ i, b.testBit i = true → a.testBit i = true := by
  constructor
  · intro h i h2
    have : (a &&& b).testBit i = true := by rw [h]; exact h2
    rw [Nat.testBit_and] at this
    simp_all
  · intro h
    apply Nat.eq_of_testBit_eq
    intro i
    rw [Nat.testBit_and]
    have := h i
    cases h1 : a.testBit i <;> cases h2 : b.testBit i <;> simp_all
end Go.Proofs.Ytomdjipejoafgaa.Sets
end
section
namespace Go.Proofs.Ytomdjipejoafgaa.Mem
open Go.RowKit Go.Proofs.Ytomdjipejoafgaa.P Go.Proofs.YtomdjipejoafgaaW.PrintWords Go.Proofs.YtomdjipejoafgaaW.PrintLast Go.Proofs.YtomdjipejoafgaaW.PrintMore
open Go.Proofs.Ytomdjipejoafgaa.Pl Go.Proofs.Ytomdjipejoafgaa.EvN Go.Proofs.Ytomdjipejoafgaa.Lp Go.Proofs.Ytomdjipejoafgaa.Sets
set_option linter.unusedSimpArgs false
set_option linter.unusedVariables false
theorem in_f (a b c : Int) : impl_in.f a b c = some (decide (b ≤ a ∧ a ≤ c)) := by
  unfold impl_in.f
  by_cases h : a ≥ b
  · rw [if_pos h]; congr 1; rw [decide_eq_decide]; omega
  · rw [if_neg h]; congr 1; symm; rw [decide_eq_false_iff_not]; omega
theorem l1In_f (a b c : Int) : spec_l1In.f a b c = some (decide (b ≤ a ∧ a ≤ c)) := by
  unfold spec_l1In.f
  by_cases h : a ≥ b
  · rw [if_pos h]; congr 1; rw [decide_eq_decide]; omega
  · rw [if_neg h]; congr 1; symm; rw [decide_eq_false_iff_not]; omega
theorem if_self (b : Bool) : (if b = true then true else false) = b := by cases b <;> rfl
theorem last_cases {α : Type} (pre : List α) : pre = [] ∨ ∃ q, pre.getLast? = some q := by
  cases e : pre.getLast? with
  | none => exact .inl (no_last e)
  | some q => exact .inr ⟨q, rfl⟩
end Go.Proofs.Ytomdjipejoafgaa.Mem
end
section
namespace Go.Proofs.Ytomdjipejoafgaa.Logs
open Go.RowKit Go.Proofs.Ytomdjipejoafgaa.P Go.Proofs.YtomdjipejoafgaaW.PrintWords Go.Proofs.YtomdjipejoafgaaW.PrintLast Go.Proofs.YtomdjipejoafgaaW.PrintMore
open Go.Proofs.Ytomdjipejoafgaa.Pl Go.Proofs.Ytomdjipejoafgaa.EvN Go.Proofs.Ytomdjipejoafgaa.Lp Go.Proofs.Ytomdjipejoafgaa.Mem Go.Proofs.Ytomdjipejoafgaa.Hg
set_option linter.unusedSimpArgs false
set_option linter.unusedVariables false
def goodLog1 (m : Int) (pre : List S67) (h : S67) : Bool := decide ((0 ≤ h.f0 ∧ h.f0 ≤ m) ∧ (0 ≤ h.f1 ∧ h.f1 ≤ 99)) && (match pre.getLast? with | some q => decide (q.f0 ≤ h.f0) | none => true)
def goodLog (m : Int) (l : List S67) : Bool := okFrom (goodLog1 m) [] l && decide (l.length ≤ 30)
theorem log_yes {m : Int} {pre : List S67} {h : S67} (hp : goodLog1 m pre h = true) : (0 ≤ h.f0 ∧ h.f0 ≤ m) ∧ (0 ≤ h.f1 ∧ h.f1 ≤ 99) ∧ ∀ q, pre.getLast? = some q → q.f0 ≤ h.f0 := by
  unfold goodLog1 at hp
  simp only [Bool.and_eq_true, decide_eq_true_eq] at hp
  refine ⟨hp.1.1, hp.1.2, fun q e => ?_⟩
  have h2 := hp.2
  rw [e] at h2
  simpa using h2
theorem log_no {m : Int} {pre : List S67} {h : S67} (hp : goodLog1 m pre h = false) (h0 : 0 ≤ h.f0 ∧ h.f0 ≤ m) (h1 : 0 ≤ h.f1 ∧ h.f1 ≤ 99) : ∃ q, pre.getLast? = some q ∧ h.f0 < q.f0 := by
  unfold goodLog1 at hp
  cases e : pre.getLast? with
  | none => rw [e] at hp; simp at hp; omega
  | some q =>
    rw [e] at hp
    simp at hp
    exact ⟨q, rfl, by omega⟩
theorem rd67_last {pre rest l : List S67} (e : pre ++ rest = l) {q : S67} (h : pre.getLast? = some q) : 0 < pre.length ∧ rd_T67 l ((pre.length : Int) - 1) = q := getLast_at e _ h
theorem l10Log_f (l : List S67) (m : Int) (hl : l.length ≤ 4611686018427387904) : Cm (fun k => spec_l10Log.f k l m) (goodLog m l) := by
  unfold spec_l10Log.f
  refine cm_val (all_cm (L := fun k i => spec_l10Log.l0 k l m l (l.length : Int) i) l (goodLog1 m) (fin := decide (l.length ≤ 30)) (no := false) ?_ ?_ ?_) ?_
  · intro pre h t e hlt hp v hv
    obtain ⟨h0, h1, h2⟩ := log_yes hp
    refine cm_step (fun k => by rw [spec_l10Log.l0]) ?_
    simp only [rdT67_at e, wrap_len hlt hl]
    refine cm_yes (by omega) (cm_yes (by omega) (cm_yes (by omega) (cm_bind (cm_now fun _ => l1In_f _ _ _) (cm_yes (by simp [h0]) (cm_bind (cm_now fun _ => l1In_f _ _ _) (cm_yes (by simp [h1]) ?_))))))
    rcases last_cases pre with rfl | ⟨q, hq⟩
    · exact cm_no (by simp) hv
    · obtain ⟨h3, h4⟩ := rd67_last e hq
      have h5 := h2 q hq
      rw [wrap_less h3 (by omega), h4]
      exact cm_yes (by omega) (cm_yes (by omega) (cm_yes (by omega) (cm_no (by omega) hv)))
  · intro pre h t e hlt hp
    refine cm_step (fun k => by rw [spec_l10Log.l0]) ?_
    simp only [rdT67_at e, wrap_len hlt hl]
    refine cm_yes (by omega) (cm_yes (by omega) (cm_yes (by omega) (cm_bind (cm_now fun _ => l1In_f _ _ _) (cm_if (fun c0 => cm_bind (cm_now fun _ => l1In_f _ _ _) (cm_if (fun c1 => ?_) (fun _ => cm_now fun _ => rfl))) (fun _ => cm_now fun _ => rfl)))))
    simp only [decide_eq_true_eq] at c0 c1
    obtain ⟨q, hq, h5⟩ := log_no hp c0 c1
    obtain ⟨h3, h4⟩ := rd67_last e hq
    rw [wrap_less h3 (by omega), h4]
    exact cm_yes (by omega) (cm_yes (by omega) (cm_yes (by omega) (cm_yes (by omega) (cm_now fun _ => rfl))))
  · intro _
    refine cm_step (fun k => by rw [spec_l10Log.l0]) ?_
    exact cm_no (by omega) (cm_now fun _ => by congr 1; rw [decide_eq_decide]; omega)
  · unfold goodLog
    cases okFrom (goodLog1 m) [] l <;> simp
def lastTerm (pre : List S67) : Int := match pre.getLast? with | some q => q.f0 | none => 0
theorem raftLog_l0 (l : List S67) (m : Int) (hl : l.length ≤ 4611686018427387904) : ∀ (rest pre : List S67), pre ++ rest = l → 0 ≤ lastTerm pre →
    Cm (fun k => impl_isRaftLog.l0 k l m (lastTerm pre) l (l.length : Int) (pre.length : Int)) (okFrom (goodLog1 m) pre rest && decide (l.length ≤ 30))
  | [], pre, e, _ => by
    have := len_end e
    refine cm_step (fun k => by rw [impl_isRaftLog.l0]) ?_
    refine cm_no (by omega) (cm_now fun _ => ?_)
    simp only [okFrom, Bool.true_and]
    congr 1
    rw [decide_eq_decide]
    omega
  | h :: t, pre, e, h0 => by
    have hlt := len_mid e
    refine cm_step (fun k => by rw [impl_isRaftLog.l0]) ?_
    simp only [rdT67_at e, wrap_len hlt hl]
    refine cm_yes (by omega) (cm_yes (by omega) (cm_yes (by omega) (cm_bind (cm_now fun _ => in_f _ _ _) ?_)))
    have hlast : lastTerm (pre ++ [h]) = h.f0 := by simp [lastTerm]
    have hg : goodLog1 m pre h = decide ((lastTerm pre ≤ h.f0 ∧ h.f0 ≤ m) ∧ (0 ≤ h.f1 ∧ h.f1 ≤ 99)) := by
      unfold goodLog1
      unfold lastTerm at h0 ⊢
      cases e2 : pre.getLast? with
      | none => simp
      | some q =>
        rw [e2] at h0
        simp only at h0 ⊢
        rw [← Bool.decide_and, decide_eq_decide]
        omega
    refine cm_if (fun c => cm_bind (cm_now fun _ => in_f _ _ _) (cm_if (fun c2 => ?_) (fun c2 => cm_now fun _ => ?_))) (fun c => cm_now fun _ => ?_)
    · simp only [decide_eq_true_eq] at c c2
      have ih := raftLog_l0 l m hl t (pre ++ [h]) (app_mid e) (by rw [hlast]; omega)
      rw [hlast, len_one] at ih
      refine cm_val ih ?_
      simp only [okFrom, hg, c, c2, and_self, decide_true, Bool.true_and]
    · simp only [decide_eq_true_eq] at c c2
      simp only [okFrom, hg, c2, and_false, decide_false, Bool.false_and]
    · simp only [decide_eq_true_eq] at c
      simp only [okFrom, hg, c, false_and, decide_false, Bool.false_and]
theorem raftLog_f (l : List S67) (m : Int) (hl : l.length ≤ 4611686018427387904) : Cm (fun k => impl_isRaftLog.f k l m) (goodLog m l) := by
  unfold impl_isRaftLog.f
  exact raftLog_l0 l m hl l [] rfl (by simp [lastTerm])
def down (x y : List S67) : Nat → Nat
  | 0 => 0
  | n + 1 => if (rd_T67 x (n : Int)).f0 = (rd_T67 y (n : Int)).f0 then n + 1 else down x y n
theorem down_le (x y : List S67) : ∀ n, down x y n ≤ n
  | 0 => Nat.le_refl _
  | n + 1 => by
    unfold down
    split
    · exact Nat.le_refl _
    · exact Nat.le_succ_of_le (down_le x y n)
def likeTo (x y : List S67) (n : Nat) : Bool := (List.range n).all (fun i => decide ((rd_T67 x (i : Int)).f0 = (rd_T67 y (i : Int)).f0 ∧ (rd_T67 x (i : Int)).f1 = (rd_T67 y (i : Int)).f1))
theorem range_at {n : Nat} {pre t : List Nat} {h : Nat} (e : pre ++ h :: t = List.range n) : h = pre.length ∧ h < n := by
  have h1 : (List.range n)[pre.length]? = some h := by rw [← e]; simp
  rw [List.getElem?_eq_some_iff] at h1
  obtain ⟨h2, h3⟩ := h1
  rw [List.getElem_range] at h3
  rw [List.length_range] at h2
  omega
theorem spec_like (x y : List S67) (n : Nat) (hx : n ≤ x.length) (hy : n ≤ y.length) (hn : n ≤ 4611686018427387904) : Cm (fun k => spec_LogsMatch.l1 k x y (n : Int) 0) (likeTo x y n, true) := by
  have hr : (List.range n).length = n := List.length_range
  refine cm_val (every_cm (L := fun k i => spec_LogsMatch.l1 k x y (n : Int) i) (List.range n) (fun i => decide ((rd_T67 x (i : Int)).f0 = (rd_T67 y (i : Int)).f0 ∧ (rd_T67 x (i : Int)).f1 = (rd_T67 y (i : Int)).f1)) (fin := (true, true)) (no := (false, true)) ?_ ?_ ?_) ?_
  · intro pre h t e hlt hp v hv
    obtain ⟨e1, e2⟩ := range_at e
    rw [hr] at hlt
    simp only [decide_eq_true_eq] at hp
    rw [e1] at hp
    refine cm_step (fun k => by rw [spec_LogsMatch.l1]) ?_
    simp only [wrap_len hlt hn]
    exact cm_yes (by omega) (cm_yes (by omega) (cm_yes (by omega) (cm_yes (by omega) (cm_no (by simp [hp]) hv))))
  · intro pre h t e hlt hp
    obtain ⟨e1, e2⟩ := range_at e
    simp only [decide_eq_false_iff_not] at hp
    rw [e1] at hp
    rw [hr] at hlt
    refine cm_step (fun k => by rw [spec_LogsMatch.l1]) ?_
    refine cm_yes (by omega) (cm_yes (by omega) (cm_yes (by omega) (cm_yes (by omega) (cm_yes ?_ (cm_now fun _ => rfl)))))
    by_cases c : (rd_T67 x (pre.length : Int)).f0 = (rd_T67 y (pre.length : Int)).f0
    · have : ¬ (rd_T67 x (pre.length : Int)).f1 = (rd_T67 y (pre.length : Int)).f1 := fun c2 => hp ⟨c, c2⟩
      simp [c, this]
    · simp [c]
  · intro _
    rw [hr]
    refine cm_step (fun k => by rw [spec_LogsMatch.l1]) ?_
    exact cm_no (by omega) (cm_now fun _ => rfl)
  · change (if likeTo x y n = true then (true, true) else (false, true)) = _
    cases likeTo x y n <;> rfl
theorem spec_up (x y : List S67) (hx : x.length ≤ 4611686018427387904) : Cm (fun k => spec_LogsMatch.l0 k x y 0 (x.length : Int) 0) (likeTo x y (down x y (min x.length y.length)), true) := by
  have key := same_cm (L := fun k i => spec_LogsMatch.l0 k x y ((down x y (min i.toNat y.length) : Nat) : Int) (x.length : Int) i) x (fin := (likeTo x y (down x y (min x.length y.length)), true)) ?_ ?_
  · simpa [down] using key
  · intro pre h t e hlt v hv
    simp only [Int.toNat_natCast] at hv ⊢
    refine cm_step (fun k => by rw [spec_LogsMatch.l0]) ?_
    simp only [wrap_len hlt hx]
    refine cm_yes (by omega) (cm_if (fun c => cm_yes (by omega) (cm_yes (by omega) ?_)) (fun c => ?_))
    · have e1 : min pre.length y.length = pre.length := by omega
      have e2 : min (pre.length + 1) y.length = pre.length + 1 := by omega
      rw [e2] at hv
      rw [e1]
      refine cm_if (fun c2 => ?_) (fun c2 => ?_)
      · rw [down, if_pos c2] at hv
        exact hv
      · rw [down, if_neg c2] at hv
        exact hv
    · have e1 : min pre.length y.length = y.length := by omega
      have e2 : min (pre.length + 1) y.length = y.length := by omega
      rw [e2] at hv
      rw [e1]
      exact hv
  · simp only [Int.toNat_natCast]
    have := down_le x y (min x.length y.length)
    refine cm_step (fun k => by rw [spec_LogsMatch.l0]) ?_
    exact cm_no (by omega) (spec_like x y _ (by omega) (by omega) (by omega))
def matched (x y : List S67) : Bool × Bool := if (goodLog 100 x && goodLog 100 y) = true then (likeTo x y (down x y (min x.length y.length)), true) else (false, false)
theorem spec_f (x y : List S67) (hx : x.length ≤ 4611686018427387904) (hy : y.length ≤ 4611686018427387904) : Cm (fun k => spec_LogsMatch.f k x y) (matched x y) := by
  unfold spec_LogsMatch.f matched
  have hj : ∀ q : Bool, Cm (fun k => spec_LogsMatch.j0 k x y q) (if q = true then (false, false) else (likeTo x y (down x y (min x.length y.length)), true)) := by
    intro q
    refine cm_step (fun k => by rw [spec_LogsMatch.j0]) ?_
    cases q
    · exact cm_no (by simp) (spec_up x y hx)
    · exact cm_yes rfl (cm_now fun _ => rfl)
  refine cm_bind (l10Log_f x 100 hx) (cm_if (fun c => cm_bind (l10Log_f y 100 hy) (cm_val (hj _) ?_)) (fun c => cm_val (hj _) ?_))
  · rw [c]; cases goodLog 100 y <;> rfl
  · have c2 : goodLog 100 x = false := by simpa using c
    rw [c2]; rfl
end Go.Proofs.Ytomdjipejoafgaa.Logs
end
section
namespace Go.Proofs.Ytomdjipejoafgaa.Raft
open Go.RowKit Go.Proofs.Ytomdjipejoafgaa.P Go.Proofs.YtomdjipejoafgaaW.PrintWords Go.Proofs.YtomdjipejoafgaaW.PrintLast Go.Proofs.YtomdjipejoafgaaW.PrintMore
open Go.Proofs.Ytomdjipejoafgaa.Pl Go.Proofs.Ytomdjipejoafgaa.EvN Go.Proofs.Ytomdjipejoafgaa.Lp Go.Proofs.Ytomdjipejoafgaa.Mem Go.Proofs.Ytomdjipejoafgaa.Hg Go.Proofs.Ytomdjipejoafgaa.Logs
set_option linter.unusedSimpArgs false
set_option linter.unusedVariables false
def mark1 (p1 : Bool) (n : Nat) (x : Int) : Bool := decide ((0 ≤ x ∧ x ≤ (n : Int)) ∧ (p1 = true ∨ x = 0))
def goodPeer (n : Nat) (p : S98) : Bool := decide (0 ≤ p.f0 ∧ p.f0 ≤ 100) && goodLog p.f0 p.f2 && decide ((0 ≤ p.f3 ∧ p.f3 ≤ (p.f2.length : Int)) ∧ p.f4.length = n) && p.f4.all (mark1 p.f1 p.f2.length)
def headOk (n : Nat) (m : S126) : Bool := decide ((0 ≤ m.f1 ∧ m.f1 < (n : Int)) ∧ (0 ≤ m.f2 ∧ m.f2 < (n : Int)) ∧ m.f1 ≠ m.f2 ∧ (0 ≤ m.f3 ∧ m.f3 ≤ 100))
def entryOk (lo hi : Int) (e : S67) : Bool := decide ((lo ≤ e.f0 ∧ 0 ≤ e.f0 ∧ e.f0 ≤ hi) ∧ (0 ≤ e.f1 ∧ e.f1 ≤ 99))
def tailOk (m : S126) : Bool := if m.f0 = true then decide (m.f4 = 0 ∧ m.f5 = 0 ∧ m.f6.length = 0 ∧ m.f7 = 0 ∧ (0 ≤ m.f8 ∧ m.f8 ≤ 30))
  else decide ((0 ≤ m.f4 ∧ m.f4 ≤ 30) ∧ (-1 ≤ m.f5 ∧ m.f5 ≤ m.f3) ∧ ((m.f4 = 0) ↔ (m.f5 = -1)) ∧ (0 ≤ m.f7 ∧ m.f7 ≤ 30) ∧ m.f8 = 0 ∧ m.f6.length ≤ 1) && m.f6.all (entryOk m.f5 m.f3)
def goodMail (n : Nat) (m : S126) : Bool := headOk n m && tailOk m
def sizesOk (x : S37) : Bool := decide ((1 ≤ x.f0.length ∧ x.f0.length ≤ 5) ∧ x.f1.length ≤ 20)
def good (x : S37) : Bool := sizesOk x && x.f0.all (goodPeer x.f0.length) && x.f1.all (goodMail x.f0.length)
theorem no_of {p : Prop} [Decidable p] {q : Bool} (h : ¬ p) : (some false : Option Bool) = some (decide p && q) := by simp [h]
theorem no_dec {p : Prop} [Decidable p] (h : ¬ p) : (some false : Option Bool) = some (decide p) := by simp [h]
theorem same_none {a b : Int} : (((a == 0) != (b == (-1))) = true) ↔ ¬ ((a = 0) ↔ (b = -1)) := by
  have e1 : (a == 0) = decide (a = 0) := by by_cases h : a = 0 <;> simp [h]
  have e2 : (b == (-1)) = decide (b = -1) := by by_cases h : b = -1 <;> simp [h]
  rw [e1, e2]
  by_cases h1 : a = 0 <;> by_cases h2 : b = -1 <;> simp [h1, h2]
theorem same_none2 {a b : Int} : (((b == (-1)) != (a == 0)) = true) ↔ ¬ ((a = 0) ↔ (b = -1)) := by
  have e1 : (a == 0) = decide (a = 0) := by by_cases h : a = 0 <;> simp [h]
  have e2 : (b == (-1)) = decide (b = -1) := by by_cases h : b = -1 <;> simp [h]
  rw [e1, e2]
  by_cases h1 : a = 0 <;> by_cases h2 : b = -1 <;> simp [h1, h2]
theorem peer_l0 (q : Bool) (l : List Int) (t : Int) (log : List S67) (c : Int) (hl : l.length ≤ 4611686018427387904) : Cm (fun k => spec_l10Peer.l0 k l (l.length : Int) 0 t q log c l) (l.all (mark1 q log.length)) := by
  refine cm_val (every_cm (L := fun k i => spec_l10Peer.l0 k l (l.length : Int) i t q log c l) l (mark1 q log.length) (fin := true) (no := false) ?_ ?_ ?_) (if_self _)
  · intro pre h t' e hlt hp v hv
    simp only [mark1, decide_eq_true_eq] at hp
    refine cm_step (fun k => by rw [spec_l10Peer.l0]) ?_
    simp only [rd_at e, wrap_len hlt hl]
    refine cm_yes (by omega) (cm_yes (by omega) (cm_yes (by omega) (cm_no (by omega) (cm_no (by omega) ?_))))
    refine cm_if (fun _ => hv) (fun c => cm_yes ?_ hv)
    rcases hp.2 with h2 | h2
    · exact absurd h2 c
    · exact h2
  · intro pre h t' e hlt hp
    simp only [mark1, decide_eq_false_iff_not] at hp
    refine cm_step (fun k => by rw [spec_l10Peer.l0]) ?_
    simp only [rd_at e, wrap_len hlt hl]
    refine cm_yes (by omega) (cm_yes (by omega) (cm_yes (by omega) (cm_if (fun _ => cm_now fun _ => rfl) (fun c1 => cm_if (fun _ => cm_now fun _ => rfl) (fun c2 => ?_)))))
    refine cm_no (fun c => hp ⟨⟨by omega, by omega⟩, .inl c⟩) (cm_no (fun c => hp ⟨⟨by omega, by omega⟩, .inr c⟩) (cm_now fun _ => rfl))
  · intro _
    refine cm_step (fun k => by rw [spec_l10Peer.l0]) ?_
    exact cm_no (by omega) (cm_now fun _ => rfl)
theorem peer_f (ps : List S98) (ms : List S126) (p : S98) (h : smPeer p) : Cm (fun k => spec_l10Peer.f k ps ms p.f0 p.f1 p.f2 p.f3 p.f4) (goodPeer ps.length p) := by
  have h2 := h.2.2.1.1
  have h4 := h.2.2.2.2
  unfold spec_l10Peer.f goodPeer
  have hj : ∀ q : Bool, Cm (fun k => spec_l10Peer.j0 k q p.f0 p.f1 p.f2 p.f3 p.f4) (!q && p.f4.all (mark1 p.f1 p.f2.length)) := by
    intro q
    refine cm_step (fun k => by rw [spec_l10Peer.j0]) ?_
    cases q
    · exact cm_no (by simp) (cm_val (peer_l0 p.f1 p.f4 p.f0 p.f2 p.f3 h4) (by simp))
    · exact cm_yes rfl (cm_now fun _ => rfl)
  refine cm_bind (cm_now fun _ => l1In_f _ _ _) (cm_if (fun c => cm_bind (l10Log_f p.f2 p.f0 h2) (cm_if (fun c2 => cm_if (fun c3 => cm_val (hj _) ?_) (fun c3 => cm_if (fun c4 => cm_val (hj _) ?_) (fun c4 => cm_val (hj _) ?_))) (fun c2 => cm_val (hj _) ?_))) (fun c => cm_val (hj _) ?_))
  · have : ¬ ((0 ≤ p.f3 ∧ p.f3 ≤ (p.f2.length : Int)) ∧ p.f4.length = ps.length) := by omega
    simp [this]
  · have : ¬ ((0 ≤ p.f3 ∧ p.f3 ≤ (p.f2.length : Int)) ∧ p.f4.length = ps.length) := by omega
    simp [this]
  · rw [c, c2]
    by_cases c5 : p.f4.length = ps.length
    · have : (0 ≤ p.f3 ∧ p.f3 ≤ (p.f2.length : Int)) ∧ p.f4.length = ps.length := by omega
      simp only [this, c5, bne_self_eq_false, Bool.not_false, Bool.true_and, decide_true, _root_.and_self]
    · have e : (((p.f4.length : Int)) != ((ps.length : Int))) = true := by simp; omega
      simp [e, c5]
  · simp [c2]
  · have : decide (0 ≤ p.f0 ∧ p.f0 ≤ 100) = false := by simpa using c
    rw [this]; rfl
theorem mail_j0 (m : S126) (hl : m.f6.length ≤ 4611686018427387904) : Cm (fun k => spec_l10Mail.j0 k false m.f0 m.f1 m.f2 m.f3 m.f4 m.f5 m.f6 m.f7 m.f8) (tailOk m) := by
  refine cm_step (fun k => by rw [spec_l10Mail.j0]) ?_
  refine cm_no (by simp) ?_
  unfold tailOk
  refine cm_if (fun c => ?_) (fun c => ?_)
  · rw [if_pos c]
    refine cm_if (fun c1 => cm_if (fun c2 => cm_if (fun c3 => cm_if (fun c4 => cm_bind (cm_now fun _ => l1In_f _ _ _) (cm_now fun _ => ?_)) (fun c4 => cm_now fun _ => no_dec (by omega))) (fun c3 => cm_now fun _ => no_dec (by omega))) (fun c2 => cm_now fun _ => no_dec (by omega))) (fun c1 => cm_now fun _ => no_dec (by omega))
    congr 1
    rw [decide_eq_decide]
    omega
  · rw [if_neg c]
    refine cm_bind (cm_now fun _ => l1In_f _ _ _) (cm_if (fun c1 => cm_bind (cm_now fun _ => l1In_f _ _ _) (cm_if (fun c2 => cm_if (fun c3 => cm_now fun _ => ?_) (fun c3 => cm_bind (cm_now fun _ => l1In_f _ _ _) (cm_if (fun c4 => cm_if (fun c5 => cm_if (fun c6 => cm_now fun _ => ?_) (fun c6 => cm_bind (l10Log_f m.f6 m.f3 hl) ?_)) (fun c5 => cm_now fun _ => ?_)) (fun c4 => cm_now fun _ => ?_)))) (fun c2 => cm_now fun _ => ?_))) (fun c1 => cm_now fun _ => ?_))
    · rw [same_none] at c3
      exact no_of (fun h => c3 h.2.2.1)
    · exact no_of (fun h => by have := h.2.2.2.2.2; omega)
    · rw [same_none] at c3
      simp only [decide_eq_true_eq] at c1 c2 c4
      have c3' : (m.f4 = 0) ↔ (m.f5 = -1) := by
        by_cases z : (m.f4 = 0) ↔ (m.f5 = -1)
        · exact z
        · exact absurd z c3
      have e1 : decide ((0 ≤ m.f4 ∧ m.f4 ≤ 30) ∧ (-1 ≤ m.f5 ∧ m.f5 ≤ m.f3) ∧ ((m.f4 = 0) ↔ (m.f5 = -1)) ∧ (0 ≤ m.f7 ∧ m.f7 ≤ 30) ∧ m.f8 = 0 ∧ m.f6.length ≤ 1) = true := by
        rw [decide_eq_true_eq]
        exact ⟨c1, c2, c3', c4, c5, by omega⟩
      rw [e1, Bool.true_and]
      match e6 : m.f6, c6 with
      | [], _ => exact cm_yes (by simp [goodLog, okFrom]) (cm_yes (by simp) (cm_now fun _ => rfl))
      | [e], _ =>
        have eg : goodLog m.f3 [e] = decide ((0 ≤ e.f0 ∧ e.f0 ≤ m.f3) ∧ (0 ≤ e.f1 ∧ e.f1 ≤ 99)) := by simp [goodLog, okFrom, goodLog1]
        rw [eg]
        refine cm_if (fun c7 => cm_no (by simp) (cm_yes (by simp) (cm_now fun _ => ?_))) (fun c7 => cm_now fun _ => ?_)
        · simp only [decide_eq_true_eq] at c7
          have er : rd_T67 [e] 0 = e := rfl
          simp only [List.all_cons, List.all_nil, Bool.and_true, entryOk, er]
          congr 1
          rw [decide_eq_decide]
          omega
        · simp only [decide_eq_true_eq] at c7
          simp only [List.all_cons, List.all_nil, Bool.and_true, entryOk]
          exact no_dec (by omega)
      | e :: e2 :: t, c6 => exact absurd (show ((e :: e2 :: t).length : Int) > 1 by simp only [List.length_cons]; omega) c6
    · exact no_of (fun h => c5 h.2.2.2.2.1)
    · exact no_of (fun h => c4 (by simpa using h.2.2.2.1))
    · exact no_of (fun h => c2 (by simpa using h.2.1))
    · exact no_of (fun h => c1 (by simpa using h.1))
theorem mail_no (m : S126) : Cm (fun k => spec_l10Mail.j0 k true m.f0 m.f1 m.f2 m.f3 m.f4 m.f5 m.f6 m.f7 m.f8) false := by
  refine cm_step (fun k => by rw [spec_l10Mail.j0]) ?_
  exact cm_yes rfl (cm_now fun _ => rfl)
theorem there_f (ps : List S98) (ms : List S126) (i : Int) : spec_l10There.f ps ms i = some (decide (0 ≤ i ∧ i < (ps.length : Int))) := by
  unfold spec_l10There.f
  by_cases h : i ≥ 0
  · rw [if_pos h]; congr 1; rw [decide_eq_decide]; omega
  · rw [if_neg h]; congr 1; symm; rw [decide_eq_false_iff_not]; omega
theorem mail_f (ps : List S98) (ms : List S126) (m : S126) (h : smMail m) : Cm (fun k => spec_l10Mail.f k ps ms m.f0 m.f1 m.f2 m.f3 m.f4 m.f5 m.f6 m.f7 m.f8) (goodMail ps.length m) := by
  have hl := h.2.2.2.2.2.2.1.1
  unfold spec_l10Mail.f goodMail headOk
  refine cm_bind (cm_now fun _ => there_f _ _ _) (cm_if (fun c => cm_bind (cm_now fun _ => there_f _ _ _) (cm_if (fun c2 => cm_if (fun c3 => cm_val (mail_no m) ?_) (fun c3 => cm_bind (cm_now fun _ => l1In_f _ _ _) ?_)) (fun c2 => cm_val (mail_no m) ?_))) (fun c => cm_val (mail_no m) ?_))
  · simp [c3]
  · simp only [decide_eq_true_eq] at c c2
    by_cases c4 : 0 ≤ m.f3 ∧ m.f3 ≤ 100
    · have e1 : decide ((0 ≤ m.f1 ∧ m.f1 < (ps.length : Int)) ∧ (0 ≤ m.f2 ∧ m.f2 < (ps.length : Int)) ∧ m.f1 ≠ m.f2 ∧ (0 ≤ m.f3 ∧ m.f3 ≤ 100)) = true := by
        rw [decide_eq_true_eq]; exact ⟨c, c2, c3, c4⟩
      rw [e1, Bool.true_and]
      simp only [c4, _root_.and_self, decide_true, Bool.not_true]
      exact mail_j0 m hl
    · have e1 : decide ((0 ≤ m.f1 ∧ m.f1 < (ps.length : Int)) ∧ (0 ≤ m.f2 ∧ m.f2 < (ps.length : Int)) ∧ m.f1 ≠ m.f2 ∧ (0 ≤ m.f3 ∧ m.f3 ≤ 100)) = false := by
        rw [decide_eq_false_iff_not]; exact fun z => c4 z.2.2.2
      rw [e1, Bool.false_and]
      simp only [c4, decide_false, Bool.not_false]
      exact mail_no m
  · simp only [decide_eq_true_eq] at c2
    simp [c2]
  · simp only [decide_eq_true_eq] at c
    simp [c]
theorem spec_f (x : S37) (h : smRaft x) : Cm (fun k => spec_GoodRaft.f k x.f0 x.f1) (good x) := by
  obtain ⟨⟨h0, h1⟩, ⟨h2, h3⟩⟩ := h
  unfold spec_GoodRaft.f
  have hm : Cm (fun k => spec_GoodRaft.l1 k x.f1 (x.f1.length : Int) 0 x.f0 x.f1) (sizesOk x && x.f1.all (goodMail x.f0.length)) := by
    refine cm_val (every_cm (L := fun k i => spec_GoodRaft.l1 k x.f1 (x.f1.length : Int) i x.f0 x.f1) x.f1 (goodMail x.f0.length) (fin := sizesOk x) (no := false) ?_ ?_ ?_) ?_
    · intro pre h t e hlt hp v hv
      have hh := h3 h (by rw [← e]; simp)
      refine cm_step (fun k => by rw [spec_GoodRaft.l1]) ?_
      simp only [rdT126_at e, wrap_len hlt h2]
      exact cm_yes (by omega) (cm_yes (by omega) (cm_yes (by omega) (cm_bind (mail_f x.f0 x.f1 h hh) (cm_yes hp hv))))
    · intro pre h t e hlt hp
      have hh := h3 h (by rw [← e]; simp)
      refine cm_step (fun k => by rw [spec_GoodRaft.l1]) ?_
      simp only [rdT126_at e, wrap_len hlt h2]
      exact cm_yes (by omega) (cm_yes (by omega) (cm_yes (by omega) (cm_bind (mail_f x.f0 x.f1 h hh) (cm_no (by simp [hp]) (cm_now fun _ => rfl)))))
    · intro _
      refine cm_step (fun k => by rw [spec_GoodRaft.l1]) ?_
      unfold sizesOk
      refine cm_no (by omega) (cm_bind (cm_now fun _ => l1In_f _ _ _) (cm_if (fun c => cm_now fun _ => ?_) (fun c => cm_now fun _ => ?_)))
      · simp only [decide_eq_true_eq] at c
        congr 1
        rw [decide_eq_decide]
        omega
      · simp only [decide_eq_true_eq] at c
        exact no_dec (by omega)
    · cases x.f1.all (goodMail x.f0.length) <;> simp
  refine cm_val (every_cm (L := fun k i => spec_GoodRaft.l0 k x.f0 (x.f0.length : Int) i x.f0 x.f1) x.f0 (goodPeer x.f0.length) (fin := sizesOk x && x.f1.all (goodMail x.f0.length)) (no := false) ?_ ?_ ?_) ?_
  · intro pre h t e hlt hp v hv
    have hh := h1 h (by rw [← e]; simp)
    refine cm_step (fun k => by rw [spec_GoodRaft.l0]) ?_
    simp only [rdT98_at e, wrap_len hlt h0]
    exact cm_yes (by omega) (cm_yes (by omega) (cm_yes (by omega) (cm_bind (peer_f x.f0 x.f1 h hh) (cm_yes hp hv))))
  · intro pre h t e hlt hp
    have hh := h1 h (by rw [← e]; simp)
    refine cm_step (fun k => by rw [spec_GoodRaft.l0]) ?_
    simp only [rdT98_at e, wrap_len hlt h0]
    exact cm_yes (by omega) (cm_yes (by omega) (cm_yes (by omega) (cm_bind (peer_f x.f0 x.f1 h hh) (cm_no (by simp [hp]) (cm_now fun _ => rfl)))))
  · intro _
    refine cm_step (fun k => by rw [spec_GoodRaft.l0]) ?_
    exact cm_no (by omega) hm
  · unfold good
    cases x.f0.all (goodPeer x.f0.length) <;> simp
theorem mx_in (a lo hi : Int) : (mx lo 0 ≤ a ∧ a ≤ hi) ↔ (lo ≤ a ∧ 0 ≤ a ∧ a ≤ hi) := by
  unfold mx
  split <;> omega
theorem badEntry_f (e : S67) (m : S126) : impl_isMail_1.f e.f0 e.f1 m.f0 m.f1 m.f2 m.f3 m.f4 m.f5 m.f6 m.f7 m.f8 = some (!entryOk m.f5 m.f3 e) := by
  unfold impl_isMail_1.f entryOk
  rw [in_f, in_f]
  simp only [Option.bind_some, mx_in]
  by_cases c : m.f5 ≤ e.f0 ∧ 0 ≤ e.f0 ∧ e.f0 ≤ m.f3
  · rw [if_pos (by simpa using c)]
    simp [c]
  · rw [if_neg (by simpa using c)]
    simp [c]
theorem anyBad_f (m : S126) (l : List S67) (hl : l.length ≤ 4611686018427387904) : Cm (fun k => impl_Entry_of_impl_isMail_1.f k l m.f0 m.f1 m.f2 m.f3 m.f4 m.f5 m.f6 m.f7 m.f8) (!l.all (entryOk m.f5 m.f3)) := by
  unfold impl_Entry_of_impl_isMail_1.f impl_Entry_of_impl_isMail_1_100003.f
  refine cm_bind (t := foundAt (fun e => !entryOk m.f5 m.f3 e) (fun i _ => (i : Int)) (-1) 0 l) ?_ (cm_now fun _ => ?_)
  · refine find_cm (L := fun k i => impl_Entry_of_impl_isMail_1_100003.l0 k l (l.length : Int) i m.f0 m.f1 m.f2 m.f3 m.f4 m.f5 m.f6 m.f7 m.f8) l (fun e => !entryOk m.f5 m.f3 e) (fun i _ => (i : Int)) (none_ := (-1 : Int)) ?_ ?_ ?_
    · intro pre h t e hlt hp v hv
      refine cm_step (fun k => by rw [impl_Entry_of_impl_isMail_1_100003.l0]) ?_
      simp only [rdT67_at e, wrap_len hlt hl]
      exact cm_yes (by omega) (cm_yes (by omega) (cm_yes (by omega) (cm_bind (cm_now fun _ => badEntry_f h m) (cm_no (by simp [hp]) hv))))
    · intro pre h t e hlt hp
      refine cm_step (fun k => by rw [impl_Entry_of_impl_isMail_1_100003.l0]) ?_
      simp only [rdT67_at e, wrap_len hlt hl]
      exact cm_yes (by omega) (cm_yes (by omega) (cm_yes (by omega) (cm_bind (cm_now fun _ => badEntry_f h m) (cm_yes hp (cm_now fun _ => rfl)))))
    · refine cm_step (fun k => by rw [impl_Entry_of_impl_isMail_1_100003.l0]) ?_
      exact cm_no (by omega) (cm_now fun _ => rfl)
  · rw [found_any, ← not_any (fun e => !entryOk m.f5 m.f3 e) (entryOk m.f5 m.f3) l (fun _ _ => rfl), Bool.not_not]
theorem impl_mail_no (m : S126) : Cm (fun k => impl_isMail.j0 k true m.f0 m.f1 m.f2 m.f3 m.f4 m.f5 m.f6 m.f7 m.f8) false := by
  refine cm_step (fun k => by rw [impl_isMail.j0]) ?_
  exact cm_yes rfl (cm_now fun _ => rfl)
theorem impl_mail_j0 (m : S126) (hl : m.f6.length ≤ 4611686018427387904) : Cm (fun k => impl_isMail.j0 k false m.f0 m.f1 m.f2 m.f3 m.f4 m.f5 m.f6 m.f7 m.f8) (tailOk m) := by
  refine cm_step (fun k => by rw [impl_isMail.j0]) ?_
  refine cm_no (by simp) ?_
  unfold tailOk
  refine cm_if (fun c => ?_) (fun c => ?_)
  · rw [if_pos c]
    refine cm_if (fun c1 => cm_if (fun c2 => cm_if (fun c3 => cm_if (fun c4 => cm_bind (cm_now fun _ => in_f _ _ _) (cm_now fun _ => ?_)) (fun c4 => cm_now fun _ => no_dec (by omega))) (fun c3 => cm_now fun _ => no_dec (by omega))) (fun c2 => cm_now fun _ => no_dec (by omega))) (fun c1 => cm_now fun _ => no_dec (by omega))
    congr 1
    rw [decide_eq_decide]
    omega
  · rw [if_neg c]
    refine cm_if (fun c5 => cm_bind (cm_now fun _ => in_f _ _ _) (cm_if (fun c1 => cm_bind (cm_now fun _ => in_f _ _ _) (cm_if (fun c4 => cm_bind (cm_now fun _ => in_f _ _ _) (cm_if (fun c2 => cm_if (fun c3 => cm_now fun _ => ?_) (fun c3 => cm_if (fun c6 => cm_now fun _ => ?_) (fun c6 => cm_bind (anyBad_f m m.f6 hl) (cm_now fun _ => ?_)))) (fun c2 => cm_now fun _ => ?_))) (fun c4 => cm_now fun _ => ?_))) (fun c1 => cm_now fun _ => ?_))) (fun c5 => cm_now fun _ => ?_)
    · rw [same_none2] at c3
      exact no_of (fun h => c3 h.2.2.1)
    · exact no_of (fun h => by have := h.2.2.2.2.2; omega)
    · rw [same_none2] at c3
      simp only [decide_eq_true_eq] at c1 c2 c4
      have c3' : (m.f4 = 0) ↔ (m.f5 = -1) := by
        by_cases z : (m.f4 = 0) ↔ (m.f5 = -1)
        · exact z
        · exact absurd z c3
      have e1 : decide ((0 ≤ m.f4 ∧ m.f4 ≤ 30) ∧ (-1 ≤ m.f5 ∧ m.f5 ≤ m.f3) ∧ ((m.f4 = 0) ↔ (m.f5 = -1)) ∧ (0 ≤ m.f7 ∧ m.f7 ≤ 30) ∧ m.f8 = 0 ∧ m.f6.length ≤ 1) = true := by
        rw [decide_eq_true_eq]
        exact ⟨c1, c2, c3', c4, c5, by omega⟩
      rw [e1, Bool.true_and, Bool.not_not]
    · exact no_of (fun h => c2 (by simpa using h.2.1))
    · exact no_of (fun h => c4 (by simpa using h.2.2.2.1))
    · exact no_of (fun h => c1 (by simpa using h.1))
    · exact no_of (fun h => c5 h.2.2.2.2.1)
theorem isMail_f (n : Nat) (hn : 1 ≤ n ∧ n ≤ 5) (m : S126) (h : smMail m) : Cm (fun k => impl_isMail.f k m.f0 m.f1 m.f2 m.f3 m.f4 m.f5 m.f6 m.f7 m.f8 (n : Int)) (goodMail n m) := by
  have hl := h.2.2.2.2.2.2.1.1
  have hw : wrap64 ((n : Int) - 1) = (n : Int) - 1 := wrap_in (by omega) (by omega)
  unfold impl_isMail.f goodMail headOk
  rw [hw]
  refine cm_bind (cm_now fun _ => in_f _ _ _) (cm_if (fun c => cm_bind (cm_now fun _ => in_f _ _ _) (cm_if (fun c2 => cm_if (fun c3 => cm_val (impl_mail_no m) ?_) (fun c3 => cm_bind (cm_now fun _ => in_f _ _ _) ?_)) (fun c2 => cm_val (impl_mail_no m) ?_))) (fun c => cm_val (impl_mail_no m) ?_))
  · simp [c3]
  · simp only [decide_eq_true_eq] at c c2
    by_cases c4 : 0 ≤ m.f3 ∧ m.f3 ≤ 100
    · have e1 : decide ((0 ≤ m.f1 ∧ m.f1 < (n : Int)) ∧ (0 ≤ m.f2 ∧ m.f2 < (n : Int)) ∧ m.f1 ≠ m.f2 ∧ (0 ≤ m.f3 ∧ m.f3 ≤ 100)) = true := by
        rw [decide_eq_true_eq]; exact ⟨by omega, by omega, c3, c4⟩
      rw [e1, Bool.true_and]
      simp only [c4, _root_.and_self, decide_true, Bool.not_true]
      exact impl_mail_j0 m hl
    · have e1 : decide ((0 ≤ m.f1 ∧ m.f1 < (n : Int)) ∧ (0 ≤ m.f2 ∧ m.f2 < (n : Int)) ∧ m.f1 ≠ m.f2 ∧ (0 ≤ m.f3 ∧ m.f3 ≤ 100)) = false := by
        rw [decide_eq_false_iff_not]; exact fun z => c4 z.2.2.2
      rw [e1, Bool.false_and]
      simp only [c4, decide_false, Bool.not_false]
      exact impl_mail_no m
  · simp only [decide_eq_true_eq] at c2
    have e1 : decide ((0 ≤ m.f1 ∧ m.f1 < (n : Int)) ∧ (0 ≤ m.f2 ∧ m.f2 < (n : Int)) ∧ m.f1 ≠ m.f2 ∧ (0 ≤ m.f3 ∧ m.f3 ≤ 100)) = false := by
      rw [decide_eq_false_iff_not]; exact fun z => c2 ⟨z.2.1.1, by omega⟩
    rw [e1]; rfl
  · simp only [decide_eq_true_eq] at c
    have e1 : decide ((0 ≤ m.f1 ∧ m.f1 < (n : Int)) ∧ (0 ≤ m.f2 ∧ m.f2 < (n : Int)) ∧ m.f1 ≠ m.f2 ∧ (0 ≤ m.f3 ∧ m.f3 ≤ 100)) = false := by
      rw [decide_eq_false_iff_not]; exact fun z => c ⟨z.1.1, by omega⟩
    rw [e1]; rfl
theorem anyMail_f (n : Nat) (hn : 1 ≤ n ∧ n ≤ 5) (l : List S126) (hl : l.length ≤ 4611686018427387904) (hs : ∀ y ∈ l, smMail y) : Cm (fun k => impl_Mail_of_impl_isRaft_1.f k l (n : Int)) (!l.all (goodMail n)) := by
  unfold impl_Mail_of_impl_isRaft_1.f impl_Mail_of_impl_isRaft_1_100005.f
  refine cm_bind (t := foundAt (fun e => !goodMail n e) (fun i _ => (i : Int)) (-1) 0 l) ?_ (cm_now fun _ => ?_)
  · have hc : ∀ h ∈ l, Cm (fun k => impl_isRaft_1.f k h.f0 h.f1 h.f2 h.f3 h.f4 h.f5 h.f6 h.f7 h.f8 (n : Int)) (!goodMail n h) := by
      intro h hh
      unfold impl_isRaft_1.f
      exact cm_bind (isMail_f n hn h (hs h hh)) (cm_now fun _ => rfl)
    refine find_cm (L := fun k i => impl_Mail_of_impl_isRaft_1_100005.l0 k l (l.length : Int) i (n : Int)) l (fun e => !goodMail n e) (fun i _ => (i : Int)) (none_ := (-1 : Int)) ?_ ?_ ?_
    · intro pre h t e hlt hp v hv
      refine cm_step (fun k => by rw [impl_Mail_of_impl_isRaft_1_100005.l0]) ?_
      simp only [rdT126_at e, wrap_len hlt hl]
      exact cm_yes (by omega) (cm_yes (by omega) (cm_yes (by omega) (cm_bind (hc h (by rw [← e]; simp)) (cm_no (by simp [hp]) hv))))
    · intro pre h t e hlt hp
      refine cm_step (fun k => by rw [impl_Mail_of_impl_isRaft_1_100005.l0]) ?_
      simp only [rdT126_at e, wrap_len hlt hl]
      exact cm_yes (by omega) (cm_yes (by omega) (cm_yes (by omega) (cm_bind (hc h (by rw [← e]; simp)) (cm_yes hp (cm_now fun _ => rfl)))))
    · refine cm_step (fun k => by rw [impl_Mail_of_impl_isRaft_1_100005.l0]) ?_
      exact cm_no (by omega) (cm_now fun _ => rfl)
  · rw [found_any, ← not_any (fun e => !goodMail n e) (goodMail n) l (fun _ _ => rfl), Bool.not_not]
theorem impl_marks (ps : List S98) (ms : List S126) (i : Nat) (p : S98) (h4 : p.f4.length ≤ 4611686018427387904) (v : Bool) (hv : p.f4.all (mark1 p.f1 p.f2.length) = true → Cm (fun k => impl_isRaft.l0 k ps (ps.length : Int) (wrap64 ((i : Int) + 1)) ps ms (ps.length : Int)) v) (hn : p.f4.all (mark1 p.f1 p.f2.length) = false → v = false) :
    Cm (fun k => impl_isRaft.l1 k ps (ps.length : Int) (i : Int) p.f4 (p.f4.length : Int) 0 ps ms (ps.length : Int) p.f0 p.f1 p.f2 p.f3 p.f4) v := by
  have key := every_cm (L := fun k j => impl_isRaft.l1 k ps (ps.length : Int) (i : Int) p.f4 (p.f4.length : Int) j ps ms (ps.length : Int) p.f0 p.f1 p.f2 p.f3 p.f4) p.f4 (mark1 p.f1 p.f2.length) (fin := v) (no := false) ?_ ?_ ?_
  · refine cm_val key ?_
    cases e : p.f4.all (mark1 p.f1 p.f2.length)
    · rw [hn e]; rfl
    · rfl
  · intro pre h t' e hlt hp u hu
    simp only [mark1, decide_eq_true_eq] at hp
    refine cm_step (fun k => by rw [impl_isRaft.l1]) ?_
    simp only [rd_at e, wrap_len hlt h4]
    refine cm_yes (by omega) (cm_yes (by omega) (cm_yes (by omega) (cm_bind (cm_now fun _ => in_f _ _ _) (cm_yes (by simpa using hp.1) ?_))))
    refine cm_if (fun _ => hu) (fun c => cm_yes ?_ hu)
    rcases hp.2 with h2 | h2
    · exact absurd h2 c
    · exact h2
  · intro pre h t' e hlt hp
    simp only [mark1, decide_eq_false_iff_not] at hp
    refine cm_step (fun k => by rw [impl_isRaft.l1]) ?_
    simp only [rd_at e, wrap_len hlt h4]
    refine cm_yes (by omega) (cm_yes (by omega) (cm_yes (by omega) (cm_bind (cm_now fun _ => in_f _ _ _) (cm_if (fun c => ?_) (fun _ => cm_now fun _ => rfl)))))
    simp only [decide_eq_true_eq] at c
    exact cm_no (fun c2 => hp ⟨c, .inl c2⟩) (cm_no (fun c2 => hp ⟨c, .inr c2⟩) (cm_now fun _ => rfl))
  · intro hall
    refine cm_step (fun k => by rw [impl_isRaft.l1]) ?_
    exact cm_no (by omega) (hv hall)
theorem impl_j2 (ps : List S98) (ms : List S126) (i : Nat) (p : S98) (q : Bool) (h4 : p.f4.length ≤ 4611686018427387904) (v : Bool) (hv : (!q && p.f4.all (mark1 p.f1 p.f2.length)) = true → Cm (fun k => impl_isRaft.l0 k ps (ps.length : Int) (wrap64 ((i : Int) + 1)) ps ms (ps.length : Int)) v) (hn : (!q && p.f4.all (mark1 p.f1 p.f2.length)) = false → v = false) :
    Cm (fun k => impl_isRaft.j2 k ps (ps.length : Int) (i : Int) q ps ms (ps.length : Int) p.f0 p.f1 p.f2 p.f3 p.f4) v := by
  refine cm_step (fun k => by rw [impl_isRaft.j2]) ?_
  cases q
  · exact cm_no (by simp) (impl_marks ps ms i p h4 v (fun h => hv (by simpa using h)) (fun h => hn (by rw [h]; rfl)))
  · refine cm_yes rfl (cm_now fun _ => ?_)
    rw [hn rfl]
theorem impl_peers (ps : List S98) (ms : List S126) (hn : 1 ≤ ps.length ∧ ps.length ≤ 5) (hs : ∀ y ∈ ps, smPeer y) (hl2 : ms.length ≤ 4611686018427387904) (hs2 : ∀ y ∈ ms, smMail y) : Cm (fun k => impl_isRaft.l0 k ps (ps.length : Int) 0 ps ms (ps.length : Int)) (ps.all (goodPeer ps.length) && ms.all (goodMail ps.length)) := by
  have hl : ps.length ≤ 4611686018427387904 := by omega
  have key : ∀ (pre : List S98) (h : S98) (t : List S98), pre ++ h :: t = ps → pre.length < ps.length → ∀ v : Bool, (goodPeer ps.length h = true → Cm (fun k => impl_isRaft.l0 k ps (ps.length : Int) ((pre.length + 1 : Nat) : Int) ps ms (ps.length : Int)) v) → (goodPeer ps.length h = false → v = false) →
      Cm (fun k => impl_isRaft.l0 k ps (ps.length : Int) (pre.length : Int) ps ms (ps.length : Int)) v := by
    intro pre h t e hlt v hv hno
    have hh := hs h (by rw [← e]; simp)
    have h2 := hh.2.2.1.1
    have h4 := hh.2.2.2.2
    have hj : ∀ q : Bool, goodPeer ps.length h = (!q && h.f4.all (mark1 h.f1 h.f2.length)) → Cm (fun k => impl_isRaft.j2 k ps (ps.length : Int) (pre.length : Int) q ps ms (ps.length : Int) h.f0 h.f1 h.f2 h.f3 h.f4) v := by
      intro q hq
      refine impl_j2 ps ms pre.length h q h4 v (fun z => ?_) (fun z => hno (by rw [hq]; exact z))
      rw [wrap_len hlt hl]
      exact hv (by rw [hq]; exact z)
    refine cm_step (fun k => by rw [impl_isRaft.l0]) ?_
    simp only [rdT98_at e]
    refine cm_yes (by omega) (cm_yes (by omega) (cm_yes (by omega) (cm_bind (cm_now fun _ => in_f _ _ _) (cm_if (fun c => cm_bind (raftLog_f h.f2 h.f0 h2) (cm_if (fun c2 => cm_bind (cm_now fun _ => in_f _ _ _) (cm_if (fun c3 => hj _ ?_) (fun c3 => hj _ ?_))) (fun c2 => hj _ ?_))) (fun c => hj _ ?_)))))
    · simp only [decide_eq_true_eq] at c3
      unfold goodPeer
      rw [c, c2]
      by_cases c5 : h.f4.length = ps.length
      · simp only [c3, c5, bne_self_eq_false, Bool.not_false, Bool.true_and, decide_true, _root_.and_self]
      · have e : (((h.f4.length : Int)) != ((ps.length : Int))) = true := by simp; omega
        simp [e, c5]
    · simp only [decide_eq_true_eq] at c3
      have : ¬ ((0 ≤ h.f3 ∧ h.f3 ≤ (h.f2.length : Int)) ∧ h.f4.length = ps.length) := fun z => c3 z.1
      unfold goodPeer
      simp [this]
    · unfold goodPeer
      simp [c2]
    · have : decide (0 ≤ h.f0 ∧ h.f0 ≤ 100) = false := by simpa using c
      unfold goodPeer
      rw [this]; rfl
  refine cm_val (every_cm (L := fun k i => impl_isRaft.l0 k ps (ps.length : Int) i ps ms (ps.length : Int)) ps (goodPeer ps.length) (fin := ms.all (goodMail ps.length)) (no := false) ?_ ?_ ?_) ?_
  · intro pre h t e hlt hp v hv
    exact key pre h t e hlt v (fun _ => hv) (by rw [hp]; simp)
  · intro pre h t e hlt hp
    exact key pre h t e hlt false (by rw [hp]; simp) (fun _ => rfl)
  · intro _
    refine cm_step (fun k => by rw [impl_isRaft.l0]) ?_
    exact cm_no (by omega) (cm_bind (anyMail_f ps.length hn ms hl2 hs2) (cm_now fun _ => by rw [Bool.not_not]))
  · cases ps.all (goodPeer ps.length) <;> simp
theorem isRaft_f (x : S37) (h : smRaft x) : Cm (fun k => impl_isRaft.f k x.f0 x.f1) (good x) := by
  obtain ⟨⟨h0, h1⟩, ⟨h2, h3⟩⟩ := h
  unfold impl_isRaft.f
  have hno : Cm (fun k => impl_isRaft.j0 k true x.f0 x.f1 (x.f0.length : Int)) false := by
    refine cm_step (fun k => by rw [impl_isRaft.j0]) ?_
    exact cm_yes rfl (cm_now fun _ => rfl)
  refine cm_bind (cm_now fun _ => in_f _ _ _) (cm_if (fun c => ?_) (fun c => cm_val hno ?_))
  · simp only [decide_eq_true_eq] at c
    by_cases c2 : x.f1.length ≤ 20
    · have e : decide ((x.f1.length : Int) > 20) = false := by rw [decide_eq_false_iff_not]; omega
      have e2 : sizesOk x = true := by simp only [sizesOk, decide_eq_true_eq]; omega
      rw [e]
      refine cm_step (fun k => by rw [impl_isRaft.j0]) ?_
      refine cm_no (by simp) (cm_val (impl_peers x.f0 x.f1 (by omega) h1 h2 h3) ?_)
      unfold good
      rw [e2, Bool.true_and]
    · have e : decide ((x.f1.length : Int) > 20) = true := by rw [decide_eq_true_eq]; omega
      have e2 : sizesOk x = false := by simp only [sizesOk, decide_eq_false_iff_not]; omega
      rw [e]
      refine cm_val hno ?_
      unfold good
      rw [e2]; rfl
  · simp only [decide_eq_true_eq] at c
    have e2 : sizesOk x = false := by simp only [sizesOk, decide_eq_false_iff_not]; omega
    unfold good
    rw [e2]; rfl
end Go.Proofs.Ytomdjipejoafgaa.Raft
end
section
namespace Go.Proofs.Ytomdjipejoafgaa.Pick
open Go.RowKit Go.Proofs.YtomdjipejoafgaaW.PrintWords
open Go.Proofs.Ytomdjipejoafgaa.Pl Go.Proofs.Ytomdjipejoafgaa.EvN Go.Proofs.Ytomdjipejoafgaa.Lp
set_option linter.unusedVariables false
set_option linter.unusedSimpArgs false
end Go.Proofs.Ytomdjipejoafgaa.Pick
end
section
namespace Go.Proofs.Ytomdjipejoafgaa.Comm
open Go.RowKit Go.Proofs.Ytomdjipejoafgaa.P Go.Proofs.YtomdjipejoafgaaW.PrintWords Go.Proofs.YtomdjipejoafgaaW.PrintLast Go.Proofs.YtomdjipejoafgaaW.PrintMore
open Go.Proofs.Ytomdjipejoafgaa.Pl Go.Proofs.Ytomdjipejoafgaa.EvN Go.Proofs.Ytomdjipejoafgaa.Lp Go.Proofs.Ytomdjipejoafgaa.Hs Go.Proofs.Ytomdjipejoafgaa.Hg Go.Proofs.Ytomdjipejoafgaa.Mem Go.Proofs.Ytomdjipejoafgaa.Raft Go.Proofs.Ytomdjipejoafgaa.Pick
set_option linter.unusedVariables false
set_option linter.unusedSimpArgs false
theorem rd_nat (ps : List S98) (b : Nat) (hb : b < ps.length) : rd_T98 ps (b : Int) = ps[b] := by
  have e : ps.take b ++ ps[b] :: ps.drop (b + 1) = ps := by rw [List.getElem_cons_drop, List.take_append_drop]
  have h := rdT98_at e
  rw [List.length_take, Nat.min_eq_left (by omega)] at h
  exact h
theorem comm_l0 (ps : List S98) (ms : List S126) (hl : ps.length ≤ 1048576) (hg : ∀ y ∈ ps, (0 ≤ y.f3 ∧ y.f3 ≤ (y.f2.length : Int)) ∧ y.f2.length ≤ 100000000) : ∀ (d i b : Nat), i + d = ps.length → b < ps.length → ∃ p, p ∈ ps ∧ Cm (fun k => spec_CommittedIn.l0 k (b : Int) ps (ps.length : Int) (i : Int) ps ms) (p.f2.take p.f3.toNat, true) := by
  intro d
  induction d with
  | zero =>
    intro i b hi hb
    have e : i = ps.length := by omega
    subst e
    have hq := hg ps[b] (List.getElem_mem hb)
    refine ⟨ps[b], List.getElem_mem hb, ?_⟩
    refine cm_step (fun k => by rw [spec_CommittedIn.l0]) ?_
    simp only [rd_nat ps b hb, Option.bind_some, List.nil_append, List.length_nil]
    have ht : (ps[b].f2.take ps[b].f3.toNat).length ≤ ps[b].f2.length := by rw [List.length_take]; omega
    exact cm_no (by omega) (cm_yes (by omega) (cm_yes (by omega) (cm_yes hq.1.1 (cm_yes hq.1.2 (cm_yes (by omega) (cm_now fun _ => rfl))))))
  | succ d ih =>
    intro i b hi hb
    have hi' : i < ps.length := by omega
    by_cases c : ps[i].f3 > ps[b].f3
    · obtain ⟨p, hp, hc⟩ := ih (i + 1) i (by omega) hi'
      refine ⟨p, hp, ?_⟩
      refine cm_step (fun k => by rw [spec_CommittedIn.l0]) ?_
      simp only [rd_nat ps b hb, rd_nat ps i hi', wrap_len hi' (show ps.length ≤ 4611686018427387904 by omega)]
      exact cm_yes (by omega) (cm_yes (by omega) (cm_yes (by omega) (cm_yes (by omega) (cm_yes (by omega) (cm_yes c hc)))))
    · obtain ⟨p, hp, hc⟩ := ih (i + 1) b (by omega) hb
      refine ⟨p, hp, ?_⟩
      refine cm_step (fun k => by rw [spec_CommittedIn.l0]) ?_
      simp only [rd_nat ps b hb, rd_nat ps i hi', wrap_len hi' (show ps.length ≤ 4611686018427387904 by omega)]
      exact cm_yes (by omega) (cm_yes (by omega) (cm_yes (by omega) (cm_yes (by omega) (cm_yes (by omega) (cm_no c hc)))))
theorem good_peers (x : S37) (c : good x = true) : 1 ≤ x.f0.length ∧ ∀ y ∈ x.f0, 0 ≤ y.f3 ∧ y.f3 ≤ (y.f2.length : Int) := by
  unfold good sizesOk at c
  simp only [Bool.and_eq_true, decide_eq_true_eq, List.all_eq_true] at c
  refine ⟨c.1.1.1.1, fun y hy => ?_⟩
  have h := c.1.2 y hy
  unfold goodPeer at h
  simp only [Bool.and_eq_true, decide_eq_true_eq] at h
  exact h.1.2.1
theorem comm_both (x : S37) (h : smRaft x) (hl : x.f0.length ≤ 1048576) (hw : ∀ y ∈ x.f0, y.f2.length ≤ 100000000) : ∃ r b, Cm (fun k => spec_CommittedIn.f k x.f0 x.f1) (r, b) ∧ Cm (fun k => impl_CommittedIn.f k x.f0 x.f1) (r, b) ∧ (r = [] ∨ ∃ p, p ∈ x.f0 ∧ r = p.f2.take p.f3.toNat) := by
  by_cases c : good x = true
  · obtain ⟨h1, h2⟩ := good_peers x c
    obtain ⟨p, hp, hc⟩ := comm_l0 x.f0 x.f1 hl (fun y hy => ⟨h2 y hy, hw y hy⟩) x.f0.length 0 0 (by omega) (by omega)
    refine ⟨_, true, ?_, ?_, .inr ⟨p, hp, rfl⟩⟩
    · unfold spec_CommittedIn.f
      exact cm_bind (spec_f x h) (cm_yes c hc)
    · unfold impl_CommittedIn.f
      exact cm_bind (isRaft_f x h) (cm_yes c hc)
  · refine ⟨[], false, ?_, ?_, .inl rfl⟩
    · unfold spec_CommittedIn.f
      exact cm_bind (spec_f x h) (cm_no c (cm_now fun _ => rfl))
    · unfold impl_CommittedIn.f
      exact cm_bind (isRaft_f x h) (cm_no c (cm_now fun _ => rfl))
end Go.Proofs.Ytomdjipejoafgaa.Comm
end
section
namespace Go.Proofs.Ytomdjipejoafgaa.Pure
open Go.RowKit Go.Proofs.Ytomdjipejoafgaa.P Go.Proofs.YtomdjipejoafgaaW.PrintWords Go.Proofs.YtomdjipejoafgaaW.PrintLast Go.Proofs.YtomdjipejoafgaaW.PrintMore
open Go.Proofs.Ytomdjipejoafgaa.Pl Go.Proofs.Ytomdjipejoafgaa.EvN Go.Proofs.Ytomdjipejoafgaa.Lp Go.Proofs.Ytomdjipejoafgaa.Hs Go.Proofs.Ytomdjipejoafgaa.Hg Go.Proofs.Ytomdjipejoafgaa.Sz Go.Proofs.Ytomdjipejoafgaa.Raft Go.Proofs.Ytomdjipejoafgaa.Comm
set_option linter.unusedVariables false
theorem tot_mem {α : Type} (c : α → Nat) : ∀ (l : List α) (x : α), x ∈ l → c x ≤ Mk.tot c l
  | h :: t, x, hx => by
    unfold Mk.tot
    rw [List.map_cons, List.sum_cons]
    rcases List.mem_cons.mp hx with e | e
    · subst e; omega
    · have := tot_mem c t x e; unfold Mk.tot at this; omega
theorem tot_take {α : Type} (c : α → Nat) : ∀ (l : List α) (n : Nat), Mk.tot c (l.take n) ≤ Mk.tot c l
  | [], n => by rw [List.take_nil]; exact Nat.le_refl _
  | h :: t, 0 => by rw [List.take_zero]; exact Nat.zero_le _
  | h :: t, n + 1 => by
    have := tot_take c t n
    unfold Mk.tot at this ⊢
    rw [List.take_succ_cons, List.map_cons, List.map_cons, List.sum_cons, List.sum_cons]
    omega
theorem tot_len : ∀ (l : List S67), l.length ≤ Mk.tot Mk.pcEntry l
  | [] => Nat.zero_le _
  | h :: t => by
    have := tot_len t
    unfold Mk.tot at this ⊢
    rw [List.map_cons, List.sum_cons, List.length_cons]
    have : 1 ≤ Mk.pcEntry h := by unfold Mk.pcEntry; omega
    omega
theorem FnExactCommittedIn : Mk.FnExactCommittedIn_Pure := by
  intro x0 b0
  obtain ⟨z1, cz1, dz1⟩ := szRaft_wt x0 b0 1048576 (by omega) (by omega)
  by_cases nz1 : z1 < 0
  · obtain ⟨Kz1, jz1⟩ := cz1; exact ⟨Kz1, z1, jz1 _ (by omega), .inl nz1⟩
  simp only [wRaft] at dz1
  have tb0 : Mk.tot Mk.pcPeer (cRaft x0).f0 ≤ 10 * wPeerS x0.f0 := totPeer_le _
  have tb1 : Mk.tot Mk.pcMail (cRaft x0).f1 ≤ 10 * wMailS x0.f1 := totMail_le _
  have hpe : ∀ y ∈ (cRaft x0).f0, Mk.tot Mk.pcEntry y.f2 ≤ 10 * wPeerS x0.f0 := fun y hy => by
    have h1 := tot_mem Mk.pcPeer _ y hy
    have h2 : Mk.tot Mk.pcEntry y.f2 ≤ Mk.pcPeer y := by unfold Mk.pcPeer; omega
    omega
  obtain ⟨r18, r19, hspec, himpl, hr⟩ := comm_both (cRaft x0) (sm_cRaft x0 b0) (by show (x0.f0.map cPeer).length ≤ _; rw [List.length_map]; unfold wPeerS at dz1; omega) (fun y hy => by have := hpe y hy; have := tot_len y.f2; omega)
  have tb2 : Mk.tot Mk.pcEntry r18 ≤ 100000000 := by
    rcases hr with e | ⟨p, hp, e⟩
    · subst e; exact Nat.zero_le _
    · subst e; have := tot_take Mk.pcEntry p.f2 p.f3.toNat; have := hpe p hp; omega
  have hsm : r18.length ≤ 4611686018427387904 ∧ ∀ y ∈ r18, smEntry y := by
    refine ⟨by have := tot_len r18; omega, ?_⟩
    rcases hr with e | ⟨p, hp, e⟩
    · subst e; intro y hy; cases hy
    · subst e; intro y hy; exact ((sm_cRaft x0 b0).1.2 p hp).2.2.1.2 y (List.mem_of_mem_take hy)
  obtain ⟨K0, j0⟩ := toRaft_f x0 b0
  obtain ⟨K1, j1⟩ := hspec
  obtain ⟨K2, j2⟩ := himpl
  obtain ⟨K3, j3⟩ := eqEntryS_same r18 hsm
  obtain ⟨K4, j4⟩ := eqRaft_same _ (sm_cRaft x0 b0)
  obtain ⟨Kz1, jz1⟩ := cz1
  exact ⟨K0 + K1 + K2 + K3 + K4 + Kz1, z1, jz1 _ (by omega), .inr ⟨nz1, (cRaft x0).f0, (cRaft x0).f1, r18, r19, j0 _ (by omega), j1 _ (by omega), j2 _ (by omega), j3 _ (by omega), j4 _ (by omega), (by omega), (by omega), tb2, fun x _ => ⟨trivial, trivial, .inl rfl⟩⟩⟩
end Go.Proofs.Ytomdjipejoafgaa.Pure
end
