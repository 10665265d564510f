-- Written by programs of this session (wip/prune.py, wip/xp.py), out of the translation and the printed words; what the law does not reach is left out. Not trusted: Lean checks it.
import Derived.Laws.World
import Derived.Test.YtmkiffemanmgcaaZXLeadsInPx0
import Derived.Test.YtmkiffemanmgcaaZXLeadsInW0
import Derived.Test.YtmkiffemanmgcaaZXLeadsInPx15
import Derived.Test.YtmkiffemanmgcaaZXLeadsInPx16
import Derived.Test.YtmkiffemanmgcaaZXLeadsInPx2
import Derived.Test.YtmkiffemanmgcaaZXLeadsInPx3
import Derived.Test.YtmkiffemanmgcaaZXLeadsInPxok
import Derived.Test.YtmkiffemanmgcaaZXLeadsInPx1
import Derived.Test.YtmkiffemanmgcaaZXLeadsInPx10
import Derived.Test.YtmkiffemanmgcaaZXLeadsInPx12
import Derived.Laws.BitsAllLaws
section
namespace Go.Proofs.Ytmkiffemanmgcaa.Mk
open Go.RowKit Go.Proofs.YtmkiffemanmgcaaW.PrintWords Go.Proofs.YtmkiffemanmgcaaW.PrintLast
set_option linter.unusedVariables false
set_option linter.unusedSimpArgs false
abbrev Pl := Nat × Nat × Bool
def adr (p : Pl) : Addr := ⟨p.1, p.2.1, none⟩
def three (k : Int) : Bool := k % 3 == 0
def mkv (t : Bool) (k : Int) : Value := if t = true then .bool (three k) else .int .i64 k
def plain : Bool → Value → Prop
  | true, u => ∃ z, u = .bool z
  | false, u => ∃ z : Int, u = .int .i64 z
theorem plain_mkv (t : Bool) (k : Int) : plain t (mkv t k) := by cases t <;> exact ⟨_, rfl⟩
theorem plain_one {s t : Bool} {u : Value} (h : plain s u) (h2 : plain t u) : s = t := by
  cases s <;> cases t <;> obtain ⟨a, rfl⟩ := h <;> obtain ⟨b, hb⟩ := h2 <;> first | rfl | cases hb
def puts : World → List Pl → Int → World
  | w, [], _ => w
  | w, p :: l, k => puts (w.setCell (adr p) (mkv p.2.2 k)) l (k + 1)
theorem set_size (w : World) (a : Addr) (u : Value) : (w.setCell a u).heap.size = w.heap.size := by simp [World.setCell]
theorem puts_size : ∀ (l : List Pl) (w : World) (k : Int), (puts w l k).heap.size = w.heap.size
  | [], _, _ => rfl
  | p :: l, w, k => by rw [puts, puts_size l, set_size]
theorem set_cong {w1 w2 : World} {i : Nat} (h : w1.heap[i]? = w2.heap[i]?) (a : Addr) (u : Value) : (w1.setCell a u).heap[i]? = (w2.setCell a u).heap[i]? := by
  simp only [World.setCell, Array.getElem?_modify, h]
theorem puts_cong {i : Nat} : ∀ (l : List Pl) {w1 w2 : World} (k : Int), w1.heap[i]? = w2.heap[i]? → (puts w1 l k).heap[i]? = (puts w2 l k).heap[i]?
  | [], _, _, _, h => h
  | p :: l, _, _, k, h => puts_cong l (k + 1) (set_cong h _ _)
theorem puts_app : ∀ (l m : List Pl) (w : World) (k : Int), puts w (l ++ m) k = puts (puts w l k) m (k + (l.length : Int))
  | [], m, w, k => by simp [puts]
  | p :: l, m, w, k => by
    rw [List.cons_append, puts, puts_app l m, puts]
    congr 1
    simp only [List.length_cons]
    omega
theorem puts_far {i : Nat} : ∀ (l : List Pl) (w : World) (k : Int), (∀ p ∈ l, p.1 ≠ i) → (puts w l k).heap[i]? = w.heap[i]?
  | [], _, _, _ => rfl
  | p :: l, w, k, h => by
    rw [puts, puts_far l _ _ (fun q hq => h q (List.mem_cons_of_mem _ hq))]
    exact Below.heap_setCell w _ _ _ (fun e => h p List.mem_cons_self e.symm)
structure Wr (w w' : World) (ps : List Pl) (k : Int) : Prop where
  os : w'.os = w.os
  tape : w'.tape = w.tape
  output : w'.output = w.output
  size : w.heap.size ≤ w'.heap.size
  block : ∀ i, i < w.heap.size → w'.heap[i]? = (puts w ps k).heap[i]?
theorem Wr.refl (w : World) (k : Int) : Wr w w [] k := ⟨rfl, rfl, rfl, Nat.le_refl _, fun _ _ => rfl⟩
theorem Wr.below {w w1 w2 : World} {ps : List Pl} {k : Int} (h : Wr w w1 ps k) (hb : Below w1.heap.size w1 w2) : Wr w w2 ps k :=
  ⟨hb.os.trans h.os, hb.tape.trans h.tape, hb.output.trans h.output, Nat.le_trans h.size hb.size, fun i hi => (hb.block i (Nat.lt_of_lt_of_le hi h.size)).trans (h.block i hi)⟩
theorem Wr.trans {w w1 w2 : World} {ps bs : List Pl} {k j : Int} (h : Wr w w1 ps k) (g : Wr w1 w2 bs j) (hj : j = k + (ps.length : Int)) : Wr w w2 (ps ++ bs) k := by
  subst hj
  refine ⟨g.os.trans h.os, g.tape.trans h.tape, g.output.trans h.output, Nat.le_trans h.size g.size, fun i hi => ?_⟩
  rw [g.block i (Nat.lt_of_lt_of_le hi h.size), puts_app]
  exact puts_cong bs _ (h.block i hi)
theorem Wr.one (w : World) (p : Pl) (k : Int) : Wr w (w.setCell (adr p) (mkv p.2.2 k)) [p] k :=
  ⟨rfl, rfl, rfl, Nat.le_of_eq (set_size w _ _).symm, fun _ _ => rfl⟩
theorem Wr.put {w w1 : World} {ps : List Pl} {k j : Int} (h : Wr w w1 ps k) (p : Pl) (hj : j = k + (ps.length : Int)) : Wr w (w1.setCell (adr p) (mkv p.2.2 j)) (ps ++ [p]) k :=
  h.trans (Wr.one w1 p j) hj
theorem Wr.kept {w w' : World} {ps : List Pl} {k : Int} {S : Nat → Prop} (h : Wr w w' ps k) (hS : ∀ p ∈ ps, S p.1) : Kept w w' S :=
  ⟨h.size, fun i hi hn => (h.block i hi).trans (puts_far ps w k (fun p hp e => hn (e ▸ hS p hp)))⟩
theorem Wr.under {w0 w w' : World} {ps : List Pl} {k : Int} (h : Wr w w' ps k) (hb : Below w0.heap.size w0 w) (ha : ∀ p ∈ ps, w0.heap.size ≤ p.1) : Below w0.heap.size w0 w' :=
  ⟨h.os.trans hb.os, h.tape.trans hb.tape, h.output.trans hb.output, Nat.le_trans hb.size h.size, fun i hi =>
    ((h.block i (Nat.lt_of_lt_of_le hi hb.size)).trans (puts_far ps w k (fun p hp e => by have := ha p hp; omega))).trans (hb.block i hi)⟩
def okc (w : World) (p : Pl) : Prop := (∃ u, w.cell? (adr p) = some u ∧ plain p.2.2 u) ∧ w.frozen? (adr p) = false
def okh (w : World) (q : (Nat × Nat) × Value) : Prop := w.cell? ⟨q.1.1, q.1.2, none⟩ = some q.2 ∧ ∃ A n c, q.2 = .slice A n c
theorem adr_ne {p q : Pl} (h : ¬ (p.1 = q.1 ∧ p.2.1 = q.2.1)) : adr p ≠ adr q := by
  intro e
  injection e with e1 e2
  exact h ⟨e1, e2⟩
theorem okc_set {w : World} {p q : Pl} (hp : okc w p) (hq : okc w q) (k : Int) : okc (w.setCell (adr p) (mkv p.2.2 k)) q := by
  refine ⟨?_, by rw [World.frozen?_setCell]; exact hq.2⟩
  obtain ⟨⟨u, hu, hpu⟩, _⟩ := hp
  obtain ⟨⟨v, hv, hpv⟩, _⟩ := hq
  by_cases c : p.1 = q.1 ∧ p.2.1 = q.2.1
  · have e : adr p = adr q := by unfold adr; rw [c.1, c.2]
    rw [e] at hu ⊢
    rw [hu] at hv
    cases hv
    exact ⟨_, World.cell?_setCell_same _ _ _ hu, by rw [plain_one hpv hpu]; exact plain_mkv _ _⟩
  · exact ⟨v, by rw [World.cell?_setCell_other (h := adr_ne c)]; exact hv, hpv⟩
theorem okh_set {w : World} {p : Pl} {q : (Nat × Nat) × Value} (hp : okc w p) (hq : okh w q) (k : Int) : okh (w.setCell (adr p) (mkv p.2.2 k)) q := by
  obtain ⟨⟨u, hu, hpu⟩, _⟩ := hp
  obtain ⟨hv, A, n, c, he⟩ := hq
  refine ⟨?_, A, n, c, he⟩
  rw [World.cell?_setCell_other]
  · exact hv
  · intro e
    rw [e, hv, he] at hu
    cases hu
    cases hb : p.2.2 <;> rw [hb] at hpu <;> obtain ⟨z, hz⟩ := hpu <;> cases hz
structure Pt (w : World) (hs : List ((Nat × Nat) × Value)) (ps : List Pl) : Prop where
  h : ∀ q ∈ hs, okh w q
  a : ∀ p ∈ ps, okc w p
theorem Pt.nil (w : World) : Pt w [] [] := ⟨fun _ h => by simp at h, fun _ h => by simp at h⟩
theorem Pt.app {w : World} {h1 h2 : List ((Nat × Nat) × Value)} {a1 a2 : List Pl} (x : Pt w h1 a1) (y : Pt w h2 a2) : Pt w (h1 ++ h2) (a1 ++ a2) :=
  ⟨fun q hq => (List.mem_append.1 hq).elim (x.h q) (y.h q), fun p hp => (List.mem_append.1 hp).elim (x.a p) (y.a p)⟩
theorem Pt.right {w : World} {h1 h2 : List ((Nat × Nat) × Value)} {a1 a2 : List Pl} (x : Pt w (h1 ++ h2) (a1 ++ a2)) : Pt w h2 a2 :=
  ⟨fun q hq => x.h q (List.mem_append_right _ hq), fun p hp => x.a p (List.mem_append_right _ hp)⟩
theorem Pt.puts {hs : List ((Nat × Nat) × Value)} {ps : List Pl} : ∀ (bs : List Pl) {w : World} (k : Int), Pt w hs ps → (∀ p ∈ bs, okc w p) → Pt (puts w bs k) hs ps
  | [], _, _, h, _ => h
  | p :: bs, w, k, h, hb => by
    have hp := hb p List.mem_cons_self
    exact Pt.puts bs (k + 1) ⟨fun q hq => okh_set hp (h.h q hq) k, fun q hq => okc_set hp (h.a q hq) k⟩ (fun q hq => okc_set hp (hb q (List.mem_cons_of_mem _ hq)) k)
theorem okc_block {w w' : World} {p : Pl} (h : okc w p) (hb : ∀ i, i < w.heap.size → w'.heap[i]? = w.heap[i]?) : okc w' p := by
  obtain ⟨⟨u, hu, hp⟩, hf⟩ := h
  have := hb _ (World.block_lt_of_cell? _ _ hu)
  exact ⟨⟨u, by rw [World.cell?_of_block this]; exact hu, hp⟩, by rw [World.frozen?_of_block this]; exact hf⟩
theorem okh_block {w w' : World} {q : (Nat × Nat) × Value} (h : okh w q) (hb : ∀ i, i < w.heap.size → w'.heap[i]? = w.heap[i]?) : okh w' q :=
  ⟨by rw [World.cell?_of_block (hb _ (World.block_lt_of_cell? _ _ h.1))]; exact h.1, h.2⟩
theorem Pt.block {w w' : World} {hs : List ((Nat × Nat) × Value)} {ps : List Pl} (h : Pt w hs ps) (hb : ∀ i, i < w.heap.size → w'.heap[i]? = w.heap[i]?) : Pt w' hs ps :=
  ⟨fun q hq => okh_block (h.h q hq) hb, fun p hp => okc_block (h.a p hp) hb⟩
theorem Pt.below {w w' : World} {hs : List ((Nat × Nat) × Value)} {ps : List Pl} (h : Pt w hs ps) (hb : Below w.heap.size w w') : Pt w' hs ps := h.block hb.block
theorem Pt.wr {w w' : World} {hs : List ((Nat × Nat) × Value)} {ps bs : List Pl} {k : Int} (h : Pt w hs ps) (hw : Wr w w' bs k) (hb : ∀ p ∈ bs, okc w p) : Pt w' hs ps :=
  (h.puts bs k hb).block (fun i hi => hw.block i (by rwa [puts_size] at hi))
theorem Pt.set {w : World} {hs : List ((Nat × Nat) × Value)} {ps : List Pl} (h : Pt w hs ps) {p : Pl} (hp : okc w p) (k : Int) : Pt (w.setCell (adr p) (mkv p.2.2 k)) hs ps :=
  ⟨fun q hq => okh_set hp (h.h q hq) k, fun q hq => okc_set hp (h.a q hq) k⟩
def Hs (w : World) (ps : List Pl) (k : Int) : Prop := ∀ (i : Nat) (p : Pl), ps[i]? = some p → w.cell? (adr p) = some (mkv p.2.2 (k + (i : Int)))
theorem Hs.block {w w' : World} {ps : List Pl} {k : Int} (h : Hs w ps k) (hb : ∀ i, i < w.heap.size → w'.heap[i]? = w.heap[i]?) : Hs w' ps k :=
  fun i p hp => by rw [World.cell?_of_block (hb _ (World.block_lt_of_cell? _ _ (h i p hp)))]; exact h i p hp
theorem Hs.below {w w' : World} {ps : List Pl} {k : Int} (h : Hs w ps k) (hb : Below w.heap.size w w') : Hs w' ps k := h.block hb.block
theorem Hs.head {w : World} {p : Pl} {ps : List Pl} {k : Int} (h : Hs w (p :: ps) k) : w.cell? (adr p) = some (mkv p.2.2 k) := by
  have := h 0 p rfl
  simpa using this
theorem Hs.right {w : World} {ps bs : List Pl} {k : Int} (h : Hs w (ps ++ bs) k) : Hs w bs (k + (ps.length : Int)) := fun i p hp => by
  have := h (ps.length + i) p (by rw [List.getElem?_append_right (by omega), Nat.add_sub_cancel_left]; exact hp)
  rw [this]
  congr 2
  omega
def apart (ps : List Pl) : Prop := (ps.map fun p => (p.1, p.2.1)).Nodup
theorem puts_cell : ∀ (l : List Pl) (w : World) (k : Int) (q : Pl), (∀ p ∈ l, ¬ (p.1 = q.1 ∧ p.2.1 = q.2.1)) → (puts w l k).cell? (adr q) = w.cell? (adr q)
  | [], _, _, _, _ => rfl
  | p :: l, w, k, q, h => by
    rw [puts, puts_cell l _ _ q (fun r hr => h r (List.mem_cons_of_mem _ hr)), World.cell?_setCell_other (h := adr_ne (h p List.mem_cons_self))]
theorem hs_puts : ∀ (ps : List Pl) {w : World} (k : Int), apart ps → (∀ p ∈ ps, okc w p) → Hs (puts w ps k) ps k
  | [], _, _, _, _ => fun i p h => by simp at h
  | q :: ps, w, k, hn, ho => by
    have hq := ho q List.mem_cons_self
    unfold apart at hn
    rw [List.map_cons, List.nodup_cons] at hn
    have ih := hs_puts ps (w := w.setCell (adr q) (mkv q.2.2 k)) (k + 1) hn.2 (fun p hp => okc_set hq (ho p (List.mem_cons_of_mem _ hp)) k)
    intro i p hp
    cases i with
    | zero =>
      simp only [List.getElem?_cons_zero, Option.some.injEq] at hp
      subst hp
      rw [puts, puts_cell ps _ _ q (fun r hr e => hn.1 (List.mem_map.2 ⟨r, hr, by rw [e.1, e.2]⟩))]
      obtain ⟨⟨u, hu, _⟩, _⟩ := hq
      rw [World.cell?_setCell_same _ _ _ hu]
      congr 2
      omega
    | succ i =>
      simp only [List.getElem?_cons_succ] at hp
      rw [puts, ih i p hp]
      congr 2
      omega
theorem Wr.hs {w w' : World} {ps : List Pl} {k : Int} (h : Wr w w' ps k) (hn : apart ps) (ho : ∀ p ∈ ps, okc w p) : Hs w' ps k :=
  (hs_puts ps k hn ho).block (fun i hi => h.block i (by rwa [puts_size] at hi))
structure Md where
  sz : Nat
  Sh : Nat → Nat → List ((Nat × Nat) × Value) → List Pl → Prop
namespace Md
def int : Md := ⟨1, fun g o hs ps => hs = [] ∧ ps = [(g, o, false)]⟩
def bool : Md := ⟨1, fun g o hs ps => hs = [] ∧ ps = [(g, o, true)]⟩
def pair (a b : Md) : Md := ⟨a.sz + b.sz, fun g o hs ps => ∃ h1 a1 h2 a2, a.Sh g o h1 a1 ∧ b.Sh g (o + a.sz) h2 a2 ∧ hs = h1 ++ h2 ∧ ps = a1 ++ a2⟩
def N (d : Md) (g : Nat) : Nat → Nat → List ((Nat × Nat) × Value) → List Pl → Prop
  | _, 0, hs, ps => hs = [] ∧ ps = []
  | j, n + 1, hs, ps => ∃ h1 a1 h2 a2, d.Sh g (j * d.sz) h1 a1 ∧ N d g (j + 1) n h2 a2 ∧ hs = h1 ++ h2 ∧ ps = a1 ++ a2
def Row (d : Md) (v : Value) (hs : List ((Nat × Nat) × Value)) (ps : List Pl) : Prop :=
  ∃ A n c, v = .slice A n c ∧ n ≤ c ∧ n ≤ 9223372036854775807 ∧ ((n = 0 ∧ hs = [] ∧ ps = []) ∨ ∃ g, A = some ⟨g, 0, none⟩ ∧ d.N g 0 n hs ps)
def Nr (d : Md) (A : Option Addr) (j n : Nat) (hs : List ((Nat × Nat) × Value)) (ps : List Pl) : Prop := (n = 0 ∧ hs = [] ∧ ps = []) ∨ ∃ g, A = some ⟨g, 0, none⟩ ∧ d.N g j n hs ps
theorem Nr_nil {d : Md} {A : Option Addr} {j : Nat} {hs : List ((Nat × Nat) × Value)} {ps : List Pl} (h : d.Nr A j 0 hs ps) : ps = [] := by
  rcases h with ⟨_, _, h⟩ | ⟨g, _, h⟩
  · exact h
  · exact h.2
theorem Nr_cons {d : Md} {A : Option Addr} {j n : Nat} {hs : List ((Nat × Nat) × Value)} {ps : List Pl} (h : d.Nr A j (n + 1) hs ps) :
    ∃ g, A = some ⟨g, 0, none⟩ ∧ ∃ h1 a1 h2 a2, d.Sh g (j * d.sz) h1 a1 ∧ d.Nr A (j + 1) n h2 a2 ∧ hs = h1 ++ h2 ∧ ps = a1 ++ a2 := by
  rcases h with ⟨h, _⟩ | ⟨g, hA, h1, a1, h2, a2, x, y, z⟩
  · cases h
  · exact ⟨g, hA, h1, a1, h2, a2, x, .inr ⟨g, hA, y⟩, z⟩
def slice (d : Md) : Md := ⟨1, fun g o hs ps => ∃ v h1, d.Row v h1 ps ∧ hs = ((g, o), v) :: h1⟩
end Md
end Go.Proofs.Ytmkiffemanmgcaa.Mk
end
section
namespace Go.Proofs.Ytmkiffemanmgcaa.Mk
open Go.RowKit Go.Proofs.YtmkiffemanmgcaaW.PrintWords Go.Proofs.YtmkiffemanmgcaaW.PrintLast
set_option linter.unusedVariables false
set_option linter.unusedSimpArgs false
theorem apart_nil : apart [] := List.nodup_nil
theorem apart_app {a b : List Pl} (ha : apart a) (hb : apart b) (h : ∀ p ∈ a, ∀ q ∈ b, ¬ (p.1 = q.1 ∧ p.2.1 = q.2.1)) : apart (a ++ b) := by
  unfold apart at *
  rw [List.map_append, List.nodup_append]
  refine ⟨ha, hb, fun x hx y hy e => ?_⟩
  obtain ⟨p, hp, rfl⟩ := List.mem_map.1 hx
  obtain ⟨q, hq, rfl⟩ := List.mem_map.1 hy
  injection e with e1 e2
  exact h p hp q hq ⟨e1, e2⟩
structure Br {α : Type} (d : Kd α) (m : Md) (c inn : α → Nat) (ex : α → Prop) : Prop where
  sz : m.sz = d.sz
  el : ∀ {w : World} {base : Nat} {ok : Nat → Prop} {x : α} {cs : List Value} {g o : Nat}, d.M w base ok x cs → (∀ k, ok k → k ≠ g) → (∀ j u, cs[j]? = some u → w.cell? ⟨g, o + j, none⟩ = some u) → (∀ j, w.frozen? ⟨g, o + j, none⟩ = false) →
    ∃ hs ps, m.Sh g o hs ps ∧ Pt w hs ps ∧ ps.length = c x ∧ (ex x → apart ps) ∧ (∀ p ∈ ps, (p.1 = g ∧ o ≤ p.2.1 ∧ p.2.1 < o + m.sz) ∨ (ok p.1 ∧ inn x ≠ 0)) ∧ ∀ q ∈ hs, q.1.1 = g ∨ ok q.1.1
namespace Br
variable {α β : Type}
theorem int : Br (Kd.int .i64) Md.int (fun _ => 1) (fun _ => 0) (fun _ => True) where
  sz := rfl
  el := by
    intro w base ok x cs g o h _ hc hf
    obtain rfl : cs = [.int .i64 x] := h
    refine ⟨[], [(g, o, false)], ⟨rfl, rfl⟩, ⟨fun _ h => by simp at h, fun p hp => ?_⟩, rfl, fun _ => by simp [apart], fun p hp => ?_, fun _ h => by simp at h⟩
    · obtain rfl := List.mem_singleton.1 hp
      exact ⟨⟨_, hc 0 _ rfl, x, rfl⟩, hf 0⟩
    · obtain rfl := List.mem_singleton.1 hp
      exact .inl ⟨rfl, Nat.le_refl _, Nat.lt_succ_self _⟩
theorem bool : Br Kd.bool Md.bool (fun _ => 1) (fun _ => 0) (fun _ => True) where
  sz := rfl
  el := by
    intro w base ok x cs g o h _ hc hf
    obtain rfl : cs = [.bool x] := h
    refine ⟨[], [(g, o, true)], ⟨rfl, rfl⟩, ⟨fun _ h => by simp at h, fun p hp => ?_⟩, rfl, fun _ => by simp [apart], fun p hp => ?_, fun _ h => by simp at h⟩
    · obtain rfl := List.mem_singleton.1 hp
      exact ⟨⟨_, hc 0 _ rfl, x, rfl⟩, hf 0⟩
    · obtain rfl := List.mem_singleton.1 hp
      exact .inl ⟨rfl, Nat.le_refl _, Nat.lt_succ_self _⟩
theorem pair {d1 : Kd α} {d2 : Kd β} {m1 m2 : Md} {c1 i1 : α → Nat} {c2 i2 : β → Nat} {e1 : α → Prop} {e2 : β → Prop} (h1 : Br d1 m1 c1 i1 e1) (h2 : Br d2 m2 c2 i2 e2) :
    Br (Kd.pair d1 d2) (Md.pair m1 m2) (fun x => c1 x.1 + c2 x.2) (fun x => i1 x.1 + i2 x.2) (fun x => e1 x.1 ∧ e2 x.2 ∧ (i1 x.1 = 0 ∨ i2 x.2 = 0)) where
  sz := by show m1.sz + m2.sz = d1.sz + d2.sz; rw [h1.sz, h2.sz]
  el := by
    rintro w base ok x cs g o ⟨u0, u1, rfl, hM1, hM2⟩ hg hc hf
    have hl := d1.K_len (d1.K_of_M hM1)
    obtain ⟨s1, a1, sh1, p1, l1, x1, b1, q1⟩ := h1.el (g := g) (o := o) hM1 hg (fun j u hu => hc j u (by rw [List.getElem?_append_left (List.getElem?_eq_some_iff.1 hu).1]; exact hu)) hf
    obtain ⟨s2, a2, sh2, p2, l2, x2, b2, q2⟩ := h2.el (g := g) (o := o + m1.sz) hM2 hg (fun j u hu => by
      have := hc (m1.sz + j) u (by rw [List.getElem?_append_right (by rw [hl, h1.sz]; omega), hl, h1.sz, Nat.add_sub_cancel_left]; exact hu)
      rw [← Nat.add_assoc] at this
      exact this) (fun j => by have := hf (m1.sz + j); rw [← Nat.add_assoc] at this; exact this)
    refine ⟨s1 ++ s2, a1 ++ a2, ⟨s1, a1, s2, a2, sh1, sh2, rfl, rfl⟩, p1.app p2, by rw [List.length_append, l1, l2], ?_, ?_, fun q hq => (List.mem_append.1 hq).elim (q1 q) (q2 q)⟩
    · rintro ⟨y1, y2, y3⟩
      refine apart_app (x1 y1) (x2 y2) (fun p hp q hq e => ?_)
      rcases b1 p hp with hp' | ⟨hp', hp2⟩
      · rcases b2 q hq with hq' | ⟨hq', _⟩
        · omega
        · exact hg _ hq' (by rw [← e.1]; exact hp'.1)
      · rcases b2 q hq with hq' | ⟨_, hq2⟩
        · exact hg _ hp' (by rw [e.1]; exact hq'.1)
        · exact y3.elim hp2 hq2
    · intro p hp
      show (p.1 = g ∧ o ≤ p.2.1 ∧ p.2.1 < o + (m1.sz + m2.sz)) ∨ _
      rcases List.mem_append.1 hp with hp | hp
      · rcases b1 p hp with hp' | hp'
        · exact .inl ⟨hp'.1, by omega, by omega⟩
        · exact .inr ⟨hp'.1, by have := hp'.2; omega⟩
      · rcases b2 p hp with hp' | hp'
        · exact .inl ⟨hp'.1, by omega, by omega⟩
        · exact .inr ⟨hp'.1, by have := hp'.2; omega⟩
theorem iso {d : Kd α} {m : Md} {c i : α → Nat} {e : α → Prop} (h : Br d m c i e) (f : β → α) : Br (Kd.iso d f) m (fun x => c (f x)) (fun x => i (f x)) (fun x => e (f x)) where
  sz := h.sz
  el := fun hM => h.el hM
end Br
section
variable {α : Type} {d : Kd α} {m : Md} {c inn : α → Nat} {ex : α → Prop}
def tot (c : α → Nat) (xs : List α) : Nat := (xs.map c).sum
theorem tot_one (xs : List α) : tot (fun _ => 1) xs = xs.length := by
  induction xs with
  | nil => rfl
  | cons x xs ih =>
    unfold tot at *
    rw [List.map_cons, List.sum_cons, ih, List.length_cons, Nat.add_comm]
theorem tot_drop (c : α → Nat) (xs : List α) (j : Nat) (h : j < xs.length) : tot c (xs.drop j) = c xs[j] + tot c (xs.drop (j + 1)) := by
  unfold tot
  rw [List.drop_eq_getElem_cons h, List.map_cons, List.sum_cons]
theorem row_n (hb : Br d m c inn ex) {w : World} {base g : Nat} {ok : Nat → Prop} {Q : Nat → Nat → Prop} (xs : List α)
    (E : ∀ i (h : i < xs.length), ∃ cs, d.M w base (fun k => ok k ∧ k ≠ g ∧ Q i k) xs[i] cs ∧ (∀ j u, cs[j]? = some u → w.cell? ⟨g, i * m.sz + j, none⟩ = some u) ∧ ∀ j, w.frozen? ⟨g, i * m.sz + j, none⟩ = false) :
    ∀ n j, j + n = xs.length → ∃ hs ps, m.N g j n hs ps ∧ Pt w hs ps ∧ ps.length = tot c (xs.drop j) ∧ (∀ q ∈ hs, q.1.1 = g ∨ ok q.1.1) ∧
      (∀ p ∈ ps, (p.1 = g ∧ j * m.sz ≤ p.2.1) ∨ (ok p.1 ∧ p.1 ≠ g ∧ ∃ i, j ≤ i ∧ Q i p.1 ∧ ∃ h : i < xs.length, inn xs[i] ≠ 0)) ∧
      ((∀ x ∈ xs, ex x) → ((∀ i i' k, Q i k → Q i' k → i = i') ∨ ∀ x ∈ xs, inn x = 0) → apart ps)
  | 0, j, e => ⟨[], [], ⟨rfl, rfl⟩, Pt.nil w, by
      rw [List.drop_eq_nil_of_le (by omega)]
      rfl, fun q hq => by simp at hq, fun p hp => by simp at hp, fun _ _ => apart_nil⟩
  | n + 1, j, e => by
    have hj : j < xs.length := by omega
    obtain ⟨cs, hM, hc, hf⟩ := E j hj
    obtain ⟨s1, a1, sh1, p1, l1, x1, b1, q1⟩ := hb.el (g := g) (o := j * m.sz) hM (fun k hk => hk.2.1) hc hf
    obtain ⟨s2, a2, sh2, p2, l2, q2, b2, x2⟩ := row_n hb xs E n (j + 1) (by omega)
    have hmul : (j + 1) * m.sz = j * m.sz + m.sz := Nat.succ_mul _ _
    refine ⟨s1 ++ s2, a1 ++ a2, ⟨s1, a1, s2, a2, sh1, sh2, rfl, rfl⟩, p1.app p2, by rw [List.length_append, l1, l2, tot_drop c xs j hj], fun q hq => (List.mem_append.1 hq).elim (fun h => (q1 q h).imp_right (·.1)) (q2 q), ?_, ?_⟩
    · intro p hp
      rcases List.mem_append.1 hp with hp | hp
      · rcases b1 p hp with hp' | hp'
        · exact .inl ⟨hp'.1, hp'.2.1⟩
        · exact .inr ⟨hp'.1.1, hp'.1.2.1, j, Nat.le_refl _, hp'.1.2.2, hj, hp'.2⟩
      · rcases b2 p hp with hp' | ⟨h1, h2, i, hi, hq, hl, hn⟩
        · exact .inl ⟨hp'.1, by omega⟩
        · exact .inr ⟨h1, h2, i, by omega, hq, hl, hn⟩
    · intro y1 y2
      refine apart_app (x1 (y1 _ (List.getElem_mem hj))) (x2 y1 y2) (fun p hp q hq e => ?_)
      rcases b1 p hp with hp' | hp'
      · rcases b2 q hq with hq' | hq'
        · omega
        · exact hq'.2.1 (by rw [← e.1]; exact hp'.1)
      · rcases b2 q hq with hq' | ⟨_, _, i, hi, hqi, hl, hn⟩
        · exact hp'.1.2.1 (by rw [e.1]; exact hq'.1)
        · rcases y2 with y2 | y2
          · have := y2 j i p.1 hp'.1.2.2 (by rw [e.1]; exact hqi)
            omega
          · exact hn (y2 _ (List.getElem_mem hl))
theorem row_R (hb : Br d m c inn ex) {e base : Nat} {w : World} {ok : Nat → Prop} {v : Value} {xs : List α} (h : d.R e w base ok v xs) :
    ∃ hs ps, m.Row v hs ps ∧ Pt w hs ps ∧ ps.length = tot c xs ∧ (∀ q ∈ hs, ok q.1.1) ∧ (∀ p ∈ ps, ok p.1 ∧ (some p.1 = v.ownBlock ∨ ∃ x ∈ xs, inn x ≠ 0)) ∧ ((∀ x ∈ xs, ex x) → (∀ x ∈ xs, inn x = 0) → apart ps) := by
  obtain ⟨A, cp, rfl, hle, hC⟩ := Kd.R_reads h
  have hmax : xs.length ≤ 9223372036854775807 := hC.2.1
  by_cases hp : 0 < xs.length
  · obtain ⟨g, cap, he, _, _, _⟩ := Kd.R_form h hp
    injection he with h1 h2 h3
    subst h1
    obtain ⟨z⟩ : Nonempty α := ⟨xs[0]⟩
    obtain ⟨hs, ps, hN, hPt, hl, hq0, hbk, hx⟩ := row_n hb (g := g) (ok := ok) (Q := fun _ _ => True) (base := base) (w := w) xs (fun i hi => by
      obtain ⟨cs, _, hM, hc, hf⟩ := Kd.R_elem h z (i : Int) (by omega) (by omega)
      rw [Int.toNat_natCast] at hM hc hf
      rw [List.getD_eq_getElem?_getD, List.getElem?_eq_getElem hi, Option.getD_some] at hM
      rw [← hb.sz] at hc hf
      exact ⟨cs, d.M_mono (fun k hk => ⟨hk.1, hk.2, trivial⟩) hM, hc, hf⟩) xs.length 0 (by omega)
    refine ⟨hs, ps, ⟨_, _, _, rfl, hle, hmax, .inr ⟨g, rfl, hN⟩⟩, hPt, by rw [hl, List.drop_zero], fun q hq => (hq0 q hq).elim (fun e => by rw [e]; exact h.1 g rfl) id, fun p hp => ?_, fun y1 y2 => hx y1 (.inr y2)⟩
    rcases hbk p hp with hp' | ⟨hp', _, i, _, _, hl, hn⟩
    · exact ⟨by rw [hp'.1]; exact h.1 g rfl, .inl (by rw [hp'.1]; rfl)⟩
    · exact ⟨hp', .inr ⟨_, List.getElem_mem hl, hn⟩⟩
  · have h0 : xs = [] := List.eq_nil_of_length_eq_zero (by omega)
    subst h0
    exact ⟨[], [], ⟨_, _, _, rfl, hle, hmax, .inl ⟨rfl, rfl, rfl⟩⟩, Pt.nil w, rfl, fun q hq => by simp at hq, fun p hp => by simp at hp, fun _ _ => apart_nil⟩
theorem row_S (hb : Br d m c inn ex) {e base : Nat} {w : World} {ok : Nat → Prop} {v : Value} {xs : List α} (h : Kd.S d e w base ok v xs) :
    ∃ hs ps, m.Row v hs ps ∧ Pt w hs ps ∧ ps.length = tot c xs ∧ (∀ q ∈ hs, ok q.1.1) ∧ (∀ p ∈ ps, ok p.1 ∧ (some p.1 = v.ownBlock ∨ ∃ x ∈ xs, inn x ≠ 0)) ∧ ((∀ x ∈ xs, ex x) → apart ps) := by
  have hR := Kd.S_R h
  obtain ⟨A, cp, rfl, hle, hC⟩ := Kd.R_reads hR
  have hmax : xs.length ≤ 9223372036854775807 := hC.2.1
  obtain ⟨f, hf_⟩ := h
  by_cases hp : 0 < xs.length
  · obtain ⟨g, cap, he, _, _, _⟩ := Kd.R_form hR hp
    injection he with h1 h2 h3
    subst h1
    obtain ⟨z⟩ : Nonempty α := ⟨xs[0]⟩
    obtain ⟨hs, ps, hN, hPt, hl, hq0, hbk, hx⟩ := row_n hb (g := g) (ok := ok) (Q := fun i k => f k = i) (base := base) (w := w) xs (fun i hi => by
      obtain ⟨cs, _, hM, hc, hf⟩ := Kd.R_elem hf_ (z, 0) (i : Int) (by omega) (by omega)
      rw [Int.toNat_natCast] at hM hc hf
      rw [List.getD_eq_getElem?_getD, Kd.zip_at (List.getElem?_eq_getElem hi), Option.getD_some] at hM
      rw [show (Kd.tag f d).sz = m.sz from hb.sz.symm] at hc hf
      exact ⟨cs, d.M_mono (fun k hk => ⟨hk.1.1, hk.1.2, hk.2⟩) hM, hc, hf⟩) xs.length 0 (by omega)
    refine ⟨hs, ps, ⟨_, _, _, rfl, hle, hmax, .inr ⟨g, rfl, hN⟩⟩, hPt, by rw [hl, List.drop_zero], fun q hq => (hq0 q hq).elim (fun e => by rw [e]; exact hR.1 g rfl) id, fun p hp => ?_, fun y1 => hx y1 (.inl fun i i' k h1 h2 => h1.symm.trans h2)⟩
    rcases hbk p hp with hp' | ⟨hp', _, i, _, _, hl, hn⟩
    · exact ⟨by rw [hp'.1]; exact hR.1 g rfl, .inl (by rw [hp'.1]; rfl)⟩
    · exact ⟨hp', .inr ⟨_, List.getElem_mem hl, hn⟩⟩
  · have h0 : xs = [] := List.eq_nil_of_length_eq_zero (by omega)
    subst h0
    exact ⟨[], [], ⟨_, _, _, rfl, hle, hmax, .inl ⟨rfl, rfl, rfl⟩⟩, Pt.nil w, rfl, fun q hq => by simp at hq, fun p hp => by simp at hp, fun _ => apart_nil⟩
theorem Br.slice (hb : Br d m c inn ex) (e : Nat) (h0 : ∀ x, inn x = 0) : Br (Kd.slice e d) (Md.slice m) (fun xs => tot c xs) (fun xs => tot c xs) (fun xs => ∀ x ∈ xs, ex x) where
  sz := rfl
  el := by
    rintro w base ok x cs g o ⟨v, rfl, hR⟩ hg hc hf
    obtain ⟨hs, ps, hr, hPt, hl, hq0, hbk, hx⟩ := row_R hb hR
    obtain ⟨A, n, cp, hv, _⟩ := hr
    refine ⟨((g, o), v) :: hs, ps, ⟨v, hs, ⟨A, n, cp, hv, by assumption⟩, rfl⟩, ⟨fun q hq => ?_, hPt.a⟩, hl, fun y => hx y (fun x _ => h0 x), fun p hp => .inr ⟨(hbk p hp).1, ?_⟩, fun q hq => ?_⟩
    · rcases List.mem_cons.1 hq with rfl | hq
      · exact ⟨hc 0 _ rfl, A, n, cp, hv⟩
      · exact hPt.h q hq
    · show tot c x ≠ 0
      have := List.length_pos_of_mem hp
      omega
    · rcases List.mem_cons.1 hq with rfl | hq
      · exact .inl rfl
      · exact .inr (hq0 q hq)
end
structure Sg (w : World) (k : Int) (wr : World) (pre : List Pl) (hs : List ((Nat × Nat) × Value)) (ps : List Pl) (kk : Int) : Prop where
  ek : kk = k + (pre.length : Int)
  pt : Pt wr hs ps
  wr : Wr w wr pre k
theorem Pt.sub {w : World} {hs h1 : List ((Nat × Nat) × Value)} {ps a1 : List Pl} (h : Pt w hs ps) (x : ∀ q ∈ h1, q ∈ hs) (y : ∀ q ∈ a1, q ∈ ps) : Pt w h1 a1 := ⟨fun q hq => h.h q (x q hq), fun q hq => h.a q (y q hq)⟩
namespace Sg
variable {w wr w2 : World} {k kk : Int} {pre ps qs a1 a2 : List Pl} {hs h1 h2 : List ((Nat × Nat) × Value)}
theorem start (h : Pt w hs ps) (k : Int) : Sg w k w [] hs ps k := ⟨by simp, h, Wr.refl w k⟩
theorem put (h : Sg w k wr pre hs ps kk) {b o : Nat} {t : Bool} (hm : (b, o, t) ∈ ps) {v : Value} (hv : v = mkv t kk) : Sg w k (wr.setCell ⟨b, o, none⟩ v) (pre ++ [(b, o, t)]) hs ps (kk + 1) := by
  subst hv
  refine ⟨by rw [h.ek, List.length_append, List.length_singleton]; omega, h.pt.set (p := (b, o, t)) (h.pt.a _ hm) kk, h.wr.put (b, o, t) h.ek⟩
theorem call (h : Sg w k wr pre hs ps kk) (hw : Wr wr w2 qs kk) (hq : ∀ q ∈ qs, q ∈ ps) : Sg w k w2 (pre ++ qs) hs ps (kk + (qs.length : Int)) :=
  ⟨by rw [h.ek, List.length_append]; omega, h.pt.wr hw (fun p hp => h.pt.a p (hq p hp)), h.wr.trans hw h.ek⟩
theorem below (h : Sg w k wr pre hs ps kk) (hb : Below wr.heap.size wr w2) : Sg w k w2 pre hs ps kk := ⟨h.ek, h.pt.below hb, h.wr.below hb⟩
theorem rest (h : Sg w k wr pre (h1 ++ h2) (a1 ++ a2) kk) : Sg w k wr pre h2 a2 kk := ⟨h.ek, h.pt.right, h.wr⟩
theorem cell (h : Sg w k wr pre hs ps kk) {b o : Nat} {t : Bool} (hm : (b, o, t) ∈ ps) : ∃ u, wr.cell? ⟨b, o, none⟩ = some u ∧ wr.frozen? ⟨b, o, none⟩ = false := by
  obtain ⟨⟨u, hu, _⟩, hf⟩ := h.pt.a _ hm
  exact ⟨u, hu, hf⟩
theorem head (h : Sg w k wr pre hs ps kk) {b o : Nat} {v : Value} (hm : ((b, o), v) ∈ hs) : wr.cell? ⟨b, o, none⟩ = some v := (h.pt.h _ hm).1
theorem sub (h : Sg w k wr pre hs ps kk) (x : ∀ q ∈ h1, q ∈ hs) (y : ∀ q ∈ a1, q ∈ ps) : Pt wr h1 a1 := h.pt.sub x y
theorem narrow (h : Sg w k wr pre hs ps kk) (x : ∀ q ∈ h1, q ∈ hs) (y : ∀ q ∈ a1, q ∈ ps) : Sg w k wr pre h1 a1 kk := ⟨h.ek, h.pt.sub x y, h.wr⟩
end Sg
theorem Wr.after {w wb w2 : World} {ps : List Pl} {k : Int} (hb : Below w.heap.size w wb) (h : Wr wb w2 ps k) : Wr w w2 ps k :=
  ⟨h.os.trans hb.os, h.tape.trans hb.tape, h.output.trans hb.output, Nat.le_trans hb.size h.size, fun i hi =>
    (h.block i (Nat.lt_of_lt_of_le hi hb.size)).trans (puts_cong ps k (hb.block i hi))⟩
theorem Md.Row_slice {d : Md} {v : Value} {hs : List ((Nat × Nat) × Value)} {ps : List Pl} (h : d.Row v hs ps) : ∃ A n c, v = .slice A n c := by
  obtain ⟨A, n, c, e, _⟩ := h
  exact ⟨A, n, c, e⟩
structure Sq (w : World) (k : Int) (wr : World) (pre : List Pl) (hs : List ((Nat × Nat) × Value)) (ps : List Pl) (kk : Int) : Prop where
  ek : kk = k + (pre.length : Int)
  pt : Pt wr hs ps
  hd : Hs wr ps kk
  bl : Below w.heap.size w wr
theorem Hs.tail {w : World} {p : Pl} {ps : List Pl} {k : Int} (h : Hs w (p :: ps) k) : Hs w ps (k + 1) := by
  have := Hs.right (ps := [p]) (bs := ps) h
  simpa using this
namespace Sq
variable {w wr w2 : World} {k kk : Int} {pre ps qs a1 a2 : List Pl} {hs h1 h2 : List ((Nat × Nat) × Value)} {p : Pl}
theorem start (h : Pt w hs ps) (g : Hs w ps k) : Sq w k w [] hs ps k := ⟨by simp, h, g, Below.refl _ _⟩
theorem cell {b o : Nat} {t : Bool} (h : Sq w k wr pre hs ((b, o, t) :: ps) kk) : wr.cell? ⟨b, o, none⟩ = some (mkv t kk) := h.hd.head (p := (b, o, t))
theorem tail (h : Sq w k wr pre hs (p :: ps) kk) : Sq w k wr (pre ++ [p]) hs ps (kk + 1) :=
  ⟨by rw [h.ek, List.length_append, List.length_singleton]; omega, ⟨h.pt.h, fun q hq => h.pt.a q (List.mem_cons_of_mem _ hq)⟩, h.hd.tail, h.bl⟩
theorem call (h : Sq w k wr pre hs (a1 ++ a2) kk) (hb : Below wr.heap.size wr w2) : Sq w k w2 (pre ++ a1) hs a2 (kk + (a1.length : Int)) :=
  ⟨by rw [h.ek, List.length_append]; omega, ⟨(h.pt.below hb).h, fun q hq => (h.pt.below hb).a q (List.mem_append_right _ hq)⟩, h.hd.right.below hb, h.bl.trans (hb.mono h.bl.size)⟩
theorem head (h : Sq w k wr pre hs ps kk) {b o : Nat} {v : Value} (hm : ((b, o), v) ∈ hs) : wr.cell? ⟨b, o, none⟩ = some v := (h.pt.h _ hm).1
theorem narrow (h : Sq w k wr pre hs ps kk) (x : ∀ q ∈ h1, q ∈ hs) : Sq w k wr pre h1 ps kk := ⟨h.ek, h.pt.sub x (fun _ hq => hq), h.hd, h.bl⟩
end Sq
end Go.Proofs.Ytmkiffemanmgcaa.Mk
end
section
namespace Go.Proofs.Ytmkiffemanmgcaa.Mk
open Go.RowKit Go.Proofs.YtmkiffemanmgcaaW.PrintWords Go.Proofs.YtmkiffemanmgcaaW.PrintLast
set_option linter.unusedVariables false
set_option linter.unusedSimpArgs false
def Bt (lo hi : Nat) (q : Nat) : Prop := lo ≤ q ∧ q < hi
abbrev Item := Nat × Nat × (World → Prop)
def Chn (n0 : Nat) (W : World) : List Item → Prop
  | [] => True
  | (lo, hi, P) :: L => n0 ≤ lo ∧ lo ≤ hi ∧ hi ≤ W.heap.size ∧ Foot P W (Bt lo hi) ∧ (∀ y ∈ L, y.2.1 ≤ lo) ∧ Chn n0 W L
theorem Chn.step {n0 : Nat} {W W' : World} {S : Nat → Prop} (hk : Kept W W' S) : ∀ {L : List Item}, (∀ y ∈ L, ∀ q, Bt y.1 y.2.1 q → ¬ S q) → Chn n0 W L → Chn n0 W' L
  | [], _, _ => trivial
  | (lo, hi, P) :: L, hd, ⟨h1, h2, h3, h4, h5, h6⟩ =>
    ⟨h1, h2, Nat.le_trans h3 hk.1, h4.step (fun k hk' hlt => hk.2 k hlt (hd _ List.mem_cons_self k hk')), h5, Chn.step hk (fun y hy => hd y (List.mem_cons_of_mem _ hy)) h6⟩
theorem Chn.lt {n0 : Nat} {W : World} : ∀ {L : List Item}, Chn n0 W L → ∀ y ∈ L, n0 ≤ y.1 ∧ y.1 ≤ y.2.1 ∧ y.2.1 ≤ W.heap.size
  | [], _, y, hy => by simp at hy
  | (lo, hi, P) :: L, ⟨h1, h2, h3, _, _, h6⟩, y, hy => by
    rcases List.mem_cons.1 hy with rfl | hy
    · exact ⟨h1, h2, h3⟩
    · exact Chn.lt h6 y hy
structure Ch (w W : World) (L : List Item) : Prop where
  b : Below w.heap.size w W
  c : Chn w.heap.size W L
namespace Ch
variable {w W W' : World} {L L1 L2 : List Item} {lo hi : Nat} {P P' : World → Prop}
theorem start (w : World) : Ch w w [] := ⟨Below.refl _ _, trivial⟩
theorem below (h : Ch w W L) (hb : Below W.heap.size W W') : Ch w W' L := ⟨below_step h.b hb, Chn.step (Kept.of_below hb (fun _ => False)) (fun _ _ _ _ h => h) h.c⟩
theorem drawn (h : Ch w W L) (hd : Drawn0 W W') : Ch w W' L := by
  obtain ⟨n, rfl⟩ := hd.out
  exact h.below (pw_below_drewN (Below.refl _ _) n)
theorem push (h : Ch w W L) (hb : Below W.heap.size W W') {Q : Nat → Nat → World → Prop} (hQ : Foot (Q W.heap.size W'.heap.size) W' (Bt W.heap.size W'.heap.size)) : ∃ lo hi, Ch w W' ((lo, hi, Q lo hi) :: L) :=
  ⟨W.heap.size, W'.heap.size, (h.below hb).b, h.b.size, hb.size, Nat.le_refl _, hQ, fun y hy => (h.c.lt y hy).2.2, (h.below hb).c⟩
theorem get (h : Ch w W L) : ∀ (i : Nat), L[i]? = some (lo, hi, P) → P W ∧ Foot P W (Bt lo hi) := by
  have key : ∀ {L : List Item}, Chn w.heap.size W L → ∀ (i : Nat), L[i]? = some (lo, hi, P) → P W ∧ Foot P W (Bt lo hi) := by
    intro L
    induction L with
    | nil => intro _ i e; simp at e
    | cons y L ih =>
      intro hc i e
      obtain ⟨a, b, Q⟩ := y
      cases i with
      | zero =>
        simp only [List.getElem?_cons_zero, Option.some.injEq, Prod.mk.injEq] at e
        obtain ⟨rfl, rfl, rfl⟩ := e
        exact ⟨hc.2.2.2.1.now, hc.2.2.2.1⟩
      | succ i => exact ih hc.2.2.2.2.2 i (by simpa using e)
  exact key h.c
theorem at_ (h : Ch w W L) (i : Nat) (e : L[i]? = some (lo, hi, P)) : P W := (h.get i e).1
theorem mark (h : Ch w W (L1 ++ (lo, hi, P) :: L2)) (hk : Kept W W' (Bt lo hi)) (hb : Below w.heap.size w W') (hP : Foot P' W' (Bt lo hi)) : Ch w W' (L1 ++ (lo, hi, P') :: L2) := by
  refine ⟨hb, ?_⟩
  have key : ∀ {L1 : List Item}, Chn w.heap.size W (L1 ++ (lo, hi, P) :: L2) → Chn w.heap.size W' (L1 ++ (lo, hi, P') :: L2) := by
    intro L1
    induction L1 with
    | nil =>
      rintro ⟨h1, h2, h3, h4, h5, h6⟩
      exact ⟨h1, h2, Nat.le_trans h3 hk.1, hP, h5, Chn.step hk (fun y hy q hq hq2 => by have := h5 y hy; have := hq.2; have := hq2.1; omega) h6⟩
    | cons y L1 ih =>
      obtain ⟨a, b, Q⟩ := y
      rintro ⟨h1, h2, h3, h4, h5, h6⟩
      refine ⟨h1, h2, Nat.le_trans h3 hk.1, h4.step (fun k hk' hlt => hk.2 k hlt (fun hq => ?_)), ?_, ih h6⟩
      · have := h5 (lo, hi, P) (List.mem_append_right _ List.mem_cons_self)
        have := hk'.1
        have := hq.2
        simp only at *
        omega
      · intro y hy
        rcases List.mem_append.1 hy with hy | hy
        · exact h5 y (List.mem_append_left _ hy)
        · rcases List.mem_cons.1 hy with rfl | hy
          · exact h5 (lo, hi, P) (List.mem_append_right _ List.mem_cons_self)
          · exact h5 y (List.mem_append_right _ (List.mem_cons_of_mem _ hy))
  exact key h.c
theorem lt_ (h : Ch w W (L1 ++ (lo, hi, P) :: L2)) : w.heap.size ≤ lo := (h.c.lt (lo, hi, P) (List.mem_append_right _ List.mem_cons_self)).1
theorem wr {ps : List Pl} {k : Int} (h : Ch w W (L1 ++ (lo, hi, P) :: L2)) (hw : Wr W W' ps k) (hp : ∀ p ∈ ps, Bt lo hi p.1) (hP : Foot P' W' (Bt lo hi)) : Ch w W' (L1 ++ (lo, hi, P') :: L2) :=
  h.mark (hw.kept hp) (hw.under h.b (fun p hq => Nat.le_trans h.lt_ (hp p hq).1)) hP
theorem wr0 {ps : List Pl} {k : Int} (h : Ch w W (L1 ++ (lo, hi, P) :: L2)) (hw : Wr W W' ps k) (hp : ∀ p ∈ ps, Bt lo hi p.1) : Ch w W' (L1 ++ (lo, hi, fun _ => True) :: L2) :=
  h.wr hw hp (fun _ _ => trivial)
end Ch
section
variable {α : Type} {d : Kd α} {e : Nat} {W W' : World} {lo hi : Nat} {v : Value} {xs : List α}
theorem foot_R (h : d.R e W lo (Bt lo hi) v xs) : Foot (fun U => d.R e U lo (Bt lo hi) v xs) W (Bt lo hi) := fun _ hW => Kd.R_step h hW
theorem foot_S (h : Kd.S d e W lo (Bt lo hi) v xs) : Foot (fun U => Kd.S d e U lo (Bt lo hi) v xs) W (Bt lo hi) := fun _ hW => Kd.S_step h hW
theorem in_R {ok : Nat → Prop} (h : d.R e W' W.heap.size ok v xs) : d.R e W' W.heap.size (Bt W.heap.size W'.heap.size) v xs := Kd.R_mono (Kd.R_bound h) (fun _ hk => ⟨hk.2.1, hk.2.2.1⟩)
theorem in_S {ok : Nat → Prop} (h : Kd.S d e W' W.heap.size ok v xs) : Kd.S d e W' W.heap.size (Bt W.heap.size W'.heap.size) v xs := Kd.S_mono (Kd.S_bound h) (fun _ hk => ⟨hk.2.1, hk.2.2.1⟩)
theorem foot_and {P Q : World → Prop} {ok : Nat → Prop} (h : Foot P W ok) (g : Foot Q W ok) : Foot (fun U => P U ∧ Q U) W ok := fun U hU => ⟨h U hU, g U hU⟩
end
theorem foot_blk {W : World} {g : Nat} {o : Obj} {lo hi : Nat} (h : W.heap[g]? = some o) (hg : Bt lo hi g) : Foot (fun U => U.heap[g]? = some o) W (Bt lo hi) := fun _ hU => (hU g hg (blk_lt h)).trans h
theorem foot_pt {W : World} {hs : List ((Nat × Nat) × Value)} {ps : List Pl} {ok : Nat → Prop} (h : Pt W hs ps) (h1 : ∀ q ∈ hs, ok q.1.1) (h2 : ∀ p ∈ ps, ok p.1) : Foot (fun U => Pt U hs ps) W ok := fun U hU => by
  refine ⟨fun q hq => ?_, fun p hp => ?_⟩
  · have a := h.h q hq
    exact ⟨by rw [World.cell?_of_block (hU _ (h1 q hq) (World.block_lt_of_cell? _ _ a.1))]; exact a.1, a.2⟩
  · obtain ⟨⟨u, hu, hpu⟩, hf⟩ := h.a p hp
    have e := hU _ (h2 p hp) (World.block_lt_of_cell? _ _ hu)
    exact ⟨⟨u, by rw [World.cell?_of_block e]; exact hu, hpu⟩, by rw [World.frozen?_of_block e]; exact hf⟩
theorem foot_hs {W : World} {ps : List Pl} {k : Int} {ok : Nat → Prop} (h : Hs W ps k) (h2 : ∀ p ∈ ps, ok p.1) : Foot (fun U => Hs U ps k) W ok := fun U hU i p hp => by
  rw [World.cell?_of_block (hU _ (h2 p (List.mem_of_getElem? hp)) (World.block_lt_of_cell? _ _ (h i p hp)))]
  exact h i p hp
theorem Ch.box {w W : World} {L : List Item} (h : Ch w W L) (o : Obj) : Ch w (W.alloc o) ((W.heap.size, W.heap.size + 1, fun U => U.heap[W.heap.size]? = some o) :: L) := by
  have hb := below_alloc (Below.refl W.heap.size W) o
  refine ⟨(h.below hb).b, h.b.size, Nat.le_succ _, by simp, foot_blk (blk_new W o) ⟨Nat.le_refl _, Nat.lt_succ_self _⟩, fun y hy => (h.c.lt y hy).2.2, (h.below hb).c⟩
end Go.Proofs.Ytmkiffemanmgcaa.Mk
end
section
namespace Go.Proofs.Ytmkiffemanmgcaa.Mk
open Go.RowKit Go.Proofs.Ytmkiffemanmgcaa.P Go.Proofs.YtmkiffemanmgcaaW.PrintWords Go.Proofs.YtmkiffemanmgcaaW.PrintLast Go.Proofs.YtmkiffemanmgcaaW.PrintMore
set_option linter.unusedVariables false
set_option linter.unusedSimpArgs false
def mdBroker : Md := Md.pair Md.int (Md.pair Md.int (Md.bool))
def pcBroker (x : S67) : Nat := 1 + (1 + (1))
def piBroker (x : S67) : Nat := 0 + (0 + (0))
def peBroker (x : S67) : Prop := True ∧ (True ∧ (True) ∧ (0 = 0 ∨ 0 = 0)) ∧ (0 = 0 ∨ 0 + (0) = 0)
theorem brBroker : Br k67 mdBroker pcBroker piBroker peBroker := (Br.pair Br.int (Br.pair Br.int (Br.bool))).iso (fun x : S67 => (x.f0, x.f1, x.f2))
theorem mdBroker_open {g o : Nat} {hs : List ((Nat × Nat) × Value)} {ps : List Pl} (h : mdBroker.Sh g o hs ps) : hs = [] ∧ ps = [(g, o, false)] ++ [(g, o + 1, false)] ++ [(g, o + 2, true)] := by
  obtain ⟨_, _, _, _, ⟨rfl, rfl⟩, ⟨_, _, _, _, ⟨rfl, rfl⟩, ⟨rfl, rfl⟩, rfl, rfl⟩, rfl, rfl⟩ := h
  exact ⟨by simp [mdBroker, Md.pair, Md.int, Md.bool, Md.slice, Nat.add_assoc], by simp [mdBroker, Md.pair, Md.int, Md.bool, Md.slice, Nat.add_assoc]⟩
set_option maxHeartbeats 4000000 in
set_option maxRecDepth 100000 in
theorem markBrokerS_ok (v : Value) (hs : List ((Nat × Nat) × Value)) (ps : List Pl) (k : Int) (w : World) (hr : Md.Row (mdBroker) v hs ps) (hp : Pt w hs ps) (h0 : 0 ≤ k) (h1 : k + (ps.length : Int) ≤ 1000000000) :
    Calls Try.prog 48 #[v, .int .i64 k] w fun e w' => e = .returned (.int .i64 (k + (ps.length : Int))) ∧ Wr w w' ps k := by
  obtain ⟨A, n, c, rfl, hnc, hmax, hN0⟩ := hr
  have HN : Aside0 (Md.Nr (mdBroker) A 0 n hs ps) := ⟨hN0⟩
  have HG := Aside0.mk (Sg.start hp k)
  clear hN0 hp hnc
  go_enter Try.func48, Try.ntmps48
  go_wp2
  go_loopg [1, 5] n (fun kq v1 v5 w' => ∃ (j : Nat) (kk : Int) (pre : List Pl) (hs1 : List ((Nat × Nat) × Value)) (ps1 : List Pl), v1 = .int .i64 kk ∧ v5 = .int .i64 (j : Int) ∧ Aside0 (j + kq = n) ∧ Aside0 (ps = pre ++ ps1) ∧ Aside0 (Md.Nr (mdBroker) A j kq hs1 ps1) ∧ Aside0 (Sg w k w' pre hs1 ps1 kk))
  case atStart => exact ⟨0, k, [], hs, ps, rfl, rfl, ⟨by omega⟩, ⟨rfl⟩, HN, HG⟩
  case round =>
    clear HN HG
    obtain ⟨j, kk, pre, hs1, ps1, rfl, rfl, HJ, HS, HN, HG⟩ := hrel
    cases gk with
    | zero =>
      have hd : decide ((j : Int) < (n : Int)) = false := decide_eq_false (by have := HJ.out; omega)
      have hd2 : decide (j < n) = false := decide_eq_false (by have := HJ.out; omega)
      go_wp2
      go_ret
      have e0 := Md.Nr_nil HN.out
      have e1 := HS.out
      subst e0
      rw [List.append_nil] at e1
      subst e1
      exact ⟨by rw [HG.out.ek]; rfl, HG.out.wr⟩
    | succ m =>
      have hd : decide ((j : Int) < (n : Int)) = true := decide_eq_true (by have := HJ.out; omega)
      have hd2 : decide (j < n) = true := decide_eq_true (by have := HJ.out; omega)
      have hlt : j < n := by have := HJ.out; omega
      have hlt2 : (j : Int) < (n : Int) := by omega
      obtain ⟨g, rfl, s1, a1, s2, a2, hsh, hn2, rfl, rfl⟩ := Md.Nr_cons HN.out
      clear HN
      have HN2 := Aside0.mk hn2
      clear hn2
      obtain ⟨rfl, rfl⟩ := mdBroker_open (show mdBroker.Sh g (j * 3) s1 a1 from hsh)
      have hk0 : 0 ≤ kk := by have := HG.out.ek; omega
      have hk1 : kk ≤ 1000000000 := by have := HG.out.ek; have := HS.out; subst this; simp only [List.length_append] at h1; omega
      obtain ⟨u0_0, x0_0, f0_0⟩ := HG.out.cell (b := g) (o := j * 3) (t := false) (by simp)
      obtain ⟨u0_1, x0_1, f0_1⟩ := HG.out.cell (b := g) (o := j * 3 + 1) (t := false) (by simp)
      obtain ⟨u0_2, x0_2, f0_2⟩ := HG.out.cell (b := g) (o := j * 3 + 2) (t := true) (by simp)
      go_wp2
      go_roundg m
      case measure => omega
      case rel =>
        have HZ := (Sg.put (Sg.put (Sg.put HG.out (b := g) (o := j * 3) (t := false) (by simp) rfl) (b := g) (o := j * 3 + 1) (t := false) (by simp) rfl) (b := g) (o := j * 3 + 2) (t := true) (by simp) rfl).narrow (h1 := s2) (a1 := a2) (by intro q_ hq_; simp [hq_]) (by intro q_ hq_; simp [hq_])
        exact ⟨j + 1, _, _, s2, a2, rfl, by go_num, ⟨by have := HJ.out; omega⟩, ⟨by rw [HS.out]; simp⟩, HN2, ⟨HZ⟩⟩
def mdPartition : Md := Md.pair (Md.slice Md.int) (Md.pair (Md.slice Md.int) (Md.pair Md.int (Md.pair Md.int (Md.int))))
def pcPartition (x : S85) : Nat := tot (fun _ => 1) x.f0 + (tot (fun _ => 1) x.f1 + (1 + (1 + (1))))
def piPartition (x : S85) : Nat := tot (fun _ => 1) x.f0 + (tot (fun _ => 1) x.f1 + (0 + (0 + (0))))
def pePartition (x : S85) : Prop := (∀ y ∈ x.f0, True) ∧ ((∀ y ∈ x.f1, True) ∧ (True ∧ (True ∧ (True) ∧ (0 = 0 ∨ 0 = 0)) ∧ (0 = 0 ∨ 0 + (0) = 0)) ∧ (tot (fun _ => 1) x.f1 = 0 ∨ 0 + (0 + (0)) = 0)) ∧ (tot (fun _ => 1) x.f0 = 0 ∨ tot (fun _ => 1) x.f1 + (0 + (0 + (0))) = 0)
theorem brPartition : Br k85 mdPartition pcPartition piPartition pePartition := (Br.pair (Br.slice Br.int 3 (fun _ => rfl)) (Br.pair (Br.slice Br.int 3 (fun _ => rfl)) (Br.pair Br.int (Br.pair Br.int (Br.int))))).iso (fun x : S85 => (x.f0, x.f1, x.f2, x.f3, x.f4))
theorem mdPartition_open {g o : Nat} {hs : List ((Nat × Nat) × Value)} {ps : List Pl} (h : mdPartition.Sh g o hs ps) : ∃ v0 h0 b0 v1 h1 b1, Md.int.Row v0 h0 b0 ∧ Md.int.Row v1 h1 b1 ∧ hs = (((g, o), v0) :: h0) ++ (((g, o + 1), v1) :: h1) ∧ ps = b0 ++ b1 ++ [(g, o + 2, false)] ++ [(g, o + 3, false)] ++ [(g, o + 4, false)] := by
  obtain ⟨_, b0, _, _, ⟨v0, h0, r0, rfl⟩, ⟨_, b1, _, _, ⟨v1, h1, r1, rfl⟩, ⟨_, _, _, _, ⟨rfl, rfl⟩, ⟨_, _, _, _, ⟨rfl, rfl⟩, ⟨rfl, rfl⟩, rfl, rfl⟩, rfl, rfl⟩, rfl, rfl⟩, rfl, rfl⟩ := h
  exact ⟨v0, h0, b0, v1, h1, b1, r0, r1, by simp [mdPartition, Md.pair, Md.int, Md.bool, Md.slice, Nat.add_assoc], by simp [mdPartition, Md.pair, Md.int, Md.bool, Md.slice, Nat.add_assoc]⟩
set_option maxHeartbeats 4000000 in
set_option maxRecDepth 100000 in
theorem markIntS_ok (v : Value) (hs : List ((Nat × Nat) × Value)) (ps : List Pl) (k : Int) (w : World) (hr : Md.Row (Md.int) v hs ps) (hp : Pt w hs ps) (h0 : 0 ≤ k) (h1 : k + (ps.length : Int) ≤ 1000000000) :
    Calls Try.prog 29 #[v, .int .i64 k] w fun e w' => e = .returned (.int .i64 (k + (ps.length : Int))) ∧ Wr w w' ps k := by
  obtain ⟨A, n, c, rfl, hnc, hmax, hN0⟩ := hr
  have HN : Aside0 (Md.Nr (Md.int) A 0 n hs ps) := ⟨hN0⟩
  have HG := Aside0.mk (Sg.start hp k)
  clear hN0 hp hnc
  go_enter Try.func29, Try.ntmps29
  go_wp2
  go_loopg [1, 5] n (fun kq v1 v5 w' => ∃ (j : Nat) (kk : Int) (pre : List Pl) (hs1 : List ((Nat × Nat) × Value)) (ps1 : List Pl), v1 = .int .i64 kk ∧ v5 = .int .i64 (j : Int) ∧ Aside0 (j + kq = n) ∧ Aside0 (ps = pre ++ ps1) ∧ Aside0 (Md.Nr (Md.int) A j kq hs1 ps1) ∧ Aside0 (Sg w k w' pre hs1 ps1 kk))
  case atStart => exact ⟨0, k, [], hs, ps, rfl, rfl, ⟨by omega⟩, ⟨rfl⟩, HN, HG⟩
  case round =>
    clear HN HG
    obtain ⟨j, kk, pre, hs1, ps1, rfl, rfl, HJ, HS, HN, HG⟩ := hrel
    cases gk with
    | zero =>
      have hd : decide ((j : Int) < (n : Int)) = false := decide_eq_false (by have := HJ.out; omega)
      have hd2 : decide (j < n) = false := decide_eq_false (by have := HJ.out; omega)
      go_wp2
      go_ret
      have e0 := Md.Nr_nil HN.out
      have e1 := HS.out
      subst e0
      rw [List.append_nil] at e1
      subst e1
      exact ⟨by rw [HG.out.ek]; rfl, HG.out.wr⟩
    | succ m =>
      have hd : decide ((j : Int) < (n : Int)) = true := decide_eq_true (by have := HJ.out; omega)
      have hd2 : decide (j < n) = true := decide_eq_true (by have := HJ.out; omega)
      have hlt : j < n := by have := HJ.out; omega
      have hlt2 : (j : Int) < (n : Int) := by omega
      obtain ⟨g, rfl, s1, a1, s2, a2, hsh, hn2, rfl, rfl⟩ := Md.Nr_cons HN.out
      clear HN
      have HN2 := Aside0.mk hn2
      clear hn2
      obtain ⟨rfl, rfl⟩ := (show (Md.int).Sh g (j * 1) s1 a1 from hsh)
      simp only [Nat.mul_one] at HG HS
      have hk0 : 0 ≤ kk := by have := HG.out.ek; omega
      have hk1 : kk ≤ 1000000000 := by have := HG.out.ek; have := HS.out; subst this; simp only [List.length_append] at h1; omega
      obtain ⟨u0_0, x0_0, f0_0⟩ := HG.out.cell (b := g) (o := j) (t := false) (by simp)
      go_wp2
      go_roundg m
      case measure => omega
      case rel =>
        have HZ := (Sg.put HG.out (b := g) (o := j) (t := false) (by simp) rfl).narrow (h1 := s2) (a1 := a2) (by intro q_ hq_; simp [hq_]) (by intro q_ hq_; simp [hq_])
        exact ⟨j + 1, _, _, s2, a2, rfl, by go_num, ⟨by have := HJ.out; omega⟩, ⟨by rw [HS.out]; simp⟩, HN2, ⟨HZ⟩⟩
set_option maxHeartbeats 4000000 in
set_option maxRecDepth 100000 in
theorem markPartitionS_ok (v : Value) (hs : List ((Nat × Nat) × Value)) (ps : List Pl) (k : Int) (w : World) (hr : Md.Row (mdPartition) v hs ps) (hp : Pt w hs ps) (h0 : 0 ≤ k) (h1 : k + (ps.length : Int) ≤ 1000000000) :
    Calls Try.prog 49 #[v, .int .i64 k] w fun e w' => e = .returned (.int .i64 (k + (ps.length : Int))) ∧ Wr w w' ps k := by
  obtain ⟨A, n, c, rfl, hnc, hmax, hN0⟩ := hr
  have HN : Aside0 (Md.Nr (mdPartition) A 0 n hs ps) := ⟨hN0⟩
  have HG := Aside0.mk (Sg.start hp k)
  clear hN0 hp hnc
  go_enter Try.func49, Try.ntmps49
  go_wp2
  go_loopg [1, 5] n (fun kq v1 v5 w' => ∃ (j : Nat) (kk : Int) (pre : List Pl) (hs1 : List ((Nat × Nat) × Value)) (ps1 : List Pl), v1 = .int .i64 kk ∧ v5 = .int .i64 (j : Int) ∧ Aside0 (j + kq = n) ∧ Aside0 (ps = pre ++ ps1) ∧ Aside0 (Md.Nr (mdPartition) A j kq hs1 ps1) ∧ Aside0 (Sg w k w' pre hs1 ps1 kk))
  case atStart => exact ⟨0, k, [], hs, ps, rfl, rfl, ⟨by omega⟩, ⟨rfl⟩, HN, HG⟩
  case round =>
    clear HN HG
    obtain ⟨j, kk, pre, hs1, ps1, rfl, rfl, HJ, HS, HN, HG⟩ := hrel
    cases gk with
    | zero =>
      have hd : decide ((j : Int) < (n : Int)) = false := decide_eq_false (by have := HJ.out; omega)
      have hd2 : decide (j < n) = false := decide_eq_false (by have := HJ.out; omega)
      go_wp2
      go_ret
      have e0 := Md.Nr_nil HN.out
      have e1 := HS.out
      subst e0
      rw [List.append_nil] at e1
      subst e1
      exact ⟨by rw [HG.out.ek]; rfl, HG.out.wr⟩
    | succ m =>
      have hd : decide ((j : Int) < (n : Int)) = true := decide_eq_true (by have := HJ.out; omega)
      have hd2 : decide (j < n) = true := decide_eq_true (by have := HJ.out; omega)
      have hlt : j < n := by have := HJ.out; omega
      have hlt2 : (j : Int) < (n : Int) := by omega
      obtain ⟨g, rfl, s1, a1, s2, a2, hsh, hn2, rfl, rfl⟩ := Md.Nr_cons HN.out
      clear HN
      have HN2 := Aside0.mk hn2
      clear hn2
      obtain ⟨v0, h0, b0, v1, h1, b1, r0, r1, rfl, rfl⟩ := mdPartition_open (show mdPartition.Sh g (j * 5) s1 a1 from hsh)
      obtain ⟨A0, n0, c0, rfl⟩ := Md.Row_slice r0
      have R0 := Aside0.mk r0
      clear r0
      obtain ⟨A1, n1, c1, rfl⟩ := Md.Row_slice r1
      have R1 := Aside0.mk r1
      clear r1
      have hk0 : 0 ≤ kk := by have := HG.out.ek; omega
      have hk1 : kk ≤ 1000000000 := by have := HG.out.ek; have := HS.out; subst this; simp only [List.length_append] at h1; omega
      have x0_0 : wr.cell? ⟨g, j * 5, none⟩ = some (.slice A0 n0 c0) := HG.out.head (by simp)
      have x0_1 : wr.cell? ⟨g, j * 5 + 1, none⟩ = some (.slice A1 n1 c1) := HG.out.head (by simp)
      obtain ⟨u0_2, x0_2, f0_2⟩ := HG.out.cell (b := g) (o := j * 5 + 2) (t := false) (by simp)
      obtain ⟨u0_3, x0_3, f0_3⟩ := HG.out.cell (b := g) (o := j * 5 + 3) (t := false) (by simp)
      obtain ⟨u0_4, x0_4, f0_4⟩ := HG.out.cell (b := g) (o := j * 5 + 4) (t := false) (by simp)
      go_wp2_with fail
      have HG1 := Aside0.mk HG.out
      refine (markIntS_ok _ h0 b0 _ _ R0.out (HG1.out.sub (by intro q_ hq_; simp [hq_]) (by intro q_ hq_; simp [hq_])) (by omega) (by have := HG1.out.ek; have := HS.out; subst this; simp only [List.length_append, List.length_cons, List.length_nil] at *; omega)).mono ?_
      rintro e w1 ⟨rfl, hw⟩
      have HC1 := Aside0.mk (HG1.out.call hw (by intro q_ hq_; simp [hq_]))
      obtain ⟨kq1, hkq⟩ : ∃ kq_ : Int, kq_ = kk + (b0.length : Int) := ⟨_, rfl⟩
      rw [← hkq] at HC1 ⊢
      have hq0_1 : 0 ≤ kq1 := by omega
      have hq1_1 : kq1 ≤ 1000000000 := by have := HC1.out.ek; have := HS.out; subst this; simp only [List.length_append, List.length_cons, List.length_nil] at *; omega
      clear hkq hw
      clear x0_0 x0_1 x0_2 f0_2 x0_3 f0_3 x0_4 f0_4
      have x1_0 : w1.cell? ⟨g, j * 5, none⟩ = some (.slice A0 n0 c0) := HC1.out.head (by simp)
      have x1_1 : w1.cell? ⟨g, j * 5 + 1, none⟩ = some (.slice A1 n1 c1) := HC1.out.head (by simp)
      obtain ⟨u1_2, x1_2, f1_2⟩ := HC1.out.cell (b := g) (o := j * 5 + 2) (t := false) (by simp)
      obtain ⟨u1_3, x1_3, f1_3⟩ := HC1.out.cell (b := g) (o := j * 5 + 3) (t := false) (by simp)
      obtain ⟨u1_4, x1_4, f1_4⟩ := HC1.out.cell (b := g) (o := j * 5 + 4) (t := false) (by simp)
      go_wp2_with fail
      have HG2 := Aside0.mk HC1.out
      refine (markIntS_ok _ h1 b1 _ _ R1.out (HG2.out.sub (by intro q_ hq_; simp [hq_]) (by intro q_ hq_; simp [hq_])) (by omega) (by have := HG2.out.ek; have := HS.out; subst this; simp only [List.length_append, List.length_cons, List.length_nil] at *; omega)).mono ?_
      rintro e w2 ⟨rfl, hw⟩
      have HC2 := Aside0.mk (HG2.out.call hw (by intro q_ hq_; simp [hq_]))
      obtain ⟨kq2, hkq⟩ : ∃ kq_ : Int, kq_ = kq1 + (b1.length : Int) := ⟨_, rfl⟩
      rw [← hkq] at HC2 ⊢
      have hq0_2 : 0 ≤ kq2 := by omega
      have hq1_2 : kq2 ≤ 1000000000 := by have := HC2.out.ek; have := HS.out; subst this; simp only [List.length_append, List.length_cons, List.length_nil] at *; omega
      clear hkq hw
      clear x1_0 x1_1 x1_2 f1_2 x1_3 f1_3 x1_4 f1_4
      have x2_0 : w2.cell? ⟨g, j * 5, none⟩ = some (.slice A0 n0 c0) := HC2.out.head (by simp)
      have x2_1 : w2.cell? ⟨g, j * 5 + 1, none⟩ = some (.slice A1 n1 c1) := HC2.out.head (by simp)
      obtain ⟨u2_2, x2_2, f2_2⟩ := HC2.out.cell (b := g) (o := j * 5 + 2) (t := false) (by simp)
      obtain ⟨u2_3, x2_3, f2_3⟩ := HC2.out.cell (b := g) (o := j * 5 + 3) (t := false) (by simp)
      obtain ⟨u2_4, x2_4, f2_4⟩ := HC2.out.cell (b := g) (o := j * 5 + 4) (t := false) (by simp)
      go_wp2
      go_roundg m
      case measure => omega
      case rel =>
        have HZ := (Sg.put (Sg.put (Sg.put HC2.out (b := g) (o := j * 5 + 2) (t := false) (by simp) rfl) (b := g) (o := j * 5 + 3) (t := false) (by simp) rfl) (b := g) (o := j * 5 + 4) (t := false) (by simp) rfl).narrow (h1 := s2) (a1 := a2) (by intro q_ hq_; simp [hq_]) (by intro q_ hq_; simp [hq_])
        exact ⟨j + 1, _, _, s2, a2, rfl, by go_num, ⟨by have := HJ.out; omega⟩, ⟨by rw [HS.out]; simp⟩, HN2, ⟨HZ⟩⟩
set_option maxHeartbeats 4000000 in
set_option maxRecDepth 100000 in
theorem markControl_ok (v0 : Value) (s0 : List ((Nat × Nat) × Value)) (b0 : List Pl) (v1 : Value) (s1 : List ((Nat × Nat) × Value)) (b1 : List Pl) (z2 : Int) (k : Int) (w : World) (r0 : Md.Row (mdBroker) v0 s0 b0) (r1 : Md.Row (mdPartition) v1 s1 b1) (p0 : Pt w s0 b0) (p1 : Pt w s1 b1) (h0 : 0 ≤ k) (h1 : k + ((b0 ++ b1).length : Int) ≤ 1000000000) :
    Calls Try.prog 15 #[.agg #[v0, v1, .int .i64 z2], .int .i64 k] w fun e w' => e = .returned (.int .i64 (k + ((b0 ++ b1).length : Int))) ∧ Wr w w' (b0 ++ b1) k := by
  obtain ⟨A0, n0, c0, rfl⟩ := Md.Row_slice r0
  have R0 := Aside0.mk r0
  clear r0
  obtain ⟨A1, n1, c1, rfl⟩ := Md.Row_slice r1
  have R1 := Aside0.mk r1
  clear r1
  have hb := below_alloc (Below.refl w.heap.size w) (.cells #[.slice A0 n0 c0, .slice A1 n1 c1, .int .i64 z2] 25)
  have hx : Pt (w.alloc (.cells #[.slice A0 n0 c0, .slice A1 n1 c1, .int .i64 z2] 25)) ([((w.heap.size, 0), Value.slice A0 n0 c0), ((w.heap.size, 1), Value.slice A1 n1 c1)] ++ (s0 ++ (s1))) (b0 ++ (b1)) := ⟨fun q hq => (List.mem_append.1 hq).elim (fun hq => ?_) (((p0.app p1).below hb).h q), ((p0.app p1).below hb).a⟩
  rotate_left
  · simp only [List.mem_cons, List.not_mem_nil, or_false] at hq
    rcases hq with rfl | rfl
    all_goals exact ⟨by rw [World.cell?_alloc_new]; rfl, _, _, _, rfl⟩
  have HG0 := Aside0.mk (Sg.start hx k)
  have HB := Aside0.mk hb
  clear hx hb p0 p1
  go_enter Try.func15, Try.ntmps15
  try simp only [List.append_assoc] at h1
  try simp only [List.append_assoc]
  go_wp2_with fail
  refine (markBrokerS_ok _ s0 b0 _ _ R0.out (HG0.out.sub (by intro q_ hq_; simp [hq_]) (by intro q_ hq_; simp [hq_])) (by omega) (by have := HG0.out.ek; simp only [List.length_append, List.length_cons, List.length_nil] at *; omega)).mono ?_
  rintro e w1 ⟨rfl, hw⟩
  have HG1 := Aside0.mk (HG0.out.call hw (by intro q_ hq_; simp [hq_]))
  obtain ⟨kq1, hkq⟩ : ∃ kq_ : Int, kq_ = k + (b0.length : Int) := ⟨_, rfl⟩
  rw [← hkq] at HG1 ⊢
  have hq0_1 : 0 ≤ kq1 := by omega
  have hq1_1 : kq1 ≤ 1000000000 := by have := HG1.out.ek; simp only [List.length_append, List.length_cons, List.length_nil] at *; omega
  clear hkq hw
  have x1_1 : w1.cell? ⟨w.heap.size, 1, none⟩ = some (.slice A1 n1 c1) := HG1.out.head (by simp)
  go_wp2_with fail
  refine (markPartitionS_ok _ s1 b1 _ _ R1.out (HG1.out.sub (by intro q_ hq_; simp [hq_]) (by intro q_ hq_; simp [hq_])) (by omega) (by have := HG1.out.ek; simp only [List.length_append, List.length_cons, List.length_nil] at *; omega)).mono ?_
  rintro e w2 ⟨rfl, hw⟩
  have HG2 := Aside0.mk (HG1.out.call hw (by intro q_ hq_; simp [hq_]))
  obtain ⟨kq2, hkq⟩ : ∃ kq_ : Int, kq_ = kq1 + (b1.length : Int) := ⟨_, rfl⟩
  rw [← hkq] at HG2 ⊢
  have hq0_2 : 0 ≤ kq2 := by omega
  have hq1_2 : kq2 ≤ 1000000000 := by have := HG2.out.ek; simp only [List.length_append, List.length_cons, List.length_nil] at *; omega
  clear hkq hw
  clear x1_1
  go_wp2
  go_ret
  have HZ := HG2.out
  (try simp only [List.nil_append, List.append_assoc] at HZ)
  exact ⟨by rw [HZ.ek]; rfl, Wr.after HB.out HZ.wr⟩
set_option maxHeartbeats 4000000 in
set_option maxRecDepth 100000 in
theorem heldIntS_ok (v : Value) (hs : List ((Nat × Nat) × Value)) (ps : List Pl) (k : Int) (w : World) (hr : Md.Row (Md.int) v hs ps) (hp : Pt w hs ps) (hh : Hs w ps k) (h0 : 0 ≤ k) (h1 : k + (ps.length : Int) ≤ 1000000000) :
    Calls Try.prog 30 #[v, .int .i64 k] w fun e w' => e = .returned (.int .i64 (k + (ps.length : Int))) ∧ Below w.heap.size w w' := by
  obtain ⟨A, n, c, rfl, hnc, hmax, hN0⟩ := hr
  have HN : Aside0 (Md.Nr (Md.int) A 0 n hs ps) := ⟨hN0⟩
  have HG := Aside0.mk (Sq.start hp hh)
  clear hN0 hp hnc hh
  go_enter Try.func30, Try.ntmps30
  go_wp2
  go_loopg [1, 5] n (fun kq v1 v5 w' => ∃ (j : Nat) (kk : Int) (pre : List Pl) (hs1 : List ((Nat × Nat) × Value)) (ps1 : List Pl), v1 = .int .i64 kk ∧ v5 = .int .i64 (j : Int) ∧ Aside0 (j + kq = n) ∧ Aside0 (ps = pre ++ ps1) ∧ Aside0 (Md.Nr (Md.int) A j kq hs1 ps1) ∧ Aside0 (Sq w k w' pre hs1 ps1 kk))
  case atStart => exact ⟨0, k, [], hs, ps, rfl, rfl, ⟨by omega⟩, ⟨rfl⟩, HN, HG⟩
  case round =>
    clear HN HG
    obtain ⟨j, kk, pre, hs1, ps1, rfl, rfl, HJ, HS, HN, HG⟩ := hrel
    cases gk with
    | zero =>
      have hd : decide ((j : Int) < (n : Int)) = false := decide_eq_false (by have := HJ.out; omega)
      have hd2 : decide (j < n) = false := decide_eq_false (by have := HJ.out; omega)
      go_wp2
      go_ret
      have e0 := Md.Nr_nil HN.out
      have e1 := HS.out
      subst e0
      rw [List.append_nil] at e1
      subst e1
      exact ⟨by rw [HG.out.ek]; rfl, HG.out.bl⟩
    | succ m =>
      have hd : decide ((j : Int) < (n : Int)) = true := decide_eq_true (by have := HJ.out; omega)
      have hd2 : decide (j < n) = true := decide_eq_true (by have := HJ.out; omega)
      have hlt : j < n := by have := HJ.out; omega
      have hlt2 : (j : Int) < (n : Int) := by omega
      obtain ⟨g, rfl, s1, a1, s2, a2, hsh, hn2, rfl, rfl⟩ := Md.Nr_cons HN.out
      clear HN
      have HN2 := Aside0.mk hn2
      clear hn2
      obtain ⟨rfl, rfl⟩ := (show (Md.int).Sh g (j * 1) s1 a1 from hsh)
      simp only [Nat.mul_one] at HG HS
      have hk0 : 0 ≤ kk := by have := HG.out.ek; omega
      have hk1 : kk ≤ 1000000000 := by have := HG.out.ek; have := HS.out; subst this; simp only [List.length_append] at h1; omega
      simp only [List.append_assoc, List.singleton_append, List.cons_append, List.nil_append] at HG
      have HG0 := HG
      clear HG
      have x0_0 : wr.cell? ⟨g, j, none⟩ = some (.int .i64 kk) := HG0.out.cell
      have HG1 := Aside0.mk HG0.out.tail
      clear HG0
      go_wp2
      go_roundg m
      case measure => omega
      case rel =>
        have HZ := HG1.out.narrow (h1 := s2) (by intro q_ hq_; simp [hq_])
        exact ⟨j + 1, _, _, s2, a2, rfl, by go_num, ⟨by have := HJ.out; omega⟩, ⟨by rw [HS.out]; simp⟩, HN2, ⟨HZ⟩⟩
end Go.Proofs.Ytmkiffemanmgcaa.Mk
end
section
namespace Go.Proofs.Ytmkiffemanmgcaa.Mk
open Go.RowKit Go.Proofs.Ytmkiffemanmgcaa.P Go.Proofs.YtmkiffemanmgcaaW.PrintWords Go.Proofs.YtmkiffemanmgcaaW.PrintLast Go.Proofs.YtmkiffemanmgcaaW.PrintMore
set_option linter.unusedVariables false
set_option linter.unusedSimpArgs false
set_option maxHeartbeats 8000000 in
set_option maxRecDepth 100000 in
theorem FnExactLeadsIn_law (k : Nat) (A0_0 : Option Addr) (c0_0 : Nat) (l0_0 : List S112) (A0_1 : Option Addr) (c0_1 : Nat) (l0_1 : List S108) (a0_2 : Int) (a1 : Int) (w : World) (hr0_0 : Kd.C k112 w A0_0 l0_0.length l0_0) (hc0_0 : l0_0.length ≤ c0_0) (hr0_1 : Kd.C k108 w A0_1 l0_1.length l0_1) (hc0_1 : l0_1.length ≤ c0_1) (z1 : Int) (eE2 : laws_szControl.f k l0_0 l0_1 a0_2 1048576 = some z1) (hz_z1n : ¬ z1 < 0) (x6 : List (S67)) (x7 : List (S85)) (x8 : Int) (r21 : List Int) (r22 : Bool) (eE9 : laws_toControl.f k l0_0 l0_1 a0_2 = some (x6, x7, x8)) (eE23 : spec_LeadsIn.f k x6 x7 x8 a1 = some (r21, r22)) (eE43 : impl_LeadsIn.f k x6 x7 x8 a1 = some (r21, r22)) (eE55 : laws_eqIntS.f k r21 r21 = some true) (eE70 : laws_eqControl.f k x6 x7 x8 x6 x7 x8 = some true) (hB0_ : tot pcBroker x6 ≤ 100000000) (hB1_ : tot pcPartition x7 ≤ 100000000) (hB2_ : tot (fun _ => 1) r21 ≤ 100000000)   :
    Calls Try.prog 7 #[.agg #[.slice A0_0 l0_0.length c0_0, .slice A0_1 l0_1.length c0_1, .int .i64 a0_2], .int .i64 a1] w fun e w' => e = .returned (.bool true) ∧ Below w.heap.size w w' := by
  have hu25 := Try.underlying25
  have hu44 := Try.underlying44
  have HR0_0 := Aside0.mk hr0_0
  clear hr0_0
  have HR0_1 := Aside0.mk hr0_1
  clear hr0_1
  have HC := Aside0.mk (Ch.start w)
  have E2 := Aside0.mk eE2
  clear eE2
  have E9 := Aside0.mk eE9
  clear eE9
  have E23 := Aside0.mk eE23
  clear eE23
  have E43 := Aside0.mk eE43
  clear eE43
  have E55 := Aside0.mk eE55
  clear eE55
  have E70 := Aside0.mk eE70
  clear eE70
  have hB0 := Aside0.mk hB0_
  clear hB0_
  have hB1 := Aside0.mk hB1_
  clear hB1_
  have hB2 := Aside0.mk hB2_
  clear hB2_
  go_enter Try.func7, Try.ntmps7
  go_wp2_with fail
  replace HC := Aside0.mk (HC.out.box (.cells #[.slice A0_0 l0_0.length c0_0, .slice A0_1 l0_1.length c0_1, .int .i64 a0_2] 44))
  refine (laws_szControl.calls k _ _ l0_0 _ _ l0_1 a0_2 1048576 z1 _ (Kd.C_below HR0_0.out HC.out.b) hc0_0 (Kd.C_below HR0_1.out HC.out.b) hc0_1 E2.out).mono ?_
  rintro e w1 ⟨rfl, hb⟩
  replace HC := Aside0.mk (HC.out.below hb)
  clear hb
  have hz_z1 : decide (z1 < 0) = false := decide_eq_false (by omega)
  have b3 := (blk_cell (HC.out.at_ 0 rfl) 0).trans rfl
  have b4 := (blk_cell (HC.out.at_ 0 rfl) 1).trans rfl
  have b5 := (blk_cell (HC.out.at_ 0 rfl) 2).trans rfl
  go_wp2_with fail
  refine (laws_toControl.calls k _ _ l0_0 _ _ l0_1 a0_2 x6 x7 x8 _ (Kd.C_below HR0_0.out HC.out.b) hc0_0 (Kd.C_below HR0_1.out HC.out.b) hc0_1 E9.out).mono ?_
  rintro e w2 ⟨v10, v11, rfl, ho0, ho1, hb⟩
  obtain ⟨A12, c13, rfl⟩ := Kd.R_slice ho0
  obtain ⟨A14, c15, rfl⟩ := Kd.S_slice ho1
  obtain ⟨lo16, hi17, HC'⟩ := HC.out.push hb (Q := fun lo hi U => Kd.R k67 67 U lo (Bt lo hi) (.slice A12 x6.length c13) x6 ∧ Kd.S k85 85 U lo (Bt lo hi) (.slice A14 x7.length c15) x7) (foot_and (foot_R (in_R ho0)) (foot_S (in_S ho1)))
  replace HC := Aside0.mk HC'
  clear HC' hb ho0 ho1
  clear b3 b4 b5
  have b18 := (blk_cell (HC.out.at_ 1 rfl) 0).trans rfl
  have b19 := (blk_cell (HC.out.at_ 1 rfl) 1).trans rfl
  have b20 := (blk_cell (HC.out.at_ 1 rfl) 2).trans rfl
  go_wp2_with fail
  refine (spec_LeadsIn.calls k _ _ x6 _ _ x7 x8 a1 r21 r22 _ (Kd.R_reads' (HC.out.at_ 0 rfl).1).2.2 (Kd.R_reads' (HC.out.at_ 0 rfl).1).2.1 (Kd.S_reads' (HC.out.at_ 0 rfl).2).2.2 (Kd.S_reads' (HC.out.at_ 0 rfl).2).2.1 E23.out).mono ?_
  rintro e w3 ⟨v24, rfl, ho0, hb⟩
  obtain ⟨A25, c26, rfl⟩ := Kd.R_slice ho0
  obtain ⟨lo27, hi28, HC'⟩ := HC.out.push hb (Q := fun lo hi U => Kd.R (Kd.int .i64) 3 U lo (Bt lo hi) (.slice A25 r21.length c26) r21) (foot_R (in_R ho0))
  replace HC := Aside0.mk HC'
  clear HC' hb ho0
  clear b18 b19 b20
  have b29 := (blk_cell (HC.out.at_ 2 rfl) 0).trans rfl
  have b30 := (blk_cell (HC.out.at_ 2 rfl) 1).trans rfl
  have b31 := (blk_cell (HC.out.at_ 2 rfl) 2).trans rfl
  go_wp2_with fail
  refine (laws_toControl.calls k _ _ l0_0 _ _ l0_1 a0_2 x6 x7 x8 _ (Kd.C_below HR0_0.out HC.out.b) hc0_0 (Kd.C_below HR0_1.out HC.out.b) hc0_1 E9.out).mono ?_
  rintro e w4 ⟨v32, v33, rfl, ho0, ho1, hb⟩
  obtain ⟨A34, c35, rfl⟩ := Kd.R_slice ho0
  obtain ⟨A36, c37, rfl⟩ := Kd.S_slice ho1
  obtain ⟨lo38, hi39, HC'⟩ := HC.out.push hb (Q := fun lo hi U => Kd.R k67 67 U lo (Bt lo hi) (.slice A34 x6.length c35) x6 ∧ Kd.S k85 85 U lo (Bt lo hi) (.slice A36 x7.length c37) x7) (foot_and (foot_R (in_R ho0)) (foot_S (in_S ho1)))
  replace HC := Aside0.mk HC'
  clear HC' hb ho0 ho1
  clear b29 b30 b31
  have b40 := (blk_cell (HC.out.at_ 3 rfl) 0).trans rfl
  have b41 := (blk_cell (HC.out.at_ 3 rfl) 1).trans rfl
  have b42 := (blk_cell (HC.out.at_ 3 rfl) 2).trans rfl
  go_wp2_with fail
  replace HC := Aside0.mk (HC.out.box (.cells #[.slice A34 x6.length c35, .slice A36 x7.length c37, .int .i64 x8] 25))
  refine (impl_LeadsIn.calls k _ _ x6 _ _ x7 x8 a1 r21 r22 _ (Kd.R_reads' (HC.out.at_ 1 rfl).1).2.2 (Kd.R_reads' (HC.out.at_ 1 rfl).1).2.1 (Kd.S_reads' (HC.out.at_ 1 rfl).2).2.2 (Kd.S_reads' (HC.out.at_ 1 rfl).2).2.1 E43.out).mono ?_
  rintro e w5 ⟨v44, rfl, ho0, hb⟩
  obtain ⟨A45, c46, rfl⟩ := Kd.R_slice ho0
  obtain ⟨lo47, hi48, HC'⟩ := HC.out.push hb (Q := fun lo hi U => Kd.R (Kd.int .i64) 3 U lo (Bt lo hi) (.slice A45 r21.length c46) r21) (foot_R (in_R ho0))
  replace HC := Aside0.mk HC'
  clear HC' hb ho0
  clear b40 b41 b42
  have b49 := (blk_cell (HC.out.at_ 1 rfl) 0).trans rfl
  have b50 := (blk_cell (HC.out.at_ 1 rfl) 1).trans rfl
  have b51 := (blk_cell (HC.out.at_ 1 rfl) 2).trans rfl
  have b52 := (blk_cell (HC.out.at_ 5 rfl) 0).trans rfl
  have b53 := (blk_cell (HC.out.at_ 5 rfl) 1).trans rfl
  have b54 := (blk_cell (HC.out.at_ 5 rfl) 2).trans rfl
  go_wp2_with fail
  refine (laws_eqIntS.calls k _ _ r21 _ _ r21 true _ (Kd.R_reads' (HC.out.at_ 0 rfl)).2.2 (Kd.R_reads' (HC.out.at_ 0 rfl)).2.1 (Kd.R_reads' (HC.out.at_ 3 rfl)).2.2 (Kd.R_reads' (HC.out.at_ 3 rfl)).2.1 E55.out).mono ?_
  rintro e w6 ⟨rfl, hb⟩
  replace HC := Aside0.mk (HC.out.drawn hb)
  clear hb
  clear b49 b50 b51 b52 b53 b54
  have b56 := (blk_cell (HC.out.at_ 1 rfl) 0).trans rfl
  have b57 := (blk_cell (HC.out.at_ 1 rfl) 1).trans rfl
  have b58 := (blk_cell (HC.out.at_ 1 rfl) 2).trans rfl
  have b59 := (blk_cell (HC.out.at_ 5 rfl) 0).trans rfl
  have b60 := (blk_cell (HC.out.at_ 5 rfl) 1).trans rfl
  have b61 := (blk_cell (HC.out.at_ 5 rfl) 2).trans rfl
  go_wp2_with fail
  replace HC := Aside0.mk (HC.out.below (below_drew (Below.refl _ _)))
  refine start_ (n := 5) (S := fun w' => w'.cell? ⟨w4.heap.size, 0, none⟩ = some (.slice A34 x6.length c35) ∧ w'.cell? ⟨w4.heap.size, 1, none⟩ = some (.slice A36 x7.length c37) ∧ w'.cell? ⟨w4.heap.size, 2, none⟩ = some (.int .i64 x8) ∧ w'.cell? ⟨w.heap.size, 0, none⟩ = some (.slice A0_0 l0_0.length c0_0) ∧ w'.cell? ⟨w.heap.size, 1, none⟩ = some (.slice A0_1 l0_1.length c0_1) ∧ w'.cell? ⟨w.heap.size, 2, none⟩ = some (.int .i64 a0_2)) (ds := []) #[false, false, false, false, false] (by kernel_rfl) rfl rfl ⟨(blk_cell (HC.out.at_ 1 rfl) 0).trans rfl, (blk_cell (HC.out.at_ 1 rfl) 1).trans rfl, (blk_cell (HC.out.at_ 1 rfl) 2).trans rfl, (blk_cell (HC.out.at_ 5 rfl) 0).trans rfl, (blk_cell (HC.out.at_ 5 rfl) 1).trans rfl, (blk_cell (HC.out.at_ 5 rfl) 2).trans rfl⟩ (fun hHeld => ?_)
  generalize w6.drew = w7 at HC hHeld ⊢
  refine take_ (i := 0) (N := some 45) (v := ?_) (a' := ?_) #[true, false, false, false, false] rfl rfl (by kernel_rfl) (fun _ _ _ h => h) (Or.inl ⟨by rfl, ?_⟩) hHeld ?_ ?_
  rotate_left
  · rintro w' ⟨s0, s1, s2, s3, s4, s5⟩
    go_simp
    with_reducible rfl
  rotate_left
  · simp only [Act.put, List.setIfInBounds_toArray, List.set_cons_zero, List.set_cons_succ, i64_w, i32_w]
    rfl
  refine take_ (i := 1) (N := some 46) (v := ?_) (a' := ?_) #[true, true, false, false, false] rfl rfl (by kernel_rfl) (fun _ _ _ h => h) (Or.inl ⟨by rfl, ?_⟩) hHeld ?_ ?_
  rotate_left
  · rintro w' ⟨s0, s1, s2, s3, s4, s5⟩
    go_simp
    with_reducible rfl
  rotate_left
  · simp only [Act.put, List.setIfInBounds_toArray, List.set_cons_zero, List.set_cons_succ, i64_w, i32_w]
    rfl
  refine one_ (i := 2) (N := some 47) #[true, true, true, false, false] rfl rfl (by kernel_rfl) (by decide) (fun K hK => ?_)
  refine goes_ Try.func24 (by kernel_rfl) rfl #[.agg #[.slice A0_0 l0_0.length c0_0, .slice A0_1 l0_1.length c0_1, .int .i64 a0_2]] (by rfl) rfl rfl (by (try simp only [List.map_toArray, List.map_cons, List.map_nil]); first | done | rfl | (simp only [List.length_drop, List.length_take]; rfl)) ?_
  refine (laws_toControl.calls k _ _ l0_0 _ _ l0_1 a0_2 x6 x7 x8 _ (Kd.C_below HR0_0.out HC.out.b) hc0_0 (Kd.C_below HR0_1.out HC.out.b) hc0_1 E9.out).mono ?_
  rintro e w8 ⟨v62, v63, rfl, ho0, ho1, hb⟩
  refine ⟨_, rfl, ?_⟩
  obtain ⟨A64, c65, rfl⟩ := Kd.R_slice ho0
  obtain ⟨A66, c67, rfl⟩ := Kd.S_slice ho1
  obtain ⟨lo68, hi69, HC'⟩ := HC.out.push hb (Q := fun lo hi U => Kd.R k67 67 U lo (Bt lo hi) (.slice A64 x6.length c65) x6 ∧ Kd.S k85 85 U lo (Bt lo hi) (.slice A66 x7.length c67) x7) (foot_and (foot_R (in_R ho0)) (foot_S (in_S ho1)))
  replace HC := Aside0.mk HC'
  clear HC' hb ho0 ho1
  refine hK.out _ _ ⟨(blk_cell (HC.out.at_ 2 rfl) 0).trans rfl, (blk_cell (HC.out.at_ 2 rfl) 1).trans rfl, (blk_cell (HC.out.at_ 2 rfl) 2).trans rfl, (blk_cell (HC.out.at_ 6 rfl) 0).trans rfl, (blk_cell (HC.out.at_ 6 rfl) 1).trans rfl, (blk_cell (HC.out.at_ 6 rfl) 2).trans rfl⟩ (fun hHeld => ?_)
  clear hK K
  refine norm_ (a' := ?_) ?_ ?_
  rotate_left
  · show Act.put _ (some 47) _ = _
    simp only [Act.put, List.setIfInBounds_toArray, List.set_cons_zero, List.set_cons_succ, i64_w, i32_w]
    rfl
  refine one_ (i := 3) (N := some 48) #[true, true, true, true, false] rfl rfl (by kernel_rfl) (by decide) (fun K hK => ?_)
  refine goes_ Try.func14 (by kernel_rfl) rfl #[.agg #[.slice A34 x6.length c35, .slice A36 x7.length c37, .int .i64 x8], .agg #[.slice A64 x6.length c65, .slice A66 x7.length c67, .int .i64 x8]] (by rfl) rfl rfl (by (try simp only [List.map_toArray, List.map_cons, List.map_nil]); first | done | rfl | (simp only [List.length_drop, List.length_take]; rfl)) ?_
  refine (laws_eqControl.calls k _ _ x6 _ _ x7 x8 _ _ x6 _ _ x7 x8 true _ (Kd.R_reads' (HC.out.at_ 3 rfl).1).2.2 (Kd.R_reads' (HC.out.at_ 3 rfl).1).2.1 (Kd.S_reads' (HC.out.at_ 3 rfl).2).2.2 (Kd.S_reads' (HC.out.at_ 3 rfl).2).2.1 (Kd.R_reads' (HC.out.at_ 0 rfl).1).2.2 (Kd.R_reads' (HC.out.at_ 0 rfl).1).2.1 (Kd.S_reads' (HC.out.at_ 0 rfl).2).2.2 (Kd.S_reads' (HC.out.at_ 0 rfl).2).2.1 E70.out).mono ?_
  rintro e w9 ⟨rfl, hb⟩
  refine ⟨_, rfl, ?_⟩
  replace HC := Aside0.mk (HC.out.below hb)
  clear hb
  refine hK.out _ _ ⟨(blk_cell (HC.out.at_ 2 rfl) 0).trans rfl, (blk_cell (HC.out.at_ 2 rfl) 1).trans rfl, (blk_cell (HC.out.at_ 2 rfl) 2).trans rfl, (blk_cell (HC.out.at_ 6 rfl) 0).trans rfl, (blk_cell (HC.out.at_ 6 rfl) 1).trans rfl, (blk_cell (HC.out.at_ 6 rfl) 2).trans rfl⟩ (fun hHeld => ?_)
  clear hK K
  refine norm_ (a' := ?_) ?_ ?_
  rotate_left
  · show Act.put _ (some 48) _ = _
    simp only [Act.put, List.setIfInBounds_toArray, List.set_cons_zero, List.set_cons_succ, i64_w, i32_w]
    rfl
  refine pure_ (i := 4) (N := some 49) (v := ?_) (a' := ?_) #[true, true, true, true, true] rfl rfl (by kernel_rfl) (fun _ _ _ h => h) (Or.inl ⟨by rfl, ?_⟩) ?_ ?_
  rotate_left
  · intro w'
    go_simp
    with_reducible rfl
  rotate_left
  · simp only [Act.put, List.setIfInBounds_toArray, List.set_cons_zero, List.set_cons_succ, i64_w, i32_w]
    rfl
  refine done_ (by kernel_rfl) ?_
  clear b56 b57 b58 b59 b60 b61
  have b71 := (blk_cell (HC.out.at_ 2 rfl) 0).trans rfl
  have b72 := (blk_cell (HC.out.at_ 2 rfl) 1).trans rfl
  have b73 := (blk_cell (HC.out.at_ 2 rfl) 2).trans rfl
  have b74 := (blk_cell (HC.out.at_ 6 rfl) 0).trans rfl
  have b75 := (blk_cell (HC.out.at_ 6 rfl) 1).trans rfl
  have b76 := (blk_cell (HC.out.at_ 6 rfl) 2).trans rfl
  go_wp2_with fail
  obtain ⟨ms1_0, mp1_0, mq1_0, mt1_0, mn1_0, mg1_0, mf1_0, md1_0⟩ := row_R brBroker (HC.out.at_ 3 rfl).1
  obtain ⟨ms1_1, mp1_1, mq1_1, mt1_1, mn1_1, mg1_1, mf1_1, md1_1⟩ := row_S brPartition (HC.out.at_ 3 rfl).2
  refine (markControl_ok _ ms1_0 mp1_0 _ ms1_1 mp1_1 x8 1 _ mq1_0 mq1_1 mt1_0 mt1_1 (by decide) (by rw [List.length_append, mn1_0, mn1_1]; have := hB0.out; have := hB1.out;  omega)).mono ?_
  rintro e w10 ⟨rfl, hw⟩
  replace HC := Aside0.mk (Ch.wr0 (L1 := [_, _, _]) HC.out hw (fun p h => by (try simp only [List.append_assoc] at h); exact (List.mem_append.1 h).elim (fun h => (mf1_0 p h).1) (fun h => (mf1_1 p h).1)))
  obtain ⟨km1, hkm⟩ : ∃ km_ : Int, km_ = 1 + ((mp1_0 ++ mp1_1).length : Int) := ⟨_, rfl⟩
  rw [← hkm]
  have km1p : Aside0 (0 ≤ km1) := ⟨by  omega⟩
  have km1b : Aside0 (km1 ≤ 200000001) := ⟨by rw [hkm]; rw [List.length_append, mn1_0, mn1_1]; have := hB0.out; have := hB1.out;  omega⟩
  have hd_km1 : decide (km1 < 0) = false := decide_eq_false (by have := km1p.out; omega)
  clear hkm hw ms1_0 mq1_0 mt1_0 mn1_0 mg1_0 mf1_0 md1_0 ms1_1 mq1_1 mt1_1 mn1_1 mg1_1 mf1_1 md1_1 
  clear b71 b72 b73 b74 b75 b76
  have b77 := (blk_cell (HC.out.at_ 2 rfl) 0).trans rfl
  have b78 := (blk_cell (HC.out.at_ 2 rfl) 1).trans rfl
  have b79 := (blk_cell (HC.out.at_ 2 rfl) 2).trans rfl
  have b80 := (blk_cell (HC.out.at_ 6 rfl) 0).trans rfl
  have b81 := (blk_cell (HC.out.at_ 6 rfl) 1).trans rfl
  have b82 := (blk_cell (HC.out.at_ 6 rfl) 2).trans rfl
  go_wp2_with fail
  refine (laws_eqIntS.calls k _ _ r21 _ _ r21 true _ (Kd.R_reads' (HC.out.at_ 1 rfl)).2.2 (Kd.R_reads' (HC.out.at_ 1 rfl)).2.1 (Kd.R_reads' (HC.out.at_ 4 rfl)).2.2 (Kd.R_reads' (HC.out.at_ 4 rfl)).2.1 E55.out).mono ?_
  rintro e w11 ⟨rfl, hb⟩
  replace HC := Aside0.mk (HC.out.drawn hb)
  clear hb
  clear b77 b78 b79 b80 b81 b82
  have b83 := (blk_cell (HC.out.at_ 2 rfl) 0).trans rfl
  have b84 := (blk_cell (HC.out.at_ 2 rfl) 1).trans rfl
  have b85 := (blk_cell (HC.out.at_ 2 rfl) 2).trans rfl
  have b86 := (blk_cell (HC.out.at_ 6 rfl) 0).trans rfl
  have b87 := (blk_cell (HC.out.at_ 6 rfl) 1).trans rfl
  have b88 := (blk_cell (HC.out.at_ 6 rfl) 2).trans rfl
  go_wp2_with fail
  obtain ⟨ms2_0, mp2_0, mq2_0, mt2_0, mn2_0, mg2_0, mf2_0, md2_0⟩ := row_R Br.int (HC.out.at_ 1 rfl)
  refine (markIntS_ok _ ms2_0 mp2_0  1 _ mq2_0 mt2_0 (by decide) (by rw [mn2_0]; have := hB2.out;  omega)).mono ?_
  rintro e w12 ⟨rfl, hw⟩
  have mT : Pt w12 (ms2_0) (mp2_0) := (mt2_0).wr hw (mt2_0).a
  have mA : apart (mp2_0) := (md2_0 (fun _ _ => trivial) (fun _ _ => rfl))
  have mH := hw.hs mA (mt2_0).a
  replace HC := Aside0.mk (Ch.wr (L1 := [_]) HC.out hw (fun p hp => (mf2_0 p hp).1) (foot_and (foot_pt mT mg2_0 (fun p hp => (mf2_0 p hp).1)) (foot_hs mH (fun p hp => (mf2_0 p hp).1))))
  have hl2 : Aside0 (1 + ((mp2_0).length : Int) ≤ 1000000000) := ⟨by rw [mn2_0]; have := hB2.out; omega⟩
  have Qmq2_0 := Aside0.mk mq2_0
  obtain ⟨km2, hkm⟩ : ∃ km_ : Int, km_ = 1 + ((mp2_0).length : Int) := ⟨_, rfl⟩
  have HK2 := Aside0.mk hkm
  rw [← hkm]
  have hd_km2 : decide (km2 < 0) = false := decide_eq_false (by omega)
  clear hkm hw mT mA mH mq2_0 mt2_0 mn2_0 mg2_0 mf2_0 md2_0
  clear b83 b84 b85 b86 b87 b88
  have b89 := (blk_cell (HC.out.at_ 2 rfl) 0).trans rfl
  have b90 := (blk_cell (HC.out.at_ 2 rfl) 1).trans rfl
  have b91 := (blk_cell (HC.out.at_ 2 rfl) 2).trans rfl
  have b92 := (blk_cell (HC.out.at_ 6 rfl) 0).trans rfl
  have b93 := (blk_cell (HC.out.at_ 6 rfl) 1).trans rfl
  have b94 := (blk_cell (HC.out.at_ 6 rfl) 2).trans rfl
  go_wp2_with fail
  refine (heldIntS_ok _ ms2_0 mp2_0  1 _ Qmq2_0.out (HC.out.at_ 1 rfl).1 (HC.out.at_ 1 rfl).2 (by decide) (by  exact hl2.out)).mono ?_
  rintro e w13 ⟨rfl, hb⟩
  replace HC := Aside0.mk (HC.out.below hb)
  rw [← HK2.out]
  clear hb
  clear b89 b90 b91 b92 b93 b94
  have b95 := (blk_cell (HC.out.at_ 2 rfl) 0).trans rfl
  have b96 := (blk_cell (HC.out.at_ 2 rfl) 1).trans rfl
  have b97 := (blk_cell (HC.out.at_ 2 rfl) 2).trans rfl
  have b98 := (blk_cell (HC.out.at_ 6 rfl) 0).trans rfl
  have b99 := (blk_cell (HC.out.at_ 6 rfl) 1).trans rfl
  have b100 := (blk_cell (HC.out.at_ 6 rfl) 2).trans rfl
  go_wp2_with fail
  refine (laws_toControl.calls k _ _ l0_0 _ _ l0_1 a0_2 x6 x7 x8 _ (Kd.C_below HR0_0.out HC.out.b) hc0_0 (Kd.C_below HR0_1.out HC.out.b) hc0_1 E9.out).mono ?_
  rintro e w14 ⟨v101, v102, rfl, ho0, ho1, hb⟩
  obtain ⟨A103, c104, rfl⟩ := Kd.R_slice ho0
  obtain ⟨A105, c106, rfl⟩ := Kd.S_slice ho1
  obtain ⟨lo107, hi108, HC'⟩ := HC.out.push hb (Q := fun lo hi U => Kd.R k67 67 U lo (Bt lo hi) (.slice A103 x6.length c104) x6 ∧ Kd.S k85 85 U lo (Bt lo hi) (.slice A105 x7.length c106) x7) (foot_and (foot_R (in_R ho0)) (foot_S (in_S ho1)))
  replace HC := Aside0.mk HC'
  clear HC' hb ho0 ho1
  clear b95 b96 b97 b98 b99 b100
  have b109 := (blk_cell (HC.out.at_ 3 rfl) 0).trans rfl
  have b110 := (blk_cell (HC.out.at_ 3 rfl) 1).trans rfl
  have b111 := (blk_cell (HC.out.at_ 3 rfl) 2).trans rfl
  have b112 := (blk_cell (HC.out.at_ 7 rfl) 0).trans rfl
  have b113 := (blk_cell (HC.out.at_ 7 rfl) 1).trans rfl
  have b114 := (blk_cell (HC.out.at_ 7 rfl) 2).trans rfl
  go_wp2_with fail
  refine (impl_LeadsIn.calls k _ _ x6 _ _ x7 x8 a1 r21 r22 _ (Kd.R_reads' (HC.out.at_ 0 rfl).1).2.2 (Kd.R_reads' (HC.out.at_ 0 rfl).1).2.1 (Kd.S_reads' (HC.out.at_ 0 rfl).2).2.2 (Kd.S_reads' (HC.out.at_ 0 rfl).2).2.1 E43.out).mono ?_
  rintro e w15 ⟨v115, rfl, ho0, hb⟩
  obtain ⟨A116, c117, rfl⟩ := Kd.R_slice ho0
  obtain ⟨lo118, hi119, HC'⟩ := HC.out.push hb (Q := fun lo hi U => Kd.R (Kd.int .i64) 3 U lo (Bt lo hi) (.slice A116 r21.length c117) r21) (foot_R (in_R ho0))
  replace HC := Aside0.mk HC'
  clear HC' hb ho0
  clear b109 b110 b111 b112 b113 b114
  have b120 := (blk_cell (HC.out.at_ 4 rfl) 0).trans rfl
  have b121 := (blk_cell (HC.out.at_ 4 rfl) 1).trans rfl
  have b122 := (blk_cell (HC.out.at_ 4 rfl) 2).trans rfl
  have b123 := (blk_cell (HC.out.at_ 8 rfl) 0).trans rfl
  have b124 := (blk_cell (HC.out.at_ 8 rfl) 1).trans rfl
  have b125 := (blk_cell (HC.out.at_ 8 rfl) 2).trans rfl
  go_wp2_with fail
  refine (laws_eqIntS.calls k _ _ r21 _ _ r21 true _ (Kd.R_reads' (HC.out.at_ 0 rfl)).2.2 (Kd.R_reads' (HC.out.at_ 0 rfl)).2.1 (Kd.R_reads' (HC.out.at_ 6 rfl)).2.2 (Kd.R_reads' (HC.out.at_ 6 rfl)).2.1 E55.out).mono ?_
  rintro e w16 ⟨rfl, hb⟩
  replace HC := Aside0.mk (HC.out.drawn hb)
  clear hb
  clear b120 b121 b122 b123 b124 b125
  have b126 := (blk_cell (HC.out.at_ 4 rfl) 0).trans rfl
  have b127 := (blk_cell (HC.out.at_ 4 rfl) 1).trans rfl
  have b128 := (blk_cell (HC.out.at_ 4 rfl) 2).trans rfl
  have b129 := (blk_cell (HC.out.at_ 8 rfl) 0).trans rfl
  have b130 := (blk_cell (HC.out.at_ 8 rfl) 1).trans rfl
  have b131 := (blk_cell (HC.out.at_ 8 rfl) 2).trans rfl
  go_wp2_with fail
  refine (heldIntS_ok _ ms2_0 mp2_0  1 _ Qmq2_0.out (HC.out.at_ 3 rfl).1 (HC.out.at_ 3 rfl).2 (by decide) (by  exact hl2.out)).mono ?_
  rintro e w17 ⟨rfl, hb⟩
  replace HC := Aside0.mk (HC.out.below hb)
  rw [← HK2.out]
  clear hb
  clear b126 b127 b128 b129 b130 b131
  have b132 := (blk_cell (HC.out.at_ 4 rfl) 0).trans rfl
  have b133 := (blk_cell (HC.out.at_ 4 rfl) 1).trans rfl
  have b134 := (blk_cell (HC.out.at_ 4 rfl) 2).trans rfl
  have b135 := (blk_cell (HC.out.at_ 8 rfl) 0).trans rfl
  have b136 := (blk_cell (HC.out.at_ 8 rfl) 1).trans rfl
  have b137 := (blk_cell (HC.out.at_ 8 rfl) 2).trans rfl
  go_wp2
  go_ret
  exact ⟨rfl, HC.out.b⟩
set_option maxHeartbeats 8000000 in
set_option maxRecDepth 100000 in
theorem FnExactLeadsIn_out0 (k : Nat) (A0_0 : Option Addr) (c0_0 : Nat) (l0_0 : List S112) (A0_1 : Option Addr) (c0_1 : Nat) (l0_1 : List S108) (a0_2 : Int) (a1 : Int) (w : World) (hr0_0 : Kd.C k112 w A0_0 l0_0.length l0_0) (hc0_0 : l0_0.length ≤ c0_0) (hr0_1 : Kd.C k108 w A0_1 l0_1.length l0_1) (hc0_1 : l0_1.length ≤ c0_1) (z1 : Int) (eE2 : laws_szControl.f k l0_0 l0_1 a0_2 1048576 = some z1)  (hz : z1 < 0)  :
    Calls Try.prog 7 #[.agg #[.slice A0_0 l0_0.length c0_0, .slice A0_1 l0_1.length c0_1, .int .i64 a0_2], .int .i64 a1] w fun e w' => e = .returned (.bool true) ∧ Below w.heap.size w w' := by
  have hu25 := Try.underlying25
  have hu44 := Try.underlying44
  have HR0_0 := Aside0.mk hr0_0
  clear hr0_0
  have HR0_1 := Aside0.mk hr0_1
  clear hr0_1
  have HC := Aside0.mk (Ch.start w)
  have E2 := Aside0.mk eE2
  clear eE2
  go_enter Try.func7, Try.ntmps7
  go_wp2_with fail
  replace HC := Aside0.mk (HC.out.box (.cells #[.slice A0_0 l0_0.length c0_0, .slice A0_1 l0_1.length c0_1, .int .i64 a0_2] 44))
  refine (laws_szControl.calls k _ _ l0_0 _ _ l0_1 a0_2 1048576 z1 _ (Kd.C_below HR0_0.out HC.out.b) hc0_0 (Kd.C_below HR0_1.out HC.out.b) hc0_1 E2.out).mono ?_
  rintro e w1 ⟨rfl, hb⟩
  replace HC := Aside0.mk (HC.out.below hb)
  clear hb
  have hz_ : decide (z1 < 0) = true := decide_eq_true hz
  clear hz
  go_wp2
  go_ret
  exact ⟨rfl, HC.out.b⟩
def FnExactLeadsIn_Pure : Prop := ∀ (x0 : S44) (a1 : Int), (ok44 x0) → ((Lit.int .i64 a1).wf = true) → ∃ k : Nat, ∃ z1 : Int, laws_szControl.f k x0.f0 x0.f1 x0.f2 1048576 = some z1 ∧ (z1 < 0 ∨ ¬ z1 < 0 ∧ (∃ (x6 : List (S67)) (x7 : List (S85)) (x8 : Int) (r21 : List Int) (r22 : Bool), laws_toControl.f k x0.f0 x0.f1 x0.f2 = some (x6, x7, x8) ∧ spec_LeadsIn.f k x6 x7 x8 a1 = some (r21, r22) ∧ impl_LeadsIn.f k x6 x7 x8 a1 = some (r21, r22) ∧ laws_eqIntS.f k r21 r21 = some true ∧ laws_eqControl.f k x6 x7 x8 x6 x7 x8 = some true ∧ tot pcBroker x6 ≤ 100000000 ∧ tot pcPartition x7 ≤ 100000000 ∧ tot (fun _ => 1) r21 ≤ 100000000))
theorem FnExactLeadsIn_calls (hP : FnExactLeadsIn_Pure) (x0 : S44) (a1 : Int) (A0_0 : Option Addr) (c0_0 : Nat) (A0_1 : Option Addr) (c0_1 : Nat) (b0 : ok44 x0) (b1 : (Lit.int .i64 a1).wf = true) (w : World) (hr0_0 : Kd.C k112 w A0_0 x0.f0.length x0.f0) (hc0_0 : x0.f0.length ≤ c0_0) (hr0_1 : Kd.C k108 w A0_1 x0.f1.length x0.f1) (hc0_1 : x0.f1.length ≤ c0_1) :
    Calls Try.prog 7 #[.agg #[.slice A0_0 x0.f0.length c0_0, .slice A0_1 x0.f1.length c0_1, .int .i64 x0.f2], .int .i64 a1] w fun e w' => e = .returned (.bool true) ∧ Below w.heap.size w w' := by
  obtain ⟨k, hk⟩ := hP x0 a1 b0 b1
  obtain ⟨z1, eE2, hk⟩ := hk
  rcases hk with hz | ⟨hz_z1n, hk⟩
  · exact FnExactLeadsIn_out0 k A0_0 c0_0 x0.f0 A0_1 c0_1 x0.f1 x0.f2 a1 w hr0_0 hc0_0 hr0_1 hc0_1 z1 eE2  hz 
  obtain ⟨x6, x7, x8, r21, r22, eE9, eE23, eE43, eE55, eE70, hB0_, hB1_, hB2_⟩ := hk
  exact FnExactLeadsIn_law k A0_0 c0_0 x0.f0 A0_1 c0_1 x0.f1 x0.f2 a1 w hr0_0 hc0_0 hr0_1 hc0_1 z1 eE2 hz_z1n x6 x7 x8 r21 r22 eE9 eE23 eE43 eE55 eE70 hB0_ hB1_ hB2_ 
end Go.Proofs.Ytmkiffemanmgcaa.Mk
end
section
namespace Go.Proofs.Ytmkiffemanmgcaa.Pl
open Go.RowKit Go.Proofs.YtmkiffemanmgcaaW.PrintWords Go.Proofs.YtmkiffemanmgcaaW.PrintLast Go.Proofs.YtmkiffemanmgcaaW.PrintMore
theorem wrap_in {x : Int} (h0 : -9223372036854775808 ≤ x) (h1 : x ≤ 9223372036854775807) : wrap64 x = x := by
  unfold wrap64
  omega
theorem wrap_len {n m : Nat} (h : n < m) (hm : m ≤ 4611686018427387904) : wrap64 ((n : Int) + 1) = ((n + 1 : Nat) : Int) := by
  rw [wrap_in (by omega) (by omega)]
  omega
theorem round {k d : Nat} (h : d < k) : ∃ m, k = m + 1 := ⟨k - 1, by omega⟩
theorem rd_mid (pre : List Int) (h : Int) (t : List Int) : rd (pre ++ h :: t) (pre.length : Int) = h := by
  simp [rd]
theorem rd_at {pre t l : List Int} {h : Int} (e : pre ++ h :: t = l) : rd l (pre.length : Int) = h := by
  rw [← e]; exact rd_mid pre h t
theorem len_mid {α : Type} {pre t : List α} {h : α} {l : List α} (e : pre ++ h :: t = l) : pre.length < l.length := by
  rw [← e]; simp
theorem app_mid {α : Type} {pre t : List α} {h : α} {l : List α} (e : pre ++ h :: t = l) : (pre ++ [h]) ++ t = l := by
  rw [← e]; simp
theorem len_one {α : Type} (pre : List α) (h : α) : (pre ++ [h]).length = pre.length + 1 := by simp
theorem rd_last {pre rest l : List Int} {p : Int} (e : pre ++ rest = l) (h : pre.getLast? = some p) : 0 < pre.length ∧ rd l ((pre.length : Int) - 1) = p := by
  obtain ⟨q, rfl⟩ := List.getLast?_eq_some_iff.1 h
  refine ⟨by simp, ?_⟩
  have h2 : q ++ [p] ++ rest = q ++ p :: rest := by simp
  rw [← e, h2, len_one, show (((q.length + 1 : Nat) : Int) - 1) = (q.length : Int) by omega]
  exact rd_mid q p rest
theorem no_last {α : Type} {pre : List α} (h : pre.getLast? = none) : pre = [] := by
  simpa using h
end Go.Proofs.Ytmkiffemanmgcaa.Pl
end
section
namespace Go.Proofs.Ytmkiffemanmgcaa.EvN
def Cm {α : Type} (f : Nat → Option α) (v : α) : Prop := ∃ K, ∀ k, K ≤ k → f k = some v
theorem cm_now {α : Type} {f : Nat → Option α} {v : α} (h : ∀ k, f k = some v) : Cm f v := ⟨0, fun k _ => h k⟩
theorem cm_step {α : Type} {f g : Nat → Option α} {v : α} (h : ∀ k, f (k + 1) = g k) (hg : Cm g v) : Cm f v := by
  obtain ⟨K, hK⟩ := hg
  refine ⟨K + 1, fun k hk => ?_⟩
  obtain ⟨m, rfl⟩ : ∃ m, k = m + 1 := ⟨k - 1, by omega⟩
  rw [h, hK m (by omega)]
theorem cm_same {α : Type} {f g : Nat → Option α} {v : α} (h : ∀ k, f k = g k) (hg : Cm g v) : Cm f v := by
  obtain ⟨K, hK⟩ := hg
  exact ⟨K, fun k hk => by rw [h, hK k hk]⟩
theorem cm_bind {α β : Type} {a : Nat → Option α} {t : α} {g : Nat → α → Option β} {v : β} (ha : Cm a t) (hg : Cm (fun k => g k t) v) : Cm (fun k => (a k).bind (g k)) v := by
  obtain ⟨K, hK⟩ := ha
  obtain ⟨M, hM⟩ := hg
  exact ⟨K + M, fun k hk => by simp only [hK k (by omega)]; exact hM k (by omega)⟩
theorem cm_yes {α : Type} {c : Prop} [Decidable c] {x y : Nat → Option α} {v : α} (h : c) (h2 : Cm x v) : Cm (fun k => if c then x k else y k) v :=
  cm_same (fun _ => if_pos h) h2
theorem cm_no {α : Type} {c : Prop} [Decidable c] {x y : Nat → Option α} {v : α} (h : ¬ c) (h2 : Cm y v) : Cm (fun k => if c then x k else y k) v :=
  cm_same (fun _ => if_neg h) h2
end Go.Proofs.Ytmkiffemanmgcaa.EvN
end
section
namespace Go.Proofs.Ytmkiffemanmgcaa.Lp
open Go.RowKit Go.Proofs.YtmkiffemanmgcaaW.PrintWords
open Go.Proofs.Ytmkiffemanmgcaa.Pl Go.Proofs.Ytmkiffemanmgcaa.EvN
def okFrom {α : Type} (p : List α → α → Bool) : List α → List α → Bool
  | _, [] => true
  | pre, h :: t => p pre h && okFrom p (pre ++ [h]) t
theorem okFrom_iff {α : Type} (p : List α → α → Bool) : ∀ (rest pre : List α), okFrom p pre rest = true ↔ ∀ a h t, a ++ h :: t = rest → p (pre ++ a) h = true
  | [], pre => by
    simp only [okFrom, true_iff]
    intro a h t e
    simp at e
  | x :: t, pre => by
    simp only [okFrom, Bool.and_eq_true]
    rw [okFrom_iff p t (pre ++ [x])]
    constructor
    · rintro ⟨h1, h2⟩ a h t' e
      cases a with
      | nil =>
        simp only [List.nil_append, List.cons.injEq] at e
        obtain ⟨rfl, rfl⟩ := e
        simpa using h1
      | cons y a =>
        simp only [List.cons_append, List.cons.injEq] at e
        obtain ⟨rfl, e⟩ := e
        have := h2 a h t' e
        simpa using this
    · intro h
      refine ⟨by simpa using h [] x t rfl, fun a h' t' e => ?_⟩
      have := h (x :: a) h' t' (by simp [e])
      simpa using this
theorem all_cm {α ρ : Type} {L : Nat → Int → Option ρ} (xs : List α) (p : List α → α → Bool) {fin no : ρ}
    (hstep : ∀ pre h t, pre ++ h :: t = xs → pre.length < xs.length → p pre h = true → ∀ v, Cm (fun k => L k ((pre.length + 1 : Nat) : Int)) v → Cm (fun k => L k (pre.length : Int)) v)
    (hno : ∀ pre h t, pre ++ h :: t = xs → pre.length < xs.length → p pre h = false → Cm (fun k => L k (pre.length : Int)) no)
    (hend : okFrom p [] xs = true → Cm (fun k => L k (xs.length : Int)) fin) : Cm (fun k => L k 0) (if okFrom p [] xs = true then fin else no) := by
  have key : ∀ (rest pre : List α), pre ++ rest = xs → (okFrom p pre rest = okFrom p [] xs) → Cm (fun k => L k (pre.length : Int)) (if okFrom p pre rest = true then fin else no) := by
    intro rest
    induction rest with
    | nil =>
      intro pre e h
      rw [List.append_nil] at e
      subst e
      simp only [okFrom, if_true] at h ⊢
      exact hend h.symm
    | cons x t ih =>
      intro pre e h
      by_cases c : p pre x = true
      · have h2 : okFrom p pre (x :: t) = okFrom p (pre ++ [x]) t := by simp only [okFrom, c, Bool.true_and]
        rw [h2] at h ⊢
        have h3 := ih (pre ++ [x]) (app_mid e) h
        rw [len_one] at h3
        exact hstep pre x t e (len_mid e) c _ h3
      · have c2 : p pre x = false := by simpa using c
        have h2 : okFrom p pre (x :: t) = false := by simp only [okFrom, c2, Bool.false_and]
        rw [h2]
        simpa using hno pre x t e (len_mid e) c2
  exact key xs [] rfl rfl
theorem okFrom_all {α : Type} (p : α → Bool) : ∀ (rest pre : List α), okFrom (fun _ h => p h) pre rest = rest.all p
  | [], _ => rfl
  | x :: t, pre => by simp only [okFrom, List.all_cons, okFrom_all p t]
theorem every_cm {α ρ : Type} {L : Nat → Int → Option ρ} (xs : List α) (p : α → Bool) {fin no : ρ}
    (hstep : ∀ pre h t, pre ++ h :: t = xs → pre.length < xs.length → p h = true → ∀ v, Cm (fun k => L k ((pre.length + 1 : Nat) : Int)) v → Cm (fun k => L k (pre.length : Int)) v)
    (hno : ∀ pre h t, pre ++ h :: t = xs → pre.length < xs.length → p h = false → Cm (fun k => L k (pre.length : Int)) no)
    (hend : xs.all p = true → Cm (fun k => L k (xs.length : Int)) fin) : Cm (fun k => L k 0) (if xs.all p = true then fin else no) := by
  have := all_cm (L := L) xs (fun _ h => p h) hstep hno (by rw [okFrom_all]; exact hend)
  rw [okFrom_all] at this
  exact this
def foundAt {α ρ : Type} (p : α → Bool) (found : Nat → α → ρ) (none_ : ρ) : Nat → List α → ρ
  | _, [] => none_
  | i, h :: t => if p h = true then found i h else foundAt p found none_ (i + 1) t
theorem find_cm {α ρ : Type} {L : Nat → Int → Option ρ} (xs : List α) (p : α → Bool) (found : Nat → α → ρ) {none_ : ρ}
    (hstep : ∀ pre h t, pre ++ h :: t = xs → pre.length < xs.length → p h = false → ∀ v, Cm (fun k => L k ((pre.length + 1 : Nat) : Int)) v → Cm (fun k => L k (pre.length : Int)) v)
    (hyes : ∀ pre h t, pre ++ h :: t = xs → pre.length < xs.length → p h = true → Cm (fun k => L k (pre.length : Int)) (found pre.length h))
    (hend : Cm (fun k => L k (xs.length : Int)) none_) : Cm (fun k => L k 0) (foundAt p found none_ 0 xs) := by
  have key : ∀ (rest pre : List α), pre ++ rest = xs → Cm (fun k => L k (pre.length : Int)) (foundAt p found none_ pre.length rest) := by
    intro rest
    induction rest with
    | nil =>
      intro pre e
      rw [List.append_nil] at e
      subst e
      exact hend
    | cons x t ih =>
      intro pre e
      unfold foundAt
      by_cases c : p x = true
      · rw [if_pos c]
        exact hyes pre x t e (len_mid e) c
      · rw [if_neg c]
        have h3 := ih (pre ++ [x]) (app_mid e)
        rw [len_one] at h3
        exact hstep pre x t e (len_mid e) (by simpa using c) _ h3
  exact key xs [] rfl
theorem found_any {α : Type} (p : α → Bool) : ∀ (l : List α) (i : Nat), decide (foundAt p (fun i _ => (i : Int)) (-1) i l ≥ 0) = l.any p
  | [], _ => by simp [foundAt]
  | h :: t, i => by
    unfold foundAt
    by_cases c : p h = true
    · rw [if_pos c]; simp [c]
    · rw [if_neg c, found_any p t (i + 1)]; simp [c]
theorem not_any {α : Type} (p q : α → Bool) (l : List α) (h : ∀ x ∈ l, p x = !q x) : (!l.any p) = l.all q := by
  induction l with
  | nil => rfl
  | cons x t ih => rw [List.any_cons, List.all_cons, h x (by simp), ← ih (fun y hy => h y (by simp [hy]))]; cases q x <;> simp
theorem same_cm {α ρ : Type} {L : Nat → Int → Option ρ} (xs : List α) {fin : ρ}
    (hstep : ∀ pre h t, pre ++ h :: t = xs → pre.length < xs.length → ∀ v, Cm (fun k => L k ((pre.length + 1 : Nat) : Int)) v → Cm (fun k => L k (pre.length : Int)) v)
    (hend : Cm (fun k => L k (xs.length : Int)) fin) : Cm (fun k => L k 0) fin := by
  have := every_cm (L := L) xs (fun _ => true) (fin := fin) (no := fin) (fun pre h t e hl _ => hstep pre h t e hl) (fun _ _ _ _ _ hp => by cases hp) (fun _ => hend)
  have h : (xs.all fun _ => true) = true := by simp
  rw [if_pos h] at this
  exact this
theorem map_cm {α β : Type} {L : Nat → Int → List β → Option (List β)} (xs : List α) (c : α → β) (z : β)
    (hstep : ∀ pre h t acc, pre ++ h :: t = xs → pre.length < xs.length → acc.length = xs.length → ∀ u, Cm (fun k => L k ((pre.length + 1 : Nat) : Int) (acc.set pre.length (c h))) u → Cm (fun k => L k (pre.length : Int) acc) u)
    (hend : ∀ acc, acc.length = xs.length → Cm (fun k => L k (xs.length : Int) acc) acc) : Cm (fun k => L k 0 (List.replicate xs.length z)) (xs.map c) := by
  have key : ∀ (rest pre : List α) (tl : List β), pre ++ rest = xs → tl.length = rest.length → Cm (fun k => L k (pre.length : Int) (pre.map c ++ tl)) (xs.map c) := by
    intro rest
    induction rest with
    | nil =>
      intro pre tl e ht
      have ht2 : tl = [] := List.length_eq_zero_iff.1 ht
      rw [List.append_nil] at e
      subst ht2 e
      rw [List.append_nil]
      exact hend _ (by simp)
    | cons h t ih =>
      intro pre tl e ht
      match tl, ht with
      | y :: tl, ht =>
        refine hstep pre h t _ e (len_mid e) (by rw [← e]; simp at ht ⊢; omega) _ ?_
        have e2 : (pre.map c ++ y :: tl).set pre.length (c h) = (pre ++ [h]).map c ++ tl := by
          have : pre.length = (pre.map c).length := by simp
          rw [this]
          simp
        rw [e2]
        have := ih (pre ++ [h]) tl (app_mid e) (by simpa using ht)
        rw [len_one] at this
        exact this
  have := key xs [] (List.replicate xs.length z) rfl (by simp)
  simpa using this
theorem cm_if {α : Type} {c : Prop} [Decidable c] {x y : Nat → Option α} {v : α} (h : c → Cm x v) (h2 : ¬ c → Cm y v) : Cm (fun k => if c then x k else y k) v := by
  by_cases hc : c
  · exact cm_yes hc (h hc)
  · exact cm_no hc (h2 hc)
theorem getD_at {α : Type} {pre t l : List α} {h : α} (e : pre ++ h :: t = l) (d : α) : l.getD ((pre.length : Int)).toNat d = h := by
  rw [← e]; simp
theorem wrap_less {n : Nat} (h : 0 < n) (hm : n ≤ 4611686018427387904) : wrap64 ((n : Int) - 1) = (n : Int) - 1 := wrap_in (by omega) (by omega)
theorem cm_val {α : Type} {f : Nat → Option α} {u v : α} (h : Cm f u) (e : u = v) : Cm f v := e ▸ h
end Go.Proofs.Ytmkiffemanmgcaa.Lp
end
section
namespace Go.Proofs.Ytmkiffemanmgcaa.Hs
open Go.RowKit Go.Proofs.Ytmkiffemanmgcaa.P Go.Proofs.YtmkiffemanmgcaaW.PrintWords Go.Proofs.YtmkiffemanmgcaaW.PrintLast Go.Proofs.YtmkiffemanmgcaaW.PrintMore
open Go.Proofs.Ytmkiffemanmgcaa.Pl Go.Proofs.Ytmkiffemanmgcaa.EvN Go.Proofs.Ytmkiffemanmgcaa.Lp
set_option linter.unusedSimpArgs false
set_option linter.unusedVariables false
theorem toIntS_f (l : List Int) (h : l.length * 8 ≤ 140737488351232) : Cm (fun k => laws_toIntS.f k l) l := by
  unfold laws_toIntS.f
  refine cm_yes (by omega) (cm_yes (by omega) ?_)
  have := map_cm (L := fun k i s => laws_toIntS.l0 k l s i) l (fun x => x) 0 ?_ ?_
  · simpa using this
  · intro pre x t acc e hlt ha u hu
    refine cm_step (fun k => by rw [laws_toIntS.l0]) ?_
    simp only [rd_at e, wrap_len hlt (show l.length ≤ 4611686018427387904 by omega), Int.toNat_natCast]
    repeat (first | assumption | exact cm_now (fun _ => rfl) | refine cm_yes (by first | omega | assumption | (simp; done) | (simp; omega)) ?_ | refine cm_no (by first | omega | assumption | (simp; done) | (simp; omega)) ?_)
  · intro acc ha
    refine cm_step (fun k => by rw [laws_toIntS.l0]) ?_
    repeat (first | assumption | exact cm_now (fun _ => rfl) | refine cm_yes (by first | omega | assumption | (simp; done) | (simp; omega)) ?_ | refine cm_no (by first | omega | assumption | (simp; done) | (simp; omega)) ?_)
theorem eqIntS_same (l : List Int) (h : l.length ≤ 4611686018427387904) : Cm (fun k => laws_eqIntS.f k l l) true := by
  unfold laws_eqIntS.f
  refine cm_yes rfl ?_
  refine same_cm (L := fun k i => laws_eqIntS.l0 k l l i) l ?_ ?_
  · intro pre x t e hlt v hv
    refine cm_step (fun k => by rw [laws_eqIntS.l0]) ?_
    simp only [rd_at e, wrap_len hlt h]
    repeat (first | assumption | exact cm_now (fun _ => rfl) | refine cm_yes (by first | omega | assumption | (simp; done) | (simp; omega) | exact rfl) ?_ | refine cm_no (by first | omega | assumption | (simp; done) | (simp; omega) | exact rfl) ?_)
  · refine cm_step (fun k => by rw [laws_eqIntS.l0]) ?_
    repeat (first | assumption | exact cm_now (fun _ => rfl) | refine cm_yes (by first | omega | assumption | (simp; done) | (simp; omega)) ?_ | refine cm_no (by first | omega | assumption | (simp; done) | (simp; omega)) ?_)
end Go.Proofs.Ytmkiffemanmgcaa.Hs
end
section
namespace Go.Proofs.Ytmkiffemanmgcaa.Hg
open Go.RowKit Go.Proofs.Ytmkiffemanmgcaa.P Go.Proofs.YtmkiffemanmgcaaW.PrintWords Go.Proofs.YtmkiffemanmgcaaW.PrintLast Go.Proofs.YtmkiffemanmgcaaW.PrintMore
open Go.Proofs.Ytmkiffemanmgcaa.Pl Go.Proofs.Ytmkiffemanmgcaa.EvN Go.Proofs.Ytmkiffemanmgcaa.Lp Go.Proofs.Ytmkiffemanmgcaa.Hs
set_option linter.unusedSimpArgs false
set_option linter.unusedVariables false
theorem rdT112_at {pre t l : List S112} {h : S112} (e : pre ++ h :: t = l) : rd_T112 l (pre.length : Int) = h := getD_at e _
theorem rdT67_at {pre t l : List S67} {h : S67} (e : pre ++ h :: t = l) : rd_T67 l (pre.length : Int) = h := getD_at e _
def cBroker (x : S112) : S67 := ⟨x.f0, x.f1, x.f2⟩
def smBroker (x : S67) : Prop := (True) ∧ (True) ∧ (True)
theorem sm_cBroker (x : S112) (h : ok112 x) : smBroker (cBroker x) := by
  obtain ⟨h0, h1, h2⟩ := h
  exact ⟨trivial, trivial, trivial⟩
theorem toBroker_f (x : S112) (h : ok112 x) : Cm (fun k => laws_toBroker.f x.f0 x.f1 x.f2) ((cBroker x).f0, (cBroker x).f1, (cBroker x).f2) := by
  obtain ⟨h0, h1, h2⟩ := h
  unfold laws_toBroker.f
  exact cm_now fun _ => rfl
theorem toBrokerS_f (l : List S112) (h : l.length ≤ maxLen ∧ l.length * 24 ≤ 140737488351232 ∧ ∀ x_ ∈ l, ok112 x_) : Cm (fun k => laws_toBrokerS.f k l) (l.map cBroker) := by
  have hl := h.2.1
  unfold laws_toBrokerS.f
  refine cm_yes (by omega) (cm_yes (by omega) ?_)
  rw [Int.toNat_natCast]
  refine map_cm (L := fun k i s => laws_toBrokerS.l0 k l s i) l cBroker z67 ?_ ?_
  · intro pre x t acc e hlt ha u hu
    have hx := h.2.2 x (by rw [← e]; simp)
    refine cm_step (fun k => by rw [laws_toBrokerS.l0]) ?_
    simp only [rdT112_at e, wrap_len hlt (show l.length ≤ 4611686018427387904 by omega), Int.toNat_natCast]
    refine cm_yes (by omega) (cm_yes (by omega) (cm_bind (toBroker_f x hx) (cm_yes (by omega) ?_)))
    exact hu
  · intro acc ha
    refine cm_step (fun k => by rw [laws_toBrokerS.l0]) ?_
    exact cm_no (by omega) (cm_now fun _ => rfl)
theorem eqBroker_same (x : S67) (h : smBroker x) : Cm (fun k => laws_eqBroker.f x.f0 x.f1 x.f2 x.f0 x.f1 x.f2) true := by
  obtain ⟨h0, h1, h2⟩ := h
  unfold laws_eqBroker.f
  exact cm_yes rfl (cm_yes rfl (cm_no (by simp) (cm_now fun _ => rfl)))
theorem eqBrokerS_same (l : List S67) (h : l.length ≤ 4611686018427387904 ∧ ∀ y ∈ l, smBroker y) : Cm (fun k => laws_eqBrokerS.f k l l) true := by
  unfold laws_eqBrokerS.f
  refine cm_yes rfl ?_
  refine same_cm (L := fun k i => laws_eqBrokerS.l0 k l l i) l ?_ ?_
  · intro pre x t e hlt v hv
    have hx := h.2 x (by rw [← e]; simp)
    refine cm_step (fun k => by rw [laws_eqBrokerS.l0]) ?_
    simp only [rdT67_at e, wrap_len hlt h.1]
    exact cm_yes (by omega) (cm_yes (by omega) (cm_yes (by omega) (cm_bind (eqBroker_same x hx) (cm_yes rfl hv))))
  · refine cm_step (fun k => by rw [laws_eqBrokerS.l0]) ?_
    exact cm_no (by omega) (cm_now fun _ => rfl)
theorem rdT108_at {pre t l : List S108} {h : S108} (e : pre ++ h :: t = l) : rd_T108 l (pre.length : Int) = h := getD_at e _
theorem rdT85_at {pre t l : List S85} {h : S85} (e : pre ++ h :: t = l) : rd_T85 l (pre.length : Int) = h := getD_at e _
def cPartition (x : S108) : S85 := ⟨x.f0, x.f1, x.f2, x.f3, x.f4⟩
def smPartition (x : S85) : Prop := (x.f0.length ≤ 4611686018427387904) ∧ (x.f1.length ≤ 4611686018427387904) ∧ (True) ∧ (True) ∧ (True)
theorem sm_cPartition (x : S108) (h : ok108 x) : smPartition (cPartition x) := by
  obtain ⟨h0, h1, h2, h3, h4⟩ := h
  exact ⟨by have := h0.2.1; simp only [cPartition]; omega, by have := h1.2.1; simp only [cPartition]; omega, trivial, trivial, trivial⟩
theorem toPartition_f (x : S108) (h : ok108 x) : Cm (fun k => laws_toPartition.f k x.f0 x.f1 x.f2 x.f3 x.f4) ((cPartition x).f0, (cPartition x).f1, (cPartition x).f2, (cPartition x).f3, (cPartition x).f4) := by
  obtain ⟨h0, h1, h2, h3, h4⟩ := h
  unfold laws_toPartition.f
  exact cm_bind (toIntS_f _ h0.2.1) (cm_bind (toIntS_f _ h1.2.1) (cm_now fun _ => rfl))
theorem toPartitionS_f (l : List S108) (h : l.length ≤ maxLen ∧ l.length * 72 ≤ 140737488351232 ∧ ∀ x_ ∈ l, ok108 x_) : Cm (fun k => laws_toPartitionS.f k l) (l.map cPartition) := by
  have hl := h.2.1
  unfold laws_toPartitionS.f
  refine cm_yes (by omega) (cm_yes (by omega) ?_)
  rw [Int.toNat_natCast]
  refine map_cm (L := fun k i s => laws_toPartitionS.l0 k l s i) l cPartition z85 ?_ ?_
  · intro pre x t acc e hlt ha u hu
    have hx := h.2.2 x (by rw [← e]; simp)
    refine cm_step (fun k => by rw [laws_toPartitionS.l0]) ?_
    simp only [rdT108_at e, wrap_len hlt (show l.length ≤ 4611686018427387904 by omega), Int.toNat_natCast]
    refine cm_yes (by omega) (cm_yes (by omega) (cm_bind (toPartition_f x hx) (cm_yes (by omega) ?_)))
    exact hu
  · intro acc ha
    refine cm_step (fun k => by rw [laws_toPartitionS.l0]) ?_
    exact cm_no (by omega) (cm_now fun _ => rfl)
theorem eqPartition_same (x : S85) (h : smPartition x) : Cm (fun k => laws_eqPartition.f k x.f0 x.f1 x.f2 x.f3 x.f4 x.f0 x.f1 x.f2 x.f3 x.f4) true := by
  obtain ⟨h0, h1, h2, h3, h4⟩ := h
  unfold laws_eqPartition.f
  exact cm_bind (eqIntS_same _ h0) (cm_yes rfl (cm_bind (eqIntS_same _ h1) (cm_yes rfl (cm_yes rfl (cm_yes rfl (cm_yes rfl (cm_now fun _ => rfl)))))))
theorem eqPartitionS_same (l : List S85) (h : l.length ≤ 4611686018427387904 ∧ ∀ y ∈ l, smPartition y) : Cm (fun k => laws_eqPartitionS.f k l l) true := by
  unfold laws_eqPartitionS.f
  refine cm_yes rfl ?_
  refine same_cm (L := fun k i => laws_eqPartitionS.l0 k l l i) l ?_ ?_
  · intro pre x t e hlt v hv
    have hx := h.2 x (by rw [← e]; simp)
    refine cm_step (fun k => by rw [laws_eqPartitionS.l0]) ?_
    simp only [rdT85_at e, wrap_len hlt h.1]
    exact cm_yes (by omega) (cm_yes (by omega) (cm_yes (by omega) (cm_bind (eqPartition_same x hx) (cm_yes rfl hv))))
  · refine cm_step (fun k => by rw [laws_eqPartitionS.l0]) ?_
    exact cm_no (by omega) (cm_now fun _ => rfl)
def cControl (x : S44) : S25 := ⟨x.f0.map cBroker, x.f1.map cPartition, x.f2⟩
def smControl (x : S25) : Prop := (x.f0.length ≤ 4611686018427387904 ∧ ∀ y ∈ x.f0, smBroker y) ∧ (x.f1.length ≤ 4611686018427387904 ∧ ∀ y ∈ x.f1, smPartition y) ∧ (True)
theorem sm_cControl (x : S44) (h : ok44 x) : smControl (cControl x) := by
  obtain ⟨h0, h1, h2⟩ := h
  exact ⟨⟨by have := h0.2.1; simp only [cControl, List.length_map]; omega, fun y hy => by obtain ⟨z, hz, rfl⟩ := List.mem_map.1 hy; exact sm_cBroker z (h0.2.2 z hz)⟩, ⟨by have := h1.2.1; simp only [cControl, List.length_map]; omega, fun y hy => by obtain ⟨z, hz, rfl⟩ := List.mem_map.1 hy; exact sm_cPartition z (h1.2.2 z hz)⟩, trivial⟩
theorem toControl_f (x : S44) (h : ok44 x) : Cm (fun k => laws_toControl.f k x.f0 x.f1 x.f2) ((cControl x).f0, (cControl x).f1, (cControl x).f2) := by
  obtain ⟨h0, h1, h2⟩ := h
  unfold laws_toControl.f
  exact cm_bind (toBrokerS_f _ h0) (cm_bind (toPartitionS_f _ h1) (cm_now fun _ => rfl))
theorem eqControl_same (x : S25) (h : smControl x) : Cm (fun k => laws_eqControl.f k x.f0 x.f1 x.f2 x.f0 x.f1 x.f2) true := by
  obtain ⟨h0, h1, h2⟩ := h
  unfold laws_eqControl.f
  exact cm_bind (eqBrokerS_same _ h0) (cm_yes rfl (cm_bind (eqPartitionS_same _ h1) (cm_yes rfl (cm_yes rfl (cm_now fun _ => rfl)))))
end Go.Proofs.Ytmkiffemanmgcaa.Hg
end
section
namespace Go.Proofs.Ytmkiffemanmgcaa.Sz
open Go.RowKit Go.Proofs.Ytmkiffemanmgcaa.P Go.Proofs.YtmkiffemanmgcaaW.PrintWords Go.Proofs.YtmkiffemanmgcaaW.PrintLast Go.Proofs.YtmkiffemanmgcaaW.PrintMore
open Go.Proofs.Ytmkiffemanmgcaa.Pl Go.Proofs.Ytmkiffemanmgcaa.EvN Go.Proofs.Ytmkiffemanmgcaa.Lp Go.Proofs.Ytmkiffemanmgcaa.Hs
theorem wt_cm {α : Type} {L : Nat → Int → Int → Option Int} (xs : List α) (wt : α → Nat)
    (hstep : ∀ pre h t s, pre ++ h :: t = xs → pre.length < xs.length → 0 ≤ s → s ≤ 1099511627776 → (∃ v, v < 0 ∧ Cm (fun k => L k (pre.length : Int) s) v) ∨ ∃ s' : Int, 0 ≤ s' ∧ s' + (wt h : Int) = s ∧ ∀ u, Cm (fun k => L k ((pre.length + 1 : Nat) : Int) s') u → Cm (fun k => L k (pre.length : Int) s) u)
    (hend : ∀ s, Cm (fun k => L k (xs.length : Int) s) s) (s0 : Int) (h0 : 0 ≤ s0) (h1 : s0 ≤ 1099511627776) : ∃ v, Cm (fun k => L k 0 s0) v ∧ (v < 0 ∨ v + (((xs.map wt).sum : Nat) : Int) = s0) := by
  have key : ∀ (rest pre : List α) (s : Int), pre ++ rest = xs → 0 ≤ s → s ≤ 1099511627776 → ∃ v, Cm (fun k => L k (pre.length : Int) s) v ∧ (v < 0 ∨ v + (((rest.map wt).sum : Nat) : Int) = s) := by
    intro rest
    induction rest with
    | nil =>
      intro pre s e h0 h1
      rw [List.append_nil] at e
      subst e
      exact ⟨s, hend s, .inr (by simp)⟩
    | cons h t ih =>
      intro pre s e h0 h1
      rcases hstep pre h t s e (len_mid e) h0 h1 with ⟨v, hv, hc⟩ | ⟨s', hs', hw, hc⟩
      · exact ⟨v, hc, .inl hv⟩
      · obtain ⟨v, hv, hd⟩ := ih (pre ++ [h]) s' (app_mid e) hs' (by omega)
        rw [len_one] at hv
        refine ⟨v, hc v hv, hd.imp_right (fun hd => ?_)⟩
        rw [List.map_cons, List.sum_cons]
        push_cast
        omega
  exact key xs [] s0 rfl h0 h1
theorem off_wrap {n : Nat} {m : Int} (h0 : 0 ≤ m) (h1 : m ≤ 1099511627776) (h : n ≤ 4611686018427387904) : wrap64 (m - (n : Int)) = m - (n : Int) := wrap_in (by omega) (by omega)
theorem szIntS_wt (l : List Int) (hl : l.length ≤ 4611686018427387904) (m : Int) (h0 : 0 ≤ m) (h1 : m ≤ 1099511627776) : ∃ v, Cm (fun _ => laws_szIntS.f l m) v ∧ (v < 0 ∨ v + (l.length : Int) = m) := by
  unfold laws_szIntS.f
  rw [off_wrap h0 h1 hl]
  by_cases c : m - (l.length : Int) < 0
  · exact ⟨_, cm_yes c (cm_now fun _ => rfl), .inl (by omega)⟩
  · exact ⟨_, cm_no c (cm_now fun _ => rfl), .inr (by omega)⟩
theorem tot_map {α β : Type} (c : β → Nat) (g : α → β) (w : α → Nat) (l : List α) (h : ∀ x ∈ l, c (g x) ≤ 10 * (1 + w x)) : Mk.tot c (l.map g) ≤ 10 * (l.length + (l.map w).sum) := by
  induction l with
  | nil => exact Nat.zero_le _
  | cons x l ih =>
    have := ih (fun y hy => h y (List.mem_cons_of_mem _ hy))
    have := h x List.mem_cons_self
    unfold Mk.tot at *
    simp only [List.map_cons, List.sum_cons, List.length_cons] at *
    omega
end Go.Proofs.Ytmkiffemanmgcaa.Sz
end
section
namespace Go.Proofs.Ytmkiffemanmgcaa.Sz
open Go.RowKit Go.Proofs.Ytmkiffemanmgcaa.P Go.Proofs.YtmkiffemanmgcaaW.PrintWords Go.Proofs.YtmkiffemanmgcaaW.PrintLast Go.Proofs.YtmkiffemanmgcaaW.PrintMore
open Go.Proofs.Ytmkiffemanmgcaa.Pl Go.Proofs.Ytmkiffemanmgcaa.EvN Go.Proofs.Ytmkiffemanmgcaa.Lp Go.Proofs.Ytmkiffemanmgcaa.Hs Go.Proofs.Ytmkiffemanmgcaa.Hg
set_option linter.unusedSimpArgs false
set_option linter.unusedVariables false
def wBroker (x : S112) : Nat := 0
def wBrokerS (l : List S112) : Nat := l.length + (l.map wBroker).sum
theorem szBrokerS_wt (l : List S112) (h : l.length ≤ maxLen ∧ l.length * 24 ≤ 140737488351232 ∧ ∀ x_ ∈ l, ok112 x_) (m : Int) (hm0 : 0 ≤ m) (hm1 : m ≤ 1099511627776) : ∃ v, Cm (fun k => laws_szBrokerS.f l m) v ∧ (v < 0 ∨ v + (wBrokerS l : Int) = m) := by
  have hl := h.2.1
  unfold laws_szBrokerS.f wBrokerS
  rw [off_wrap hm0 hm1 (by omega)]
  by_cases c : m - (l.length : Int) < 0
  · exact ⟨_, cm_yes c (cm_now fun _ => rfl), .inl (by omega)⟩
  · refine ⟨_, cm_no c (cm_now fun _ => rfl), .inr ?_⟩
    have e0 : (l.map wBroker).sum = 0 := by
      clear h hl c
      induction l with
      | nil => rfl
      | cons y l ih => rw [List.map_cons, List.sum_cons, ih]; rfl
    rw [e0]
    push_cast
    omega
theorem pcBroker_le (x : S112) : Mk.pcBroker (cBroker x) ≤ 10 * (1 + wBroker x) := by
  simp only [Mk.pcBroker, cBroker, wBroker]
  omega
theorem totBroker_le (l : List S112) : Mk.tot Mk.pcBroker (l.map cBroker) ≤ 10 * wBrokerS l := tot_map _ _ _ _ (fun y _ => pcBroker_le y)
def wPartition (x : S108) : Nat := x.f0.length + x.f1.length
def wPartitionS (l : List S108) : Nat := l.length + (l.map wPartition).sum
theorem szPartition_wt (x : S108) (h : ok108 x) (m : Int) (hm0 : 0 ≤ m) (hm1 : m ≤ 1099511627776) : ∃ v, Cm (fun k => laws_szPartition.f x.f0 x.f1 x.f2 x.f3 x.f4 m) v ∧ (v < 0 ∨ v + (wPartition x : Int) = m) := by
  obtain ⟨h0, h1, h2, h3, h4⟩ := h
  unfold laws_szPartition.f wPartition
  obtain ⟨v0, w0, d0⟩ := szIntS_wt x.f0 (by have := h0.2.1; omega) m (by omega) (by omega)
  by_cases c0 : v0 < 0
  · exact ⟨-1, cm_bind w0 (cm_yes c0 (cm_now fun _ => rfl)), .inl (by omega)⟩
  obtain ⟨v1, w1, d1⟩ := szIntS_wt x.f1 (by have := h1.2.1; omega) v0 (by omega) (by omega)
  by_cases c1 : v1 < 0
  · exact ⟨-1, cm_bind w0 (cm_no c0 (cm_bind w1 (cm_yes c1 (cm_now fun _ => rfl)))), .inl (by omega)⟩
  exact ⟨v1, cm_bind w0 (cm_no c0 (cm_bind w1 (cm_no c1 (cm_now fun _ => rfl)))), .inr (by push_cast; omega)⟩
theorem szPartitionS_wt (l : List S108) (h : l.length ≤ maxLen ∧ l.length * 72 ≤ 140737488351232 ∧ ∀ x_ ∈ l, ok108 x_) (m : Int) (hm0 : 0 ≤ m) (hm1 : m ≤ 1099511627776) : ∃ v, Cm (fun k => laws_szPartitionS.f k l m) v ∧ (v < 0 ∨ v + (wPartitionS l : Int) = m) := by
  have hl := h.2.1
  unfold laws_szPartitionS.f wPartitionS
  rw [off_wrap hm0 hm1 (by omega)]
  by_cases c : m - (l.length : Int) < 0
  · exact ⟨_, cm_yes c (cm_now fun _ => rfl), .inl (by omega)⟩
  · obtain ⟨v, hv, hd⟩ := wt_cm (L := fun k i s => laws_szPartitionS.l0 k l s i) l wPartition (fun pre x t s e hlt g0 g1 => by
      obtain ⟨v, hv, hd⟩ := szPartition_wt x (h.2.2 x (by rw [← e]; simp)) s g0 g1
      by_cases c2 : v < 0
      · refine .inl ⟨-1, by omega, ?_⟩
        refine cm_step (fun k => by rw [laws_szPartitionS.l0]) ?_
        simp only [rdT108_at e, wrap_len hlt (show l.length ≤ 4611686018427387904 by omega)]
        exact cm_yes (by omega) (cm_yes (by omega) (cm_bind hv (cm_yes c2 (cm_now fun _ => rfl))))
      · refine .inr ⟨v, by omega, by omega, fun u hu => ?_⟩
        refine cm_step (fun k => by rw [laws_szPartitionS.l0]) ?_
        simp only [rdT108_at e, wrap_len hlt (show l.length ≤ 4611686018427387904 by omega)]
        exact cm_yes (by omega) (cm_yes (by omega) (cm_bind hv (cm_no c2 hu)))) (fun s => by
      refine cm_step (fun k => by rw [laws_szPartitionS.l0]) ?_
      exact cm_no (by omega) (cm_now fun _ => rfl)) (m - (l.length : Int)) (by omega) (by omega)
    exact ⟨v, cm_no c hv, by push_cast; omega⟩
theorem pcPartition_le (x : S108) : Mk.pcPartition (cPartition x) ≤ 10 * (1 + wPartition x) := by
  have t0 := Mk.tot_one x.f0
  have t1 := Mk.tot_one x.f1
  simp only [Mk.pcPartition, cPartition, wPartition]
  omega
theorem totPartition_le (l : List S108) : Mk.tot Mk.pcPartition (l.map cPartition) ≤ 10 * wPartitionS l := tot_map _ _ _ _ (fun y _ => pcPartition_le y)
def wControl (x : S44) : Nat := wBrokerS x.f0 + wPartitionS x.f1
theorem szControl_wt (x : S44) (h : ok44 x) (m : Int) (hm0 : 0 ≤ m) (hm1 : m ≤ 1099511627776) : ∃ v, Cm (fun k => laws_szControl.f k x.f0 x.f1 x.f2 m) v ∧ (v < 0 ∨ v + (wControl x : Int) = m) := by
  obtain ⟨h0, h1, h2⟩ := h
  unfold laws_szControl.f wControl
  obtain ⟨v0, w0, d0⟩ := szBrokerS_wt x.f0 h0 m (by omega) (by omega)
  by_cases c0 : v0 < 0
  · exact ⟨-1, cm_bind w0 (cm_yes c0 (cm_now fun _ => rfl)), .inl (by omega)⟩
  obtain ⟨v1, w1, d1⟩ := szPartitionS_wt x.f1 h1 v0 (by omega) (by omega)
  by_cases c1 : v1 < 0
  · exact ⟨-1, cm_bind w0 (cm_no c0 (cm_bind w1 (cm_yes c1 (cm_now fun _ => rfl)))), .inl (by omega)⟩
  exact ⟨v1, cm_bind w0 (cm_no c0 (cm_bind w1 (cm_no c1 (cm_now fun _ => rfl)))), .inr (by push_cast; omega)⟩
end Go.Proofs.Ytmkiffemanmgcaa.Sz
end
section
namespace Go.Proofs.Ytmkiffemanmgcaa.Sets
open Go.RowKit Go.Proofs.YtmkiffemanmgcaaW.PrintWords Go.Proofs.YtmkiffemanmgcaaW.PrintLast Go.Proofs.YtmkiffemanmgcaaW.PrintMore
open Go.Proofs.Ytmkiffemanmgcaa.Pl Go.Proofs.Ytmkiffemanmgcaa.EvN Go.Proofs.Ytmkiffemanmgcaa.Lp
set_option linter.unusedSimpArgs false
set_option linter.unusedVariables false
theorem and_self (a b : Nat) : a &&& b = b ↔ ∀ i, b.testBit i = true → a.testBit i = true := by
  constructor
  · intro h i h2
    have : (a &&& b).testBit i = true := by rw [h]; exact h2
    rw [Nat.testBit_and] at this
    simp_all
  · intro h
    apply Nat.eq_of_testBit_eq
    intro i
    rw [Nat.testBit_and]
    have := h i
    cases h1 : a.testBit i <;> cases h2 : b.testBit i <;> simp_all
def hasAll (a b : List Int) : Bool := b.all (fun x => decide (x ∈ a))
def rises (many : Int) (pre : List Int) (h : Int) : Bool := decide (0 ≤ h ∧ h < many) && (match pre.getLast? with | some q => decide (q < h) | none => true)
def members (many : Int) (l : List Int) : Bool := okFrom (rises many) [] l
theorem members_in {many : Int} {l : List Int} (h : members many l = true) : ∀ x ∈ l, 0 ≤ x ∧ x < many := by
  intro x hx
  obtain ⟨a, t, e⟩ := List.append_of_mem hx
  have := (okFrom_iff (rises many) l []).1 h a x t e.symm
  simp only [rises, Bool.and_eq_true, decide_eq_true_eq] at this
  exact this.1
end Go.Proofs.Ytmkiffemanmgcaa.Sets
end
section
namespace Go.Proofs.Ytmkiffemanmgcaa.Mem
open Go.RowKit Go.Proofs.Ytmkiffemanmgcaa.P Go.Proofs.YtmkiffemanmgcaaW.PrintWords Go.Proofs.YtmkiffemanmgcaaW.PrintLast Go.Proofs.YtmkiffemanmgcaaW.PrintMore
open Go.Proofs.Ytmkiffemanmgcaa.Pl Go.Proofs.Ytmkiffemanmgcaa.EvN Go.Proofs.Ytmkiffemanmgcaa.Lp Go.Proofs.Ytmkiffemanmgcaa.Sets
set_option linter.unusedSimpArgs false
set_option linter.unusedVariables false
theorem in_f (a b c : Int) : impl_in.f a b c = some (decide (b ≤ a ∧ a ≤ c)) := by
  unfold impl_in.f
  by_cases h : a ≥ b
  · rw [if_pos h]; congr 1; rw [decide_eq_decide]; omega
  · rw [if_neg h]; congr 1; symm; rw [decide_eq_false_iff_not]; omega
theorem l1In_f (a b c : Int) : spec_l1In.f a b c = some (decide (b ≤ a ∧ a ≤ c)) := by
  unfold spec_l1In.f
  by_cases h : a ≥ b
  · rw [if_pos h]; congr 1; rw [decide_eq_decide]; omega
  · rw [if_neg h]; congr 1; symm; rw [decide_eq_false_iff_not]; omega
theorem if_self (b : Bool) : (if b = true then true else false) = b := by cases b <;> rfl
theorem rises_no {many : Int} {pre : List Int} {h : Int} (hp : rises many pre h = false) (h0 : 0 ≤ h) (h1 : h < many) : ∃ q, pre.getLast? = some q ∧ h ≤ q := by
  unfold rises at hp
  cases e : pre.getLast? with
  | none => rw [e] at hp; simp at hp; omega
  | some q =>
    rw [e] at hp
    simp at hp
    exact ⟨q, rfl, by omega⟩
theorem rises_yes {many : Int} {pre : List Int} {h : Int} (hp : rises many pre h = true) : (0 ≤ h ∧ h < many) ∧ ∀ q, pre.getLast? = some q → q < h := by
  unfold rises at hp
  simp only [Bool.and_eq_true, decide_eq_true_eq] at hp
  refine ⟨hp.1, fun q e => ?_⟩
  have h2 := hp.2
  rw [e] at h2
  simpa using h2
theorem last_cases {α : Type} (pre : List α) : pre = [] ∨ ∃ q, pre.getLast? = some q := by
  cases e : pre.getLast? with
  | none => exact .inl (no_last e)
  | some q => exact .inr ⟨q, rfl⟩
end Go.Proofs.Ytmkiffemanmgcaa.Mem
end
section
namespace Go.Proofs.Ytmkiffemanmgcaa.Mem
open Go.RowKit Go.Proofs.Ytmkiffemanmgcaa.P Go.Proofs.YtmkiffemanmgcaaW.PrintWords Go.Proofs.YtmkiffemanmgcaaW.PrintLast Go.Proofs.YtmkiffemanmgcaaW.PrintMore
open Go.Proofs.Ytmkiffemanmgcaa.Pl Go.Proofs.Ytmkiffemanmgcaa.EvN Go.Proofs.Ytmkiffemanmgcaa.Lp Go.Proofs.Ytmkiffemanmgcaa.Sets
set_option linter.unusedSimpArgs false
set_option linter.unusedVariables false
theorem has_f (l : List Int) (n : Int) (hl : l.length ≤ 4611686018427387904) : Cm (fun k => spec_l1Has.f k l n) (decide (n ∈ l)) := by
  unfold spec_l1Has.f
  have := every_cm (L := fun k i => spec_l1Has.l0 k n l (l.length : Int) i) l (fun x => decide (x ≠ n)) (fin := false) (no := true) ?_ ?_ ?_
  · refine cm_val this ?_
    by_cases c : n ∈ l
    · simp [c]
    · simp [c]
      intro x hx e
      subst e
      exact c hx
  · intro pre h t e hlt hp v hv
    simp only [decide_eq_true_eq] at hp
    refine cm_step (fun k => by rw [spec_l1Has.l0]) ?_
    simp only [rd_at e, wrap_len hlt hl]
    repeat (first | assumption | exact cm_now (fun _ => rfl) | refine cm_yes (by first | omega | assumption | (simp; done) | (simp; omega)) ?_ | refine cm_no (by first | omega | assumption | (simp; done) | (simp; omega)) ?_)
  · intro pre h t e hlt hp
    simp only [decide_eq_false_iff_not, ne_eq, Decidable.not_not] at hp
    refine cm_step (fun k => by rw [spec_l1Has.l0]) ?_
    simp only [rd_at e, wrap_len hlt hl]
    repeat (first | assumption | exact cm_now (fun _ => rfl) | refine cm_yes (by first | omega | assumption | (simp; done) | (simp; omega)) ?_ | refine cm_no (by first | omega | assumption | (simp; done) | (simp; omega)) ?_)
  · intro _
    refine cm_step (fun k => by rw [spec_l1Has.l0]) ?_
    repeat (first | assumption | exact cm_now (fun _ => rfl) | refine cm_yes (by first | omega | assumption | (simp; done) | (simp; omega)) ?_ | refine cm_no (by first | omega | assumption | (simp; done) | (simp; omega)) ?_)
theorem hasAll_f (a b : List Int) (ha : a.length ≤ 4611686018427387904) (hb : b.length ≤ 4611686018427387904) : Cm (fun k => spec_l6Has.f k a b) (hasAll a b) := by
  unfold spec_l6Has.f
  have := every_cm (L := fun k i => spec_l6Has.l0 k a b (b.length : Int) i) b (fun x => decide (x ∈ a)) (fin := true) (no := false) ?_ ?_ ?_
  · refine cm_val this ?_
    unfold hasAll
    cases b.all fun x => decide (x ∈ a) <;> rfl
  · intro pre h t e hlt hp v hv
    refine cm_step (fun k => by rw [spec_l6Has.l0]) ?_
    simp only [rd_at e, wrap_len hlt hb]
    repeat (first | assumption | exact cm_now (fun _ => rfl) | refine cm_bind (has_f _ _ ha) ?_ | refine cm_yes (by first | omega | assumption | (simp; done) | (simp; omega) | exact hp) ?_ | refine cm_no (by first | omega | assumption | (simp; done) | (simp; omega) | exact hp) ?_)
  · intro pre h t e hlt hp
    refine cm_step (fun k => by rw [spec_l6Has.l0]) ?_
    simp only [rd_at e, wrap_len hlt hb]
    repeat (first | assumption | exact cm_now (fun _ => rfl) | refine cm_bind (has_f _ _ ha) ?_ | refine cm_yes (by first | omega | assumption | (simp; done) | (simp; omega) | exact (by simpa using hp)) ?_ | refine cm_no (by first | omega | assumption | (simp; done) | (simp; omega) | exact (by simpa using hp)) ?_)
  · intro _
    refine cm_step (fun k => by rw [spec_l6Has.l0]) ?_
    repeat (first | assumption | exact cm_now (fun _ => rfl) | refine cm_yes (by first | omega | assumption | (simp; done) | (simp; omega)) ?_ | refine cm_no (by first | omega | assumption | (simp; done) | (simp; omega)) ?_)
theorem group_f (l : List Int) (many : Int) (hl : l.length ≤ 4611686018427387904) : Cm (fun k => spec_l6Group.f k l many) (members many l) := by
  unfold spec_l6Group.f
  have := all_cm (L := fun k i => spec_l6Group.l0 k l many l (l.length : Int) i) l (rises many) (fin := true) (no := false) ?_ ?_ ?_
  · exact cm_val this (if_self _)
  · intro pre h t e hlt hp v hv
    obtain ⟨⟨h0, h1⟩, h2⟩ := rises_yes hp
    refine cm_step (fun k => by rw [spec_l6Group.l0]) ?_
    simp only [rd_at e, wrap_len hlt hl]
    refine cm_yes (by omega) (cm_yes (by omega) (cm_yes (by omega) (cm_no (by omega) (cm_no (by omega) ?_))))
    rcases last_cases pre with rfl | ⟨q, hq⟩
    · exact cm_no (by simp) hv
    · obtain ⟨h3, h4⟩ := rd_last e hq
      have h5 := h2 q hq
      rw [wrap_less h3 (by omega), h4]
      repeat (first | assumption | exact cm_now (fun _ => rfl) | refine cm_yes (by first | omega | assumption | (simp; done) | (simp; omega)) ?_ | refine cm_no (by first | omega | assumption | (simp; done) | (simp; omega)) ?_)
  · intro pre h t e hlt hp
    refine cm_step (fun k => by rw [spec_l6Group.l0]) ?_
    simp only [rd_at e, wrap_len hlt hl]
    refine cm_yes (by omega) (cm_yes (by omega) (cm_yes (by omega) ?_))
    refine cm_if (fun _ => cm_now fun _ => rfl) (fun c0 => cm_if (fun _ => cm_now fun _ => rfl) (fun c1 => ?_))
    obtain ⟨q, hq, h5⟩ := rises_no hp (by omega) (by omega)
    obtain ⟨h3, h4⟩ := rd_last e hq
    rw [wrap_less h3 (by omega), h4]
    repeat (first | assumption | exact cm_now (fun _ => rfl) | refine cm_yes (by first | omega | assumption | (simp; done) | (simp; omega)) ?_ | refine cm_no (by first | omega | assumption | (simp; done) | (simp; omega)) ?_)
  · intro _
    refine cm_step (fun k => by rw [spec_l6Group.l0]) ?_
    repeat (first | assumption | exact cm_now (fun _ => rfl) | refine cm_yes (by first | omega | assumption | (simp; done) | (simp; omega)) ?_ | refine cm_no (by first | omega | assumption | (simp; done) | (simp; omega)) ?_)
theorem areMembers_f (l : List Int) (many : Int) (hl : l.length ≤ 4611686018427387904) (hm : 0 ≤ many ∧ many ≤ 4611686018427387904) : Cm (fun k => impl_areMembers.f k l many) (members many l) := by
  have hw : wrap64 (many - 1) = many - 1 := wrap_in (by omega) (by omega)
  unfold impl_areMembers.f
  have := all_cm (L := fun k i => impl_areMembers.l0 k l many l (l.length : Int) i) l (rises many) (fin := true) (no := false) ?_ ?_ ?_
  · exact cm_val this (if_self _)
  · intro pre h t e hlt hp v hv
    obtain ⟨⟨h0, h1⟩, h2⟩ := rises_yes hp
    refine cm_step (fun k => by rw [impl_areMembers.l0]) ?_
    simp only [rd_at e, wrap_len hlt hl, hw]
    refine cm_yes (by omega) (cm_yes (by omega) (cm_yes (by omega) (cm_bind (cm_now fun _ => in_f _ _ _) (cm_yes (by simp; omega) ?_))))
    rcases last_cases pre with rfl | ⟨q, hq⟩
    · exact cm_no (by simp) hv
    · obtain ⟨h3, h4⟩ := rd_last e hq
      have h5 := h2 q hq
      rw [wrap_less h3 (by omega), h4]
      repeat (first | assumption | exact cm_now (fun _ => rfl) | refine cm_yes (by first | omega | assumption | (simp; done) | (simp; omega)) ?_ | refine cm_no (by first | omega | assumption | (simp; done) | (simp; omega)) ?_)
  · intro pre h t e hlt hp
    refine cm_step (fun k => by rw [impl_areMembers.l0]) ?_
    simp only [rd_at e, wrap_len hlt hl, hw]
    refine cm_yes (by omega) (cm_yes (by omega) (cm_yes (by omega) (cm_bind (cm_now fun _ => in_f _ _ _) ?_)))
    refine cm_if (fun c0 => ?_) (fun _ => cm_now fun _ => rfl)
    simp only [decide_eq_true_eq] at c0
    obtain ⟨q, hq, h5⟩ := rises_no hp (by omega) (by omega)
    obtain ⟨h3, h4⟩ := rd_last e hq
    rw [wrap_less h3 (by omega), h4]
    repeat (first | assumption | exact cm_now (fun _ => rfl) | refine cm_yes (by first | omega | assumption | (simp; done) | (simp; omega)) ?_ | refine cm_no (by first | omega | assumption | (simp; done) | (simp; omega)) ?_)
  · intro _
    refine cm_step (fun k => by rw [impl_areMembers.l0]) ?_
    repeat (first | assumption | exact cm_now (fun _ => rfl) | refine cm_yes (by first | omega | assumption | (simp; done) | (simp; omega)) ?_ | refine cm_no (by first | omega | assumption | (simp; done) | (simp; omega)) ?_)
theorem contains_f (l : List Int) (n : Int) (hl : l.length ≤ 4611686018427387904) : Cm (fun k => slices_Contains_int_int.f k l n) (decide (n ∈ l)) := by
  unfold slices_Contains_int_int.f slices_Index_int_int.f
  refine cm_bind (t := foundAt (fun x => decide (n = x)) (fun i _ => (i : Int)) (-1) 0 l) ?_ (cm_now fun _ => ?_)
  · refine find_cm (L := fun k i => slices_Index_int_int.l0 k l n (l.length : Int) i) l (fun x => decide (n = x)) (fun i _ => (i : Int)) (none_ := (-1 : Int)) ?_ ?_ ?_
    · intro pre h t e hlt hp v hv
      simp only [decide_eq_false_iff_not] at hp
      refine cm_step (fun k => by rw [slices_Index_int_int.l0]) ?_
      simp only [rd_at e, wrap_len hlt hl]
      repeat (first | assumption | exact cm_now (fun _ => rfl) | refine cm_yes (by first | omega | assumption | (simp; done) | (simp; omega)) ?_ | refine cm_no (by first | omega | assumption | (simp; done) | (simp; omega)) ?_)
    · intro pre h t e hlt hp
      simp only [decide_eq_true_eq] at hp
      refine cm_step (fun k => by rw [slices_Index_int_int.l0]) ?_
      simp only [rd_at e, wrap_len hlt hl]
      repeat (first | assumption | exact cm_now (fun _ => rfl) | refine cm_yes (by first | omega | assumption | (simp; done) | (simp; omega)) ?_ | refine cm_no (by first | omega | assumption | (simp; done) | (simp; omega)) ?_)
    · refine cm_step (fun k => by rw [slices_Index_int_int.l0]) ?_
      repeat (first | assumption | exact cm_now (fun _ => rfl) | refine cm_yes (by first | omega | assumption | (simp; done) | (simp; omega)) ?_ | refine cm_no (by first | omega | assumption | (simp; done) | (simp; omega)) ?_)
  · rw [found_any]
    congr 1
    rw [Bool.eq_iff_iff]
    simp
end Go.Proofs.Ytmkiffemanmgcaa.Mem
end
section
namespace Go.Proofs.Ytmkiffemanmgcaa.Control
open Go.RowKit Go.Proofs.Ytmkiffemanmgcaa.P Go.Proofs.YtmkiffemanmgcaaW.PrintWords Go.Proofs.YtmkiffemanmgcaaW.PrintLast Go.Proofs.YtmkiffemanmgcaaW.PrintMore
open Go.Proofs.Ytmkiffemanmgcaa.Pl Go.Proofs.Ytmkiffemanmgcaa.EvN Go.Proofs.Ytmkiffemanmgcaa.Lp Go.Proofs.Ytmkiffemanmgcaa.Sets Go.Proofs.Ytmkiffemanmgcaa.Mem Go.Proofs.Ytmkiffemanmgcaa.Hg
set_option linter.unusedSimpArgs false
set_option linter.unusedVariables false
def goodBroker (next : Int) (b : S67) : Bool := decide ((0 ≤ b.f0 ∧ b.f0 < next) ∧ (0 ≤ b.f1 ∧ b.f1 ≤ 9) ∧ b.f2 = (b.f1 == 0) ∧ ¬ (b.f0 = 0 ∧ b.f1 > 0))
def live (bs : List S67) (l : List Int) : Int := foundAt (fun x => !(rd_T67 bs x).f2) (fun _ h => h) (-1) 0 l
def leadOk (bs : List S67) (l : List Int) (lead : Int) : Bool := if lead = -1 then decide (live bs l = -1) else decide (lead ∈ l) && !(rd_T67 bs lead).f2
def goodPart (bs : List S67) (p : S85) : Bool := (decide (p.f0.length ≠ 0) && members (bs.length : Int) p.f0) && (decide (p.f1.length ≠ 0) && members (bs.length : Int) p.f1) && hasAll p.f0 p.f1 && leadOk bs p.f1 p.f2 && decide ((0 ≤ p.f3 ∧ p.f3 ≤ 1000) ∧ (0 ≤ p.f4 ∧ p.f4 ≤ 1000))
def sizesOk (x : S25) : Bool := decide ((1 ≤ x.f0.length ∧ x.f0.length ≤ 6) ∧ x.f1.length ≤ 5 ∧ (1 ≤ x.f2 ∧ x.f2 ≤ 1000))
def good (x : S25) : Bool := sizesOk x && x.f0.all (goodBroker x.f2) && x.f1.all (goodPart x.f0)
theorem live_pos (bs : List S67) : ∀ (l : List Int) (i : Nat), (∀ x ∈ l, 0 ≤ x) → foundAt (fun x => !(rd_T67 bs x).f2) (fun _ h => h) (-1) i l = -1 ∨ 0 ≤ foundAt (fun x => !(rd_T67 bs x).f2) (fun _ h => h) (-1) i l
  | [], _, _ => .inl rfl
  | h :: t, i, hp => by
    unfold foundAt
    by_cases c : (!(rd_T67 bs h).f2) = true
    · rw [if_pos c]; exact .inr (hp h (by simp))
    · rw [if_neg c]; exact live_pos bs t (i + 1) (fun x hx => hp x (by simp [hx]))
theorem first_f (bs : List S67) (ps : List S85) (next : Int) (l : List Int) (hl : l.length ≤ 4611686018427387904) (hm : ∀ x ∈ l, 0 ≤ x ∧ x < (bs.length : Int)) : Cm (fun k => spec_l12First.f k bs ps next l) (live bs l) := by
  unfold spec_l12First.f live
  refine find_cm (L := fun k i => spec_l12First.l0 k l (l.length : Int) i bs ps next) l (fun x => !(rd_T67 bs x).f2) (fun _ h => h) (none_ := (-1 : Int)) ?_ ?_ ?_
  · intro pre h t e hlt hp v hv
    have hh := hm h (by rw [← e]; simp)
    have hp2 : (rd_T67 bs h).f2 = true := by simpa using hp
    refine cm_step (fun k => by rw [spec_l12First.l0]) ?_
    simp only [rd_at e, wrap_len hlt hl]
    exact cm_yes (by omega) (cm_yes (by omega) (cm_yes (by omega) (cm_yes (by omega) (cm_yes (by omega) (cm_yes hp2 hv)))))
  · intro pre h t e hlt hp
    have hh := hm h (by rw [← e]; simp)
    have hp2 : ¬ (rd_T67 bs h).f2 = true := by simpa using hp
    refine cm_step (fun k => by rw [spec_l12First.l0]) ?_
    simp only [rd_at e, wrap_len hlt hl]
    exact cm_yes (by omega) (cm_yes (by omega) (cm_yes (by omega) (cm_yes (by omega) (cm_yes (by omega) (cm_no hp2 (cm_now fun _ => rfl))))))
  · refine cm_step (fun k => by rw [spec_l12First.l0]) ?_
    exact cm_no (by omega) (cm_now fun _ => rfl)
theorem firstLive_f (bs : List S67) (ps : List S85) (next : Int) (l : List Int) (hl : l.length ≤ 4611686018427387904) (hm : ∀ x ∈ l, 0 ≤ x ∧ x < (bs.length : Int)) : Cm (fun k => impl_Control_firstLive.f k bs ps next l) (live bs l) := by
  unfold impl_Control_firstLive.f live
  refine find_cm (L := fun k i => impl_Control_firstLive.l0 k l (l.length : Int) i bs ps next) l (fun x => !(rd_T67 bs x).f2) (fun _ h => h) (none_ := (-1 : Int)) ?_ ?_ ?_
  · intro pre h t e hlt hp v hv
    have hh := hm h (by rw [← e]; simp)
    have hp2 : (rd_T67 bs h).f2 = true := by simpa using hp
    refine cm_step (fun k => by rw [impl_Control_firstLive.l0]) ?_
    simp only [rd_at e, wrap_len hlt hl]
    exact cm_yes (by omega) (cm_yes (by omega) (cm_yes (by omega) (cm_yes (by omega) (cm_yes (by omega) (cm_yes hp2 hv)))))
  · intro pre h t e hlt hp
    have hh := hm h (by rw [← e]; simp)
    have hp2 : ¬ (rd_T67 bs h).f2 = true := by simpa using hp
    refine cm_step (fun k => by rw [impl_Control_firstLive.l0]) ?_
    simp only [rd_at e, wrap_len hlt hl]
    exact cm_yes (by omega) (cm_yes (by omega) (cm_yes (by omega) (cm_yes (by omega) (cm_yes (by omega) (cm_no hp2 (cm_now fun _ => rfl))))))
  · refine cm_step (fun k => by rw [impl_Control_firstLive.l0]) ?_
    exact cm_no (by omega) (cm_now fun _ => rfl)
theorem anyA_index (b : List Int) (l : List Int) (hl : l.length ≤ 4611686018427387904) (p : Int → Bool) (hc : ∀ h ∈ l, Cm (fun k => impl_allOf_1.f k h b) (p h)) :
    Cm (fun k => slices_IndexFunc_int_int_of_impl_allOf_1.f k l b) (foundAt p (fun i _ => (i : Int)) (-1) 0 l) := by
  unfold slices_IndexFunc_int_int_of_impl_allOf_1.f
  refine find_cm (L := fun k i => slices_IndexFunc_int_int_of_impl_allOf_1.l0 k l (l.length : Int) i b) l p (fun i _ => (i : Int)) (none_ := (-1 : Int)) ?_ ?_ ?_
  · intro pre h t e hlt hp v hv
    refine cm_step (fun k => by rw [slices_IndexFunc_int_int_of_impl_allOf_1.l0]) ?_
    simp only [rd_at e, wrap_len hlt hl]
    refine cm_yes (by omega) (cm_yes (by omega) (cm_yes (by omega) (cm_bind (hc h (by rw [← e]; simp)) ?_)))
    exact cm_no (by simpa using hp) hv
  · intro pre h t e hlt hp
    refine cm_step (fun k => by rw [slices_IndexFunc_int_int_of_impl_allOf_1.l0]) ?_
    simp only [rd_at e, wrap_len hlt hl]
    refine cm_yes (by omega) (cm_yes (by omega) (cm_yes (by omega) (cm_bind (hc h (by rw [← e]; simp)) ?_)))
    exact cm_yes hp (cm_now fun _ => rfl)
  · refine cm_step (fun k => by rw [slices_IndexFunc_int_int_of_impl_allOf_1.l0]) ?_
    exact cm_no (by omega) (cm_now fun _ => rfl)
theorem anyA (b : List Int) (l : List Int) (hl : l.length ≤ 4611686018427387904) (p : Int → Bool) (hc : ∀ h ∈ l, Cm (fun k => impl_allOf_1.f k h b) (p h)) : Cm (fun k => slices_ContainsFunc_int_int_of_impl_allOf_1.f k l b) (l.any p) := by
  unfold slices_ContainsFunc_int_int_of_impl_allOf_1.f
  refine cm_bind (anyA_index b l hl p hc) (cm_now fun _ => ?_)
  rw [found_any]
theorem allOf_f (a b : List Int) (ha : a.length ≤ 4611686018427387904) (hb : b.length ≤ 4611686018427387904) : Cm (fun k => impl_allOf.f k a b) (hasAll b a) := by
  unfold impl_allOf.f
  refine cm_bind (anyA b a ha (fun x => !decide (x ∈ b)) (fun x _ => ?_)) (cm_now fun _ => ?_)
  · unfold impl_allOf_1.f
    exact cm_bind (contains_f b x hb) (cm_now fun _ => rfl)
  · rw [not_any _ (fun x => decide (x ∈ b)) a (fun _ _ => rfl)]
    rfl
theorem part_j1 (a b : List Int) (lead ep st : Int) (q : Bool) : Cm (fun k => spec_l12Part.j1 k q a b lead ep st) (!q && decide ((0 ≤ ep ∧ ep ≤ 1000) ∧ (0 ≤ st ∧ st ≤ 1000))) := by
  refine cm_step (fun k => by rw [spec_l12Part.j1]) ?_
  cases q
  · refine cm_no (by simp) (cm_bind (cm_now fun _ => l1In_f _ _ _) ?_)
    refine cm_if (fun c => cm_bind (cm_now fun _ => l1In_f _ _ _) (cm_now fun _ => ?_)) (fun c => cm_now fun _ => ?_)
    · simp only [decide_eq_true_eq] at c
      simp [c]
    · simp only [decide_eq_true_eq] at c
      simp [c]
  · exact cm_yes rfl (cm_now fun _ => rfl)
theorem part_j0 (bs : List S67) (ps : List S85) (next : Int) (a b : List Int) (lead ep st : Int) (hl : b.length ≤ 4611686018427387904) (hm : ∀ x ∈ b, 0 ≤ x ∧ x < (bs.length : Int)) :
    Cm (fun k => spec_l12Part.j0 k false bs ps next a b lead ep st) (leadOk bs b lead && decide ((0 ≤ ep ∧ ep ≤ 1000) ∧ (0 ≤ st ∧ st ≤ 1000))) := by
  refine cm_step (fun k => by rw [spec_l12Part.j0]) ?_
  unfold leadOk
  refine cm_no (by simp) (cm_if (fun c => ?_) (fun c => ?_))
  · refine cm_bind (first_f bs ps next b hl hm) ?_
    rw [if_pos c]
    have := live_pos bs b 0 (fun x hx => (hm x hx).1)
    change live bs b = -1 ∨ 0 ≤ live bs b at this
    refine cm_if (fun c2 => cm_val (part_j1 _ _ _ _ _ _) ?_) (fun c2 => cm_val (part_j1 _ _ _ _ _ _) ?_)
    · have : ¬ live bs b = -1 := by omega
      simp [this]
    · have : live bs b = -1 := by omega
      simp [this]
  · rw [if_neg c]
    refine cm_bind (has_f b lead hl) ?_
    refine cm_if (fun c2 => ?_) (fun c2 => cm_val (part_j1 _ _ _ _ _ _) ?_)
    · simp only [decide_eq_true_eq] at c2
      have := hm lead c2
      exact cm_yes (by omega) (cm_yes (by omega) (cm_val (part_j1 _ _ _ _ _ _) (by simp [c2])))
    · simp only [decide_eq_true_eq] at c2
      simp [c2]
theorem part_no (bs : List S67) (ps : List S85) (next : Int) (a b : List Int) (lead ep st : Int) : Cm (fun k => spec_l12Part.j0 k true bs ps next a b lead ep st) false := by
  refine cm_step (fun k => by rw [spec_l12Part.j0]) ?_
  exact cm_yes rfl (cm_now fun _ => rfl)
theorem part_f (bs : List S67) (ps : List S85) (next : Int) (p : S85) (h0 : p.f0.length ≤ 4611686018427387904) (h1 : p.f1.length ≤ 4611686018427387904) : Cm (fun k => spec_l12Part.f k bs ps next p.f0 p.f1 p.f2 p.f3 p.f4) (goodPart bs p) := by
  unfold spec_l12Part.f goodPart
  refine cm_if (fun c => cm_val (part_no _ _ _ _ _ _ _ _) ?_) (fun c => cm_bind (group_f p.f0 _ h0) ?_)
  · have : p.f0.length = 0 := by omega
    simp [this]
  have c' : p.f0.length ≠ 0 := by omega
  refine cm_if (fun d => ?_) (fun d => cm_val (part_no _ _ _ _ _ _ _ _) (by simp [d]))
  refine cm_if (fun c2 => cm_val (part_no _ _ _ _ _ _ _ _) ?_) (fun c2 => cm_bind (group_f p.f1 _ h1) ?_)
  · have : p.f1.length = 0 := by omega
    simp [this]
  have c2' : p.f1.length ≠ 0 := by omega
  refine cm_if (fun d2 => cm_bind (hasAll_f p.f0 p.f1 h0 h1) ?_) (fun d2 => cm_val (part_no _ _ _ _ _ _ _ _) (by simp [d2]))
  cases e : hasAll p.f0 p.f1
  · exact cm_val (part_no _ _ _ _ _ _ _ _) (by simp)
  · exact cm_val (part_j0 bs ps next p.f0 p.f1 p.f2 p.f3 p.f4 h1 (members_in d2)) (by simp only [ne_eq, c', c2', d, d2, not_false_eq_true, decide_true, Bool.true_and])
theorem spec_parts (bs : List S67) (ps : List S85) (next : Int) (hl : ps.length ≤ 4611686018427387904) (hs : ∀ y ∈ ps, smPartition y) : Cm (fun k => spec_GoodControl.l1 k ps (ps.length : Int) 0 bs ps next) (ps.all (goodPart bs)) := by
  refine cm_val (every_cm (L := fun k i => spec_GoodControl.l1 k ps (ps.length : Int) i bs ps next) ps (goodPart bs) (fin := true) (no := false) ?_ ?_ ?_) (if_self _)
  · intro pre h t e hlt hp v hv
    have hh := hs h (by rw [← e]; simp)
    refine cm_step (fun k => by rw [spec_GoodControl.l1]) ?_
    simp only [rdT85_at e, wrap_len hlt hl]
    exact cm_yes (by omega) (cm_yes (by omega) (cm_yes (by omega) (cm_bind (part_f bs ps next h hh.1 hh.2.1) (cm_yes hp hv))))
  · intro pre h t e hlt hp
    have hh := hs h (by rw [← e]; simp)
    refine cm_step (fun k => by rw [spec_GoodControl.l1]) ?_
    simp only [rdT85_at e, wrap_len hlt hl]
    exact cm_yes (by omega) (cm_yes (by omega) (cm_yes (by omega) (cm_bind (part_f bs ps next h hh.1 hh.2.1) (cm_no (by simp [hp]) (cm_now fun _ => rfl)))))
  · intro _
    refine cm_step (fun k => by rw [spec_GoodControl.l1]) ?_
    exact cm_no (by omega) (cm_now fun _ => rfl)
theorem spec_f (x : S25) (h : smControl x) : Cm (fun k => spec_GoodControl.f k x.f0 x.f1 x.f2) (good x) := by
  obtain ⟨⟨h0, _⟩, ⟨h1, h2⟩, _⟩ := h
  unfold spec_GoodControl.f
  have hj : ∀ q : Bool, Cm (fun k => spec_GoodControl.j1 k q x.f0 x.f1 x.f2) (!q && x.f1.all (goodPart x.f0)) := by
    intro q
    refine cm_step (fun k => by rw [spec_GoodControl.j1]) ?_
    cases q
    · exact cm_no (by simp) (cm_val (spec_parts x.f0 x.f1 x.f2 h1 h2) (by simp))
    · exact cm_yes rfl (cm_now fun _ => rfl)
  refine cm_val (every_cm (L := fun k i => spec_GoodControl.l0 k x.f0 (x.f0.length : Int) i x.f0 x.f1 x.f2) x.f0 (goodBroker x.f2) (fin := sizesOk x && x.f1.all (goodPart x.f0)) (no := false) ?_ ?_ ?_) ?_
  · intro pre h t e hlt hp v hv
    simp only [goodBroker, decide_eq_true_eq] at hp
    obtain ⟨p1, p2, p3, p4⟩ := hp
    refine cm_step (fun k => by rw [spec_GoodControl.l0]) ?_
    simp only [rdT67_at e, wrap_len hlt h0]
    refine cm_yes (by omega) (cm_yes (by omega) (cm_yes (by omega) (cm_no (by omega) (cm_no (by omega) (cm_bind (cm_now fun _ => l1In_f _ _ _) (cm_yes (by simp [p2]) (cm_no (by simp [p3]) ?_)))))))
    exact cm_if (fun c => cm_no (by omega) hv) (fun c => hv)
  · intro pre h t e hlt hp
    simp only [goodBroker, decide_eq_false_iff_not] at hp
    refine cm_step (fun k => by rw [spec_GoodControl.l0]) ?_
    simp only [rdT67_at e, wrap_len hlt h0]
    refine cm_yes (by omega) (cm_yes (by omega) (cm_yes (by omega) (cm_if (fun _ => cm_now fun _ => rfl) (fun c0 => cm_if (fun _ => cm_now fun _ => rfl) (fun c1 => cm_bind (cm_now fun _ => l1In_f _ _ _) (cm_if (fun c2 => cm_if (fun _ => cm_now fun _ => rfl) (fun c3 => ?_)) (fun _ => cm_now fun _ => rfl)))))))
    simp only [decide_eq_true_eq] at c2
    have c3' : h.f2 = (h.f1 == 0) := by simpa using c3
    by_cases c4 : h.f0 = 0
    · by_cases c5 : h.f1 > 0
      · exact cm_yes c4 (cm_yes c5 (cm_now fun _ => rfl))
      · exact absurd ⟨⟨by omega, by omega⟩, c2, c3', fun c => c5 c.2⟩ hp
    · exact absurd ⟨⟨by omega, by omega⟩, c2, c3', fun c => c4 c.1⟩ hp
  · intro _
    refine cm_step (fun k => by rw [spec_GoodControl.l0]) ?_
    refine cm_no (by omega) (cm_bind (cm_now fun _ => l1In_f _ _ _) ?_)
    unfold sizesOk
    refine cm_if (fun c => ?_) (fun c => cm_val (hj true) ?_)
    · simp only [decide_eq_true_eq] at c
      refine cm_if (fun c2 => cm_val (hj true) ?_) (fun c2 => cm_bind (cm_now fun _ => l1In_f _ _ _) (cm_val (hj _) ?_))
      · have : ¬ x.f1.length ≤ 5 := by omega
        simp [this]
      · have e1 : x.f1.length ≤ 5 := by omega
        have e2 : 1 ≤ x.f0.length ∧ x.f0.length ≤ 6 := by omega
        simp [e1, e2]
    · have : ¬ (1 ≤ x.f0.length ∧ x.f0.length ≤ 6) := by
        simp only [decide_eq_true_eq] at c
        omega
      simp [this]
  · unfold good
    cases x.f0.all (goodBroker x.f2) <;> simp
theorem impl_j3_no (x3 : Int) (ps : List S85) (n i : Int) (bs : List S67) (ps2 : List S85) (next : Int) (a b : List Int) (lead ep st : Int) : Cm (fun k => impl_isControl.j3 k x3 ps n i true bs ps2 next a b lead ep st) false := by
  refine cm_step (fun k => by rw [impl_isControl.j3]) ?_
  exact cm_yes rfl (cm_now fun _ => rfl)
theorem impl_j3 (x3 : Int) (ps : List S85) (i : Int) (bs : List S67) (ps2 : List S85) (next : Int) (a b : List Int) (lead ep st : Int) (v : Bool) (hl : b.length ≤ 4611686018427387904) (hm : ∀ x ∈ b, 0 ≤ x ∧ x < (bs.length : Int))
    (hv : leadOk bs b lead = true → Cm (fun k => impl_isControl.l1 k x3 ps (ps.length : Int) (wrap64 (i + 1)) bs ps2 next) v) (hn : leadOk bs b lead = false → v = false) : Cm (fun k => impl_isControl.j3 k x3 ps (ps.length : Int) i false bs ps2 next a b lead ep st) v := by
  refine cm_step (fun k => by rw [impl_isControl.j3]) ?_
  unfold leadOk at hv hn
  refine cm_no (by simp) (cm_bind (firstLive_f bs ps2 next b hl hm) (cm_if (fun c => ?_) (fun c => ?_)))
  · rw [if_pos c] at hv hn
    refine cm_if (fun c2 => hv (by simp [c2])) (fun c2 => cm_now fun _ => ?_)
    rw [hn (by simp [c2])]
  · rw [if_neg c] at hv hn
    refine cm_bind (contains_f b lead hl) (cm_if (fun c2 => ?_) (fun c2 => cm_now fun _ => ?_))
    · simp only [decide_eq_true_eq] at c2
      have := hm lead c2
      refine cm_yes (by omega) (cm_yes (by omega) (cm_if (fun c3 => cm_now fun _ => ?_) (fun c3 => hv (by simp [c2, c3]))))
      rw [hn (by simp [c3])]
    · simp only [decide_eq_true_eq] at c2
      rw [hn (by simp [c2])]
theorem impl_parts (bs : List S67) (ps : List S85) (next : Int) (hb : bs.length ≤ 4611686018427387904) (hl : ps.length ≤ 4611686018427387904) (hs : ∀ y ∈ ps, smPartition y) : Cm (fun k => impl_isControl.l1 k (bs.length : Int) ps (ps.length : Int) 0 bs ps next) (ps.all (goodPart bs)) := by
  have key : ∀ (pre : List S85) (h : S85) (t : List S85), pre ++ h :: t = ps → pre.length < ps.length → ∀ v : Bool, (goodPart bs h = true → Cm (fun k => impl_isControl.l1 k (bs.length : Int) ps (ps.length : Int) ((pre.length + 1 : Nat) : Int) bs ps next) v) → (goodPart bs h = false → v = false) →
      Cm (fun k => impl_isControl.l1 k (bs.length : Int) ps (ps.length : Int) (pre.length : Int) bs ps next) v := by
    intro pre h t e hlt v hv hn
    have hh := hs h (by rw [← e]; simp)
    refine cm_step (fun k => by rw [impl_isControl.l1]) ?_
    simp only [rdT85_at e]
    refine cm_yes (by omega) (cm_yes (by omega) (cm_yes (by omega) ?_))
    unfold goodPart at hv hn
    refine cm_if (fun c => ?_) (fun c => cm_bind (areMembers_f h.f0 _ hh.1 (by omega)) ?_)
    · have : h.f0.length = 0 := by omega
      rw [hn (by simp [this])]
      exact impl_j3_no _ _ _ _ _ _ _ _ _ _ _ _
    have c' : h.f0.length ≠ 0 := by omega
    refine cm_if (fun d => ?_) (fun d => ?_)
    rotate_left
    · rw [hn (by simp [d])]
      exact impl_j3_no _ _ _ _ _ _ _ _ _ _ _ _
    refine cm_if (fun c2 => ?_) (fun c2 => cm_bind (areMembers_f h.f1 _ hh.2.1 (by omega)) ?_)
    · have : h.f1.length = 0 := by omega
      rw [hn (by simp [this])]
      exact impl_j3_no _ _ _ _ _ _ _ _ _ _ _ _
    have c2' : h.f1.length ≠ 0 := by omega
    refine cm_if (fun d2 => cm_bind (allOf_f h.f1 h.f0 hh.2.1 hh.1) ?_) (fun d2 => ?_)
    rotate_left
    · rw [hn (by simp [d2])]
      exact impl_j3_no _ _ _ _ _ _ _ _ _ _ _ _
    refine cm_if (fun d3 => cm_bind (cm_now fun _ => in_f _ _ _) ?_) (fun d3 => ?_)
    rotate_left
    · rw [hn (by simp [d3])]
      exact impl_j3_no _ _ _ _ _ _ _ _ _ _ _ _
    refine cm_if (fun d4 => cm_bind (cm_now fun _ => in_f _ _ _) ?_) (fun d4 => ?_)
    rotate_left
    · simp only [decide_eq_true_eq] at d4
      rw [hn (by simp [d4])]
      exact impl_j3_no _ _ _ _ _ _ _ _ _ _ _ _
    simp only [decide_eq_true_eq] at d4
    by_cases d5 : 0 ≤ h.f4 ∧ h.f4 ≤ 1000
    · simp only [d5, decide_true, Bool.not_true, _root_.and_self]
      have h6 := impl_j3 (bs.length : Int) ps (pre.length : Int) bs ps next h.f0 h.f1 h.f2 h.f3 h.f4 v hh.2.1 (members_in d2) (by
        intro c6
        rw [wrap_len hlt hl]
        exact hv (by simp only [ne_eq, c', c2', d, d2, d3, d4, d5, c6, not_false_eq_true, decide_true, Bool.true_and, _root_.and_self])) (by
        intro c6
        exact hn (by simp [c6]))
      exact h6
    · rw [hn (by simp [d5])]
      simp only [d5, decide_false, Bool.not_false]
      exact impl_j3_no _ _ _ _ _ _ _ _ _ _ _ _
  refine cm_val (every_cm (L := fun k i => impl_isControl.l1 k (bs.length : Int) ps (ps.length : Int) i bs ps next) ps (goodPart bs) (fin := true) (no := false) ?_ ?_ ?_) (if_self _)
  · intro pre h t e hlt hp v hv
    exact key pre h t e hlt v (fun _ => hv) (by rw [hp]; simp)
  · intro pre h t e hlt hp
    exact key pre h t e hlt false (by rw [hp]; simp) (fun _ => rfl)
  · intro _
    refine cm_step (fun k => by rw [impl_isControl.l1]) ?_
    exact cm_no (by omega) (cm_now fun _ => rfl)
theorem impl_f (x : S25) (h : smControl x) : Cm (fun k => impl_isControl.f k x.f0 x.f1 x.f2) (good x) := by
  obtain ⟨⟨h0, _⟩, ⟨h1, h2⟩, _⟩ := h
  unfold impl_isControl.f
  have hno : Cm (fun k => impl_isControl.j0 k (x.f0.length : Int) true x.f0 x.f1 x.f2) false := by
    refine cm_step (fun k => by rw [impl_isControl.j0]) ?_
    exact cm_yes rfl (cm_now fun _ => rfl)
  have hgo : sizesOk x = true → Cm (fun k => impl_isControl.j0 k (x.f0.length : Int) false x.f0 x.f1 x.f2) (good x) := by
    intro hz
    have hz2 := hz
    simp only [sizesOk, decide_eq_true_eq] at hz2
    obtain ⟨z1, z2, z3⟩ := hz2
    have hw : wrap64 (x.f2 - 1) = x.f2 - 1 := wrap_in (by omega) (by omega)
    refine cm_step (fun k => by rw [impl_isControl.j0]) ?_
    refine cm_no (by simp) ?_
    refine cm_val (every_cm (L := fun k i => impl_isControl.l0 k (x.f0.length : Int) x.f0 (x.f0.length : Int) i x.f0 x.f1 x.f2) x.f0 (goodBroker x.f2) (fin := x.f1.all (goodPart x.f0)) (no := false) ?_ ?_ ?_) ?_
    · intro pre h t e hlt hp v hv
      simp only [goodBroker, decide_eq_true_eq] at hp
      obtain ⟨p1, p2, p3, p4⟩ := hp
      refine cm_step (fun k => by rw [impl_isControl.l0]) ?_
      simp only [rdT67_at e, wrap_len hlt h0, hw]
      refine cm_yes (by omega) (cm_yes (by omega) (cm_yes (by omega) (cm_bind (cm_now fun _ => in_f _ _ _) (cm_yes (by simp; omega) (cm_bind (cm_now fun _ => in_f _ _ _) (cm_yes (by simp [p2]) ?_))))))
      exact cm_if (fun c => cm_yes (by omega) (cm_no (by simp [p3]) hv)) (fun c => cm_no (by simp [p3]) hv)
    · intro pre h t e hlt hp
      simp only [goodBroker, decide_eq_false_iff_not] at hp
      refine cm_step (fun k => by rw [impl_isControl.l0]) ?_
      simp only [rdT67_at e, wrap_len hlt h0, hw]
      refine cm_yes (by omega) (cm_yes (by omega) (cm_yes (by omega) (cm_bind (cm_now fun _ => in_f _ _ _) (cm_if (fun c1 => cm_bind (cm_now fun _ => in_f _ _ _) (cm_if (fun c2 => ?_) (fun _ => cm_now fun _ => rfl))) (fun _ => cm_now fun _ => rfl)))))
      simp only [decide_eq_true_eq] at c1 c2
      by_cases c4 : h.f0 = 0
      · refine cm_yes c4 (cm_if (fun c5 => cm_if (fun _ => cm_now fun _ => rfl) (fun c3 => ?_)) (fun _ => cm_now fun _ => rfl))
        have c3' : h.f2 = (h.f1 == 0) := by simpa using c3
        exact absurd ⟨⟨by omega, by omega⟩, c2, c3', fun c => by omega⟩ hp
      · refine cm_no c4 (cm_if (fun _ => cm_now fun _ => rfl) (fun c3 => ?_))
        have c3' : h.f2 = (h.f1 == 0) := by simpa using c3
        exact absurd ⟨⟨by omega, by omega⟩, c2, c3', fun c => c4 c.1⟩ hp
    · intro _
      refine cm_step (fun k => by rw [impl_isControl.l0]) ?_
      exact cm_no (by omega) (impl_parts x.f0 x.f1 x.f2 h0 h1 h2)
    · unfold good
      rw [hz]
      cases x.f0.all (goodBroker x.f2) <;> simp
  refine cm_bind (cm_now fun _ => in_f _ _ _) ?_
  refine cm_if (fun c => ?_) (fun c => cm_val hno ?_)
  · simp only [decide_eq_true_eq] at c
    refine cm_if (fun c2 => cm_val hno ?_) (fun c2 => cm_bind (cm_now fun _ => in_f _ _ _) ?_)
    · have : ¬ x.f1.length ≤ 5 := by omega
      simp [good, sizesOk, this]
    · by_cases c3 : 1 ≤ x.f2 ∧ x.f2 ≤ 1000
      · simp only [c3, decide_true, Bool.not_true, _root_.and_self]
        exact hgo (by simp [sizesOk]; omega)
      · simp only [c3, decide_false, Bool.not_false]
        exact cm_val hno (by simp [good, sizesOk, c3])
  · simp only [decide_eq_true_eq] at c
    have : ¬ (1 ≤ x.f0.length ∧ x.f0.length ≤ 6) := by omega
    simp [good, sizesOk, this]
end Go.Proofs.Ytmkiffemanmgcaa.Control
end
section
namespace Go.Proofs.Ytmkiffemanmgcaa.Pick
open Go.RowKit Go.Proofs.YtmkiffemanmgcaaW.PrintWords
open Go.Proofs.Ytmkiffemanmgcaa.Pl Go.Proofs.Ytmkiffemanmgcaa.EvN Go.Proofs.Ytmkiffemanmgcaa.Lp
def picks {α : Type} (p : α → Bool) : Nat → List α → List Int
  | _, [] => []
  | i, h :: t => if p h = true then (i : Int) :: picks p (i + 1) t else picks p (i + 1) t
theorem picks_le {α : Type} (p : α → Bool) : ∀ (i : Nat) (l : List α), (picks p i l).length ≤ l.length
  | _, [] => Nat.le_refl _
  | i, h :: t => by
    have := picks_le p (i + 1) t
    unfold picks
    split <;> simp only [List.length_cons] <;> omega
theorem pick_cm {α ρ : Type} {L : Nat → Int → List Int → Option ρ} (xs : List α) (p : α → Bool) (F : List Int → ρ)
    (hyes : ∀ pre h t s, pre ++ h :: t = xs → pre.length < xs.length → s.length ≤ pre.length → p h = true → ∀ u, Cm (fun k => L k ((pre.length + 1 : Nat) : Int) (s ++ [(pre.length : Int)])) u → Cm (fun k => L k (pre.length : Int) s) u)
    (hno : ∀ pre h t s, pre ++ h :: t = xs → pre.length < xs.length → s.length ≤ pre.length → p h = false → ∀ u, Cm (fun k => L k ((pre.length + 1 : Nat) : Int) s) u → Cm (fun k => L k (pre.length : Int) s) u)
    (hend : ∀ s, Cm (fun k => L k (xs.length : Int) s) (F s)) : Cm (fun k => L k 0 []) (F (picks p 0 xs)) := by
  have key : ∀ (rest pre : List α) (s : List Int), pre ++ rest = xs → s.length ≤ pre.length → Cm (fun k => L k (pre.length : Int) s) (F (s ++ picks p pre.length rest)) := by
    intro rest
    induction rest with
    | nil =>
      intro pre s e hs
      rw [List.append_nil] at e
      subst e
      rw [show picks p pre.length [] = [] from rfl, List.append_nil]
      exact hend s
    | cons h t ih =>
      intro pre s e hs
      by_cases c : p h = true
      · have := ih (pre ++ [h]) (s ++ [(pre.length : Int)]) (app_mid e) (by simp; omega)
        rw [len_one] at this
        refine hyes pre h t s e (len_mid e) hs c _ ?_
        unfold picks
        rw [if_pos c]
        simpa using this
      · have := ih (pre ++ [h]) s (app_mid e) (by simp; omega)
        rw [len_one] at this
        refine hno pre h t s e (len_mid e) hs (by simpa using c) _ ?_
        unfold picks
        rw [if_neg c]
        exact this
  exact key xs [] [] rfl (Nat.le_refl _)
end Go.Proofs.Ytmkiffemanmgcaa.Pick
end
section
namespace Go.Proofs.Ytmkiffemanmgcaa.Led
open Go.RowKit Go.Proofs.Ytmkiffemanmgcaa.P Go.Proofs.YtmkiffemanmgcaaW.PrintWords Go.Proofs.YtmkiffemanmgcaaW.PrintLast Go.Proofs.YtmkiffemanmgcaaW.PrintMore
open Go.Proofs.Ytmkiffemanmgcaa.Pl Go.Proofs.Ytmkiffemanmgcaa.EvN Go.Proofs.Ytmkiffemanmgcaa.Lp Go.Proofs.Ytmkiffemanmgcaa.Hs Go.Proofs.Ytmkiffemanmgcaa.Hg Go.Proofs.Ytmkiffemanmgcaa.Mem Go.Proofs.Ytmkiffemanmgcaa.Control Go.Proofs.Ytmkiffemanmgcaa.Pick
def live (x : S25) : List Int × Bool := if good x = true then (picks (fun b => !b.f2) 0 x.f0, true) else ([], false)
theorem specLeads_l (a : Int) (ps : List S85) (hl : ps.length ≤ 5864062014805) : Cm (fun k => spec_LeadsIn.l0 k a [] ps (ps.length : Int) 0) (picks (fun p => decide (p.f2 = a)) 0 ps, true) := by
  refine pick_cm (L := fun k i s => spec_LeadsIn.l0 k a s ps (ps.length : Int) i) ps (fun p => decide (p.f2 = a)) (fun s => (s, true)) ?_ ?_ ?_
  · intro pre h t s e hlt hs hp u hu
    refine cm_step (fun k => by rw [spec_LeadsIn.l0]) ?_
    simp only [rdT85_at e, wrap_len hlt (show ps.length ≤ 4611686018427387904 by omega)]
    exact cm_yes (by omega) (cm_yes (by omega) (cm_yes (by omega) (cm_yes (by simpa using hp) (cm_yes (by omega) hu))))
  · intro pre h t s e hlt hs hp u hu
    refine cm_step (fun k => by rw [spec_LeadsIn.l0]) ?_
    simp only [rdT85_at e, wrap_len hlt (show ps.length ≤ 4611686018427387904 by omega)]
    exact cm_yes (by omega) (cm_yes (by omega) (cm_yes (by omega) (cm_no (by simpa using hp) hu)))
  · intro s
    refine cm_step (fun k => by rw [spec_LeadsIn.l0]) ?_
    exact cm_no (by omega) (cm_now fun _ => rfl)
theorem ledBy_f (bs : List S67) (ps : List S85) (nx a : Int) (hl : ps.length ≤ 5864062014805) : Cm (fun k => impl_Control_ledBy.f k bs ps nx a) (picks (fun p => decide (p.f2 = a)) 0 ps) := by
  unfold impl_Control_ledBy.f
  refine pick_cm (L := fun k i s => impl_Control_ledBy.l0 k a s ps (ps.length : Int) i) ps (fun p => decide (p.f2 = a)) (fun s => s) ?_ ?_ ?_
  · intro pre h t s e hlt hs hp u hu
    refine cm_step (fun k => by rw [impl_Control_ledBy.l0]) ?_
    simp only [rdT85_at e, wrap_len hlt (show ps.length ≤ 4611686018427387904 by omega)]
    exact cm_yes (by omega) (cm_yes (by omega) (cm_yes (by omega) (cm_yes (by simpa using hp) (cm_yes (by omega) hu))))
  · intro pre h t s e hlt hs hp u hu
    refine cm_step (fun k => by rw [impl_Control_ledBy.l0]) ?_
    simp only [rdT85_at e, wrap_len hlt (show ps.length ≤ 4611686018427387904 by omega)]
    exact cm_yes (by omega) (cm_yes (by omega) (cm_yes (by omega) (cm_no (by simpa using hp) hu)))
  · intro s
    refine cm_step (fun k => by rw [impl_Control_ledBy.l0]) ?_
    exact cm_no (by omega) (cm_now fun _ => rfl)
theorem leads_both (x : S25) (h : smControl x) (hl : x.f1.length ≤ 5864062014805) (hl0 : x.f0.length ≤ 5864062014805) (a : Int) : ∃ r b, Cm (fun k => spec_LeadsIn.f k x.f0 x.f1 x.f2 a) (r, b) ∧ Cm (fun k => impl_LeadsIn.f k x.f0 x.f1 x.f2 a) (r, b) ∧ r.length ≤ x.f1.length := by
  have hw : wrap64 ((x.f0.length : Int) - 1) = (x.f0.length : Int) - 1 := wrap_in (by omega) (by omega)
  by_cases c : good x = true ∧ 0 ≤ a ∧ a < (x.f0.length : Int)
  · refine ⟨picks (fun p => decide (p.f2 = a)) 0 x.f1, true, ?_, ?_, picks_le _ _ _⟩
    · unfold spec_LeadsIn.f
      refine cm_bind (spec_f x h) (cm_yes c.1 (cm_no (by omega) ?_))
      refine cm_step (fun k => by rw [spec_LeadsIn.j0]) ?_
      exact cm_no (by simp; omega) (specLeads_l a x.f1 hl)
    · unfold impl_LeadsIn.f
      rw [hw]
      refine cm_bind (impl_f x h) (cm_yes c.1 (cm_bind (cm_now fun _ => in_f _ _ _) (cm_yes (by simp; omega) (cm_bind (ledBy_f x.f0 x.f1 x.f2 a hl) (cm_now fun _ => rfl)))))
  · refine ⟨[], false, ?_, ?_, Nat.zero_le _⟩
    · unfold spec_LeadsIn.f
      refine cm_bind (spec_f x h) (cm_if (fun c1 => ?_) (fun c1 => ?_))
      · refine cm_if (fun c2 => ?_) (fun c2 => ?_)
        · refine cm_step (fun k => by rw [spec_LeadsIn.j0]) ?_
          exact cm_yes rfl (cm_now fun _ => rfl)
        · refine cm_step (fun k => by rw [spec_LeadsIn.j0]) ?_
          have c3 : ¬ (0 ≤ a ∧ a < (x.f0.length : Int)) := fun h => c ⟨c1, h⟩
          exact cm_yes (by simp; omega) (cm_now fun _ => rfl)
      · refine cm_step (fun k => by rw [spec_LeadsIn.j0]) ?_
        exact cm_yes rfl (cm_now fun _ => rfl)
    · unfold impl_LeadsIn.f
      rw [hw]
      refine cm_bind (impl_f x h) (cm_if (fun c1 => ?_) (fun c1 => cm_now fun _ => rfl))
      have c3 : ¬ (0 ≤ a ∧ a < (x.f0.length : Int)) := fun h => c ⟨c1, h⟩
      exact cm_bind (cm_now fun _ => in_f _ _ _) (cm_no (by simp; omega) (cm_now fun _ => rfl))
end Go.Proofs.Ytmkiffemanmgcaa.Led
end
section
namespace Go.Proofs.Ytmkiffemanmgcaa.Pure
open Go.RowKit Go.Proofs.Ytmkiffemanmgcaa.P Go.Proofs.YtmkiffemanmgcaaW.PrintWords Go.Proofs.YtmkiffemanmgcaaW.PrintLast Go.Proofs.YtmkiffemanmgcaaW.PrintMore
open Go.Proofs.Ytmkiffemanmgcaa.Pl Go.Proofs.Ytmkiffemanmgcaa.EvN Go.Proofs.Ytmkiffemanmgcaa.Lp Go.Proofs.Ytmkiffemanmgcaa.Hs Go.Proofs.Ytmkiffemanmgcaa.Hg Go.Proofs.Ytmkiffemanmgcaa.Sz Go.Proofs.Ytmkiffemanmgcaa.Control Go.Proofs.Ytmkiffemanmgcaa.Led
set_option linter.unusedVariables false
theorem FnExactLeadsIn : Mk.FnExactLeadsIn_Pure := by
  intro x0 a1 b0 b1
  obtain ⟨z1, cz1, dz1⟩ := szControl_wt x0 b0 1048576 (by omega) (by omega)
  by_cases nz1 : z1 < 0
  · obtain ⟨Kz1, jz1⟩ := cz1; exact ⟨Kz1, z1, jz1 _ (by omega), .inl nz1⟩
  simp only [wControl] at dz1
  obtain ⟨r21, r22, hspec, himpl, hsm⟩ := leads_both (cControl x0) (sm_cControl x0 b0) (by have := b0.2.1.2.1; simp only [cControl, List.length_map]; omega) (by have := b0.1.2.1; simp only [cControl, List.length_map]; omega) a1
  have hsm2 : r21.length ≤ 1048576 := by simp only [cControl, List.length_map] at hsm; unfold wPartitionS at dz1; omega
  obtain ⟨K0, j0⟩ := toControl_f x0 b0
  obtain ⟨K1, j1⟩ := hspec
  obtain ⟨K2, j2⟩ := himpl
  obtain ⟨K3, j3⟩ := eqIntS_same r21 (by first | omega | assumption | exact hsm)
  obtain ⟨K4, j4⟩ := eqControl_same _ (sm_cControl x0 b0)
  obtain ⟨Kz1, jz1⟩ := cz1
  have tb0 : Mk.tot Mk.pcBroker (cControl x0).f0 ≤ 10 * wBrokerS x0.f0 := totBroker_le _
  have tb1 : Mk.tot Mk.pcPartition (cControl x0).f1 ≤ 10 * wPartitionS x0.f1 := totPartition_le _
  have tb2 : Mk.tot (fun _ => 1) r21 = _ := Mk.tot_one _
  exact ⟨K0 + K1 + K2 + K3 + K4 + Kz1, z1, jz1 _ (by omega), .inr ⟨nz1, (cControl x0).f0, (cControl x0).f1, (cControl x0).f2, r21, r22, j0 _ (by omega), j1 _ (by omega), j2 _ (by omega), j3 _ (by omega), j4 _ (by omega), (by omega), (by omega), (by omega)⟩⟩
end Go.Proofs.Ytmkiffemanmgcaa.Pure
end
