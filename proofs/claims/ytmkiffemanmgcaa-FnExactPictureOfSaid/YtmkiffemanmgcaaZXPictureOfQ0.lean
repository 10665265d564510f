-- Written by programs of this session (wip/prune.py, wip/xp.py), out of the translation and the printed words; what the law does not reach is left out. Not trusted: Lean checks it.
import Derived.Laws.World
import Derived.Test.YtmkiffemanmgcaaZXPictureOfPx0
import Derived.Test.YtmkiffemanmgcaaZXPictureOfW0
import Derived.Test.YtmkiffemanmgcaaZXPictureOfPx12
import Derived.Test.YtmkiffemanmgcaaZXPictureOfPx17
import Derived.Test.YtmkiffemanmgcaaZXPictureOfPx18
import Derived.Test.YtmkiffemanmgcaaZXPictureOfPx22
import Derived.Test.YtmkiffemanmgcaaZXPictureOfPx27
import Derived.Test.YtmkiffemanmgcaaZXPictureOfPxok
import Derived.Test.YtmkiffemanmgcaaZXPictureOfPx2
import Derived.Test.YtmkiffemanmgcaaZXPictureOfPx1
import Derived.Test.YtmkiffemanmgcaaZXPictureOfPx3
import Derived.Test.YtmkiffemanmgcaaZXPictureOfPx11
import Derived.Test.YtmkiffemanmgcaaZXPictureOfPx10
import Derived.Test.YtmkiffemanmgcaaZXPictureOfPx16
import Derived.Laws.BitsAllLaws
import Derived.Test.YtmkiffemanmgcaaZXPictureOfPx7
import Derived.Test.YtmkiffemanmgcaaZXPictureOfPx9
import Derived.Test.YtmkiffemanmgcaaZXPictureOfPx19
import Derived.Test.YtmkiffemanmgcaaZXPictureOfPx20
import Derived.Test.YtmkiffemanmgcaaZXPictureOfPx23
import Derived.Test.YtmkiffemanmgcaaZXPictureOfPx24
import Derived.Test.YtmkiffemanmgcaaZXPictureOfPx21
section
namespace Go.Proofs.Ytmkiffemanmgcaa.Mk
open Go.RowKit Go.Proofs.YtmkiffemanmgcaaW.PrintWords Go.Proofs.YtmkiffemanmgcaaW.PrintLast
set_option linter.unusedVariables false
set_option linter.unusedSimpArgs false
abbrev Pl := Nat × Nat × Bool
def adr (p : Pl) : Addr := ⟨p.1, p.2.1, none⟩
def three (k : Int) : Bool := k % 3 == 0
def mkv (t : Bool) (k : Int) : Value := if t = true then .bool (three k) else .int .i64 k
def plain : Bool → Value → Prop
  | true, u => ∃ z, u = .bool z
  | false, u => ∃ z : Int, u = .int .i64 z
theorem plain_mkv (t : Bool) (k : Int) : plain t (mkv t k) := by cases t <;> exact ⟨_, rfl⟩
theorem plain_one {s t : Bool} {u : Value} (h : plain s u) (h2 : plain t u) : s = t := by
  cases s <;> cases t <;> obtain ⟨a, rfl⟩ := h <;> obtain ⟨b, hb⟩ := h2 <;> first | rfl | cases hb
def puts : World → List Pl → Int → World
  | w, [], _ => w
  | w, p :: l, k => puts (w.setCell (adr p) (mkv p.2.2 k)) l (k + 1)
theorem set_size (w : World) (a : Addr) (u : Value) : (w.setCell a u).heap.size = w.heap.size := by simp [World.setCell]
theorem puts_size : ∀ (l : List Pl) (w : World) (k : Int), (puts w l k).heap.size = w.heap.size
  | [], _, _ => rfl
  | p :: l, w, k => by rw [puts, puts_size l, set_size]
theorem set_cong {w1 w2 : World} {i : Nat} (h : w1.heap[i]? = w2.heap[i]?) (a : Addr) (u : Value) : (w1.setCell a u).heap[i]? = (w2.setCell a u).heap[i]? := by
  simp only [World.setCell, Array.getElem?_modify, h]
theorem puts_cong {i : Nat} : ∀ (l : List Pl) {w1 w2 : World} (k : Int), w1.heap[i]? = w2.heap[i]? → (puts w1 l k).heap[i]? = (puts w2 l k).heap[i]?
  | [], _, _, _, h => h
  | p :: l, _, _, k, h => puts_cong l (k + 1) (set_cong h _ _)
theorem puts_app : ∀ (l m : List Pl) (w : World) (k : Int), puts w (l ++ m) k = puts (puts w l k) m (k + (l.length : Int))
  | [], m, w, k => by simp [puts]
  | p :: l, m, w, k => by
    rw [List.cons_append, puts, puts_app l m, puts]
    congr 1
    simp only [List.length_cons]
    omega
theorem puts_far {i : Nat} : ∀ (l : List Pl) (w : World) (k : Int), (∀ p ∈ l, p.1 ≠ i) → (puts w l k).heap[i]? = w.heap[i]?
  | [], _, _, _ => rfl
  | p :: l, w, k, h => by
    rw [puts, puts_far l _ _ (fun q hq => h q (List.mem_cons_of_mem _ hq))]
    exact Below.heap_setCell w _ _ _ (fun e => h p List.mem_cons_self e.symm)
structure Wr (w w' : World) (ps : List Pl) (k : Int) : Prop where
  os : w'.os = w.os
  tape : w'.tape = w.tape
  output : w'.output = w.output
  size : w.heap.size ≤ w'.heap.size
  block : ∀ i, i < w.heap.size → w'.heap[i]? = (puts w ps k).heap[i]?
theorem Wr.refl (w : World) (k : Int) : Wr w w [] k := ⟨rfl, rfl, rfl, Nat.le_refl _, fun _ _ => rfl⟩
theorem Wr.below {w w1 w2 : World} {ps : List Pl} {k : Int} (h : Wr w w1 ps k) (hb : Below w1.heap.size w1 w2) : Wr w w2 ps k :=
  ⟨hb.os.trans h.os, hb.tape.trans h.tape, hb.output.trans h.output, Nat.le_trans h.size hb.size, fun i hi => (hb.block i (Nat.lt_of_lt_of_le hi h.size)).trans (h.block i hi)⟩
theorem Wr.trans {w w1 w2 : World} {ps bs : List Pl} {k j : Int} (h : Wr w w1 ps k) (g : Wr w1 w2 bs j) (hj : j = k + (ps.length : Int)) : Wr w w2 (ps ++ bs) k := by
  subst hj
  refine ⟨g.os.trans h.os, g.tape.trans h.tape, g.output.trans h.output, Nat.le_trans h.size g.size, fun i hi => ?_⟩
  rw [g.block i (Nat.lt_of_lt_of_le hi h.size), puts_app]
  exact puts_cong bs _ (h.block i hi)
theorem Wr.one (w : World) (p : Pl) (k : Int) : Wr w (w.setCell (adr p) (mkv p.2.2 k)) [p] k :=
  ⟨rfl, rfl, rfl, Nat.le_of_eq (set_size w _ _).symm, fun _ _ => rfl⟩
theorem Wr.put {w w1 : World} {ps : List Pl} {k j : Int} (h : Wr w w1 ps k) (p : Pl) (hj : j = k + (ps.length : Int)) : Wr w (w1.setCell (adr p) (mkv p.2.2 j)) (ps ++ [p]) k :=
  h.trans (Wr.one w1 p j) hj
theorem Wr.kept {w w' : World} {ps : List Pl} {k : Int} {S : Nat → Prop} (h : Wr w w' ps k) (hS : ∀ p ∈ ps, S p.1) : Kept w w' S :=
  ⟨h.size, fun i hi hn => (h.block i hi).trans (puts_far ps w k (fun p hp e => hn (e ▸ hS p hp)))⟩
theorem Wr.under {w0 w w' : World} {ps : List Pl} {k : Int} (h : Wr w w' ps k) (hb : Below w0.heap.size w0 w) (ha : ∀ p ∈ ps, w0.heap.size ≤ p.1) : Below w0.heap.size w0 w' :=
  ⟨h.os.trans hb.os, h.tape.trans hb.tape, h.output.trans hb.output, Nat.le_trans hb.size h.size, fun i hi =>
    ((h.block i (Nat.lt_of_lt_of_le hi hb.size)).trans (puts_far ps w k (fun p hp e => by have := ha p hp; omega))).trans (hb.block i hi)⟩
def okc (w : World) (p : Pl) : Prop := (∃ u, w.cell? (adr p) = some u ∧ plain p.2.2 u) ∧ w.frozen? (adr p) = false
def okh (w : World) (q : (Nat × Nat) × Value) : Prop := w.cell? ⟨q.1.1, q.1.2, none⟩ = some q.2 ∧ ∃ A n c, q.2 = .slice A n c
theorem adr_ne {p q : Pl} (h : ¬ (p.1 = q.1 ∧ p.2.1 = q.2.1)) : adr p ≠ adr q := by
  intro e
  injection e with e1 e2
  exact h ⟨e1, e2⟩
theorem okc_set {w : World} {p q : Pl} (hp : okc w p) (hq : okc w q) (k : Int) : okc (w.setCell (adr p) (mkv p.2.2 k)) q := by
  refine ⟨?_, by rw [World.frozen?_setCell]; exact hq.2⟩
  obtain ⟨⟨u, hu, hpu⟩, _⟩ := hp
  obtain ⟨⟨v, hv, hpv⟩, _⟩ := hq
  by_cases c : p.1 = q.1 ∧ p.2.1 = q.2.1
  · have e : adr p = adr q := by unfold adr; rw [c.1, c.2]
    rw [e] at hu ⊢
    rw [hu] at hv
    cases hv
    exact ⟨_, World.cell?_setCell_same _ _ _ hu, by rw [plain_one hpv hpu]; exact plain_mkv _ _⟩
  · exact ⟨v, by rw [World.cell?_setCell_other (h := adr_ne c)]; exact hv, hpv⟩
theorem okh_set {w : World} {p : Pl} {q : (Nat × Nat) × Value} (hp : okc w p) (hq : okh w q) (k : Int) : okh (w.setCell (adr p) (mkv p.2.2 k)) q := by
  obtain ⟨⟨u, hu, hpu⟩, _⟩ := hp
  obtain ⟨hv, A, n, c, he⟩ := hq
  refine ⟨?_, A, n, c, he⟩
  rw [World.cell?_setCell_other]
  · exact hv
  · intro e
    rw [e, hv, he] at hu
    cases hu
    cases hb : p.2.2 <;> rw [hb] at hpu <;> obtain ⟨z, hz⟩ := hpu <;> cases hz
structure Pt (w : World) (hs : List ((Nat × Nat) × Value)) (ps : List Pl) : Prop where
  h : ∀ q ∈ hs, okh w q
  a : ∀ p ∈ ps, okc w p
theorem Pt.nil (w : World) : Pt w [] [] := ⟨fun _ h => by simp at h, fun _ h => by simp at h⟩
theorem Pt.app {w : World} {h1 h2 : List ((Nat × Nat) × Value)} {a1 a2 : List Pl} (x : Pt w h1 a1) (y : Pt w h2 a2) : Pt w (h1 ++ h2) (a1 ++ a2) :=
  ⟨fun q hq => (List.mem_append.1 hq).elim (x.h q) (y.h q), fun p hp => (List.mem_append.1 hp).elim (x.a p) (y.a p)⟩
theorem Pt.left {w : World} {h1 h2 : List ((Nat × Nat) × Value)} {a1 a2 : List Pl} (x : Pt w (h1 ++ h2) (a1 ++ a2)) : Pt w h1 a1 :=
  ⟨fun q hq => x.h q (List.mem_append_left _ hq), fun p hp => x.a p (List.mem_append_left _ hp)⟩
theorem Pt.right {w : World} {h1 h2 : List ((Nat × Nat) × Value)} {a1 a2 : List Pl} (x : Pt w (h1 ++ h2) (a1 ++ a2)) : Pt w h2 a2 :=
  ⟨fun q hq => x.h q (List.mem_append_right _ hq), fun p hp => x.a p (List.mem_append_right _ hp)⟩
theorem Pt.puts {hs : List ((Nat × Nat) × Value)} {ps : List Pl} : ∀ (bs : List Pl) {w : World} (k : Int), Pt w hs ps → (∀ p ∈ bs, okc w p) → Pt (puts w bs k) hs ps
  | [], _, _, h, _ => h
  | p :: bs, w, k, h, hb => by
    have hp := hb p List.mem_cons_self
    exact Pt.puts bs (k + 1) ⟨fun q hq => okh_set hp (h.h q hq) k, fun q hq => okc_set hp (h.a q hq) k⟩ (fun q hq => okc_set hp (hb q (List.mem_cons_of_mem _ hq)) k)
theorem okc_block {w w' : World} {p : Pl} (h : okc w p) (hb : ∀ i, i < w.heap.size → w'.heap[i]? = w.heap[i]?) : okc w' p := by
  obtain ⟨⟨u, hu, hp⟩, hf⟩ := h
  have := hb _ (World.block_lt_of_cell? _ _ hu)
  exact ⟨⟨u, by rw [World.cell?_of_block this]; exact hu, hp⟩, by rw [World.frozen?_of_block this]; exact hf⟩
theorem okh_block {w w' : World} {q : (Nat × Nat) × Value} (h : okh w q) (hb : ∀ i, i < w.heap.size → w'.heap[i]? = w.heap[i]?) : okh w' q :=
  ⟨by rw [World.cell?_of_block (hb _ (World.block_lt_of_cell? _ _ h.1))]; exact h.1, h.2⟩
theorem Pt.block {w w' : World} {hs : List ((Nat × Nat) × Value)} {ps : List Pl} (h : Pt w hs ps) (hb : ∀ i, i < w.heap.size → w'.heap[i]? = w.heap[i]?) : Pt w' hs ps :=
  ⟨fun q hq => okh_block (h.h q hq) hb, fun p hp => okc_block (h.a p hp) hb⟩
theorem Pt.below {w w' : World} {hs : List ((Nat × Nat) × Value)} {ps : List Pl} (h : Pt w hs ps) (hb : Below w.heap.size w w') : Pt w' hs ps := h.block hb.block
theorem Pt.wr {w w' : World} {hs : List ((Nat × Nat) × Value)} {ps bs : List Pl} {k : Int} (h : Pt w hs ps) (hw : Wr w w' bs k) (hb : ∀ p ∈ bs, okc w p) : Pt w' hs ps :=
  (h.puts bs k hb).block (fun i hi => hw.block i (by rwa [puts_size] at hi))
theorem Pt.set {w : World} {hs : List ((Nat × Nat) × Value)} {ps : List Pl} (h : Pt w hs ps) {p : Pl} (hp : okc w p) (k : Int) : Pt (w.setCell (adr p) (mkv p.2.2 k)) hs ps :=
  ⟨fun q hq => okh_set hp (h.h q hq) k, fun q hq => okc_set hp (h.a q hq) k⟩
def Hs (w : World) (ps : List Pl) (k : Int) : Prop := ∀ (i : Nat) (p : Pl), ps[i]? = some p → w.cell? (adr p) = some (mkv p.2.2 (k + (i : Int)))
theorem Hs.block {w w' : World} {ps : List Pl} {k : Int} (h : Hs w ps k) (hb : ∀ i, i < w.heap.size → w'.heap[i]? = w.heap[i]?) : Hs w' ps k :=
  fun i p hp => by rw [World.cell?_of_block (hb _ (World.block_lt_of_cell? _ _ (h i p hp)))]; exact h i p hp
theorem Hs.below {w w' : World} {ps : List Pl} {k : Int} (h : Hs w ps k) (hb : Below w.heap.size w w') : Hs w' ps k := h.block hb.block
theorem Hs.head {w : World} {p : Pl} {ps : List Pl} {k : Int} (h : Hs w (p :: ps) k) : w.cell? (adr p) = some (mkv p.2.2 k) := by
  have := h 0 p rfl
  simpa using this
theorem Hs.left {w : World} {ps bs : List Pl} {k : Int} (h : Hs w (ps ++ bs) k) : Hs w ps k := fun i p hp => h i p (by
  rw [List.getElem?_append_left (List.getElem?_eq_some_iff.1 hp).1]; exact hp)
theorem Hs.right {w : World} {ps bs : List Pl} {k : Int} (h : Hs w (ps ++ bs) k) : Hs w bs (k + (ps.length : Int)) := fun i p hp => by
  have := h (ps.length + i) p (by rw [List.getElem?_append_right (by omega), Nat.add_sub_cancel_left]; exact hp)
  rw [this]
  congr 2
  omega
def apart (ps : List Pl) : Prop := (ps.map fun p => (p.1, p.2.1)).Nodup
theorem puts_cell : ∀ (l : List Pl) (w : World) (k : Int) (q : Pl), (∀ p ∈ l, ¬ (p.1 = q.1 ∧ p.2.1 = q.2.1)) → (puts w l k).cell? (adr q) = w.cell? (adr q)
  | [], _, _, _, _ => rfl
  | p :: l, w, k, q, h => by
    rw [puts, puts_cell l _ _ q (fun r hr => h r (List.mem_cons_of_mem _ hr)), World.cell?_setCell_other (h := adr_ne (h p List.mem_cons_self))]
theorem hs_puts : ∀ (ps : List Pl) {w : World} (k : Int), apart ps → (∀ p ∈ ps, okc w p) → Hs (puts w ps k) ps k
  | [], _, _, _, _ => fun i p h => by simp at h
  | q :: ps, w, k, hn, ho => by
    have hq := ho q List.mem_cons_self
    unfold apart at hn
    rw [List.map_cons, List.nodup_cons] at hn
    have ih := hs_puts ps (w := w.setCell (adr q) (mkv q.2.2 k)) (k + 1) hn.2 (fun p hp => okc_set hq (ho p (List.mem_cons_of_mem _ hp)) k)
    intro i p hp
    cases i with
    | zero =>
      simp only [List.getElem?_cons_zero, Option.some.injEq] at hp
      subst hp
      rw [puts, puts_cell ps _ _ q (fun r hr e => hn.1 (List.mem_map.2 ⟨r, hr, by rw [e.1, e.2]⟩))]
      obtain ⟨⟨u, hu, _⟩, _⟩ := hq
      rw [World.cell?_setCell_same _ _ _ hu]
      congr 2
      omega
    | succ i =>
      simp only [List.getElem?_cons_succ] at hp
      rw [puts, ih i p hp]
      congr 2
      omega
theorem Wr.hs {w w' : World} {ps : List Pl} {k : Int} (h : Wr w w' ps k) (hn : apart ps) (ho : ∀ p ∈ ps, okc w p) : Hs w' ps k :=
  (hs_puts ps k hn ho).block (fun i hi => h.block i (by rwa [puts_size] at hi))
structure Md where
  sz : Nat
  Sh : Nat → Nat → List ((Nat × Nat) × Value) → List Pl → Prop
namespace Md
def int : Md := ⟨1, fun g o hs ps => hs = [] ∧ ps = [(g, o, false)]⟩
def bool : Md := ⟨1, fun g o hs ps => hs = [] ∧ ps = [(g, o, true)]⟩
def pair (a b : Md) : Md := ⟨a.sz + b.sz, fun g o hs ps => ∃ h1 a1 h2 a2, a.Sh g o h1 a1 ∧ b.Sh g (o + a.sz) h2 a2 ∧ hs = h1 ++ h2 ∧ ps = a1 ++ a2⟩
def N (d : Md) (g : Nat) : Nat → Nat → List ((Nat × Nat) × Value) → List Pl → Prop
  | _, 0, hs, ps => hs = [] ∧ ps = []
  | j, n + 1, hs, ps => ∃ h1 a1 h2 a2, d.Sh g (j * d.sz) h1 a1 ∧ N d g (j + 1) n h2 a2 ∧ hs = h1 ++ h2 ∧ ps = a1 ++ a2
def Row (d : Md) (v : Value) (hs : List ((Nat × Nat) × Value)) (ps : List Pl) : Prop :=
  ∃ A n c, v = .slice A n c ∧ n ≤ c ∧ n ≤ 9223372036854775807 ∧ ((n = 0 ∧ hs = [] ∧ ps = []) ∨ ∃ g, A = some ⟨g, 0, none⟩ ∧ d.N g 0 n hs ps)
def slice (d : Md) : Md := ⟨1, fun g o hs ps => ∃ v h1, d.Row v h1 ps ∧ hs = ((g, o), v) :: h1⟩
end Md
end Go.Proofs.Ytmkiffemanmgcaa.Mk
end
section
namespace Go.Proofs.Ytmkiffemanmgcaa.Mk
open Go.RowKit Go.Proofs.YtmkiffemanmgcaaW.PrintWords Go.Proofs.YtmkiffemanmgcaaW.PrintLast
set_option linter.unusedVariables false
set_option linter.unusedSimpArgs false
theorem apart_nil : apart [] := List.nodup_nil
theorem apart_app {a b : List Pl} (ha : apart a) (hb : apart b) (h : ∀ p ∈ a, ∀ q ∈ b, ¬ (p.1 = q.1 ∧ p.2.1 = q.2.1)) : apart (a ++ b) := by
  unfold apart at *
  rw [List.map_append, List.nodup_append]
  refine ⟨ha, hb, fun x hx y hy e => ?_⟩
  obtain ⟨p, hp, rfl⟩ := List.mem_map.1 hx
  obtain ⟨q, hq, rfl⟩ := List.mem_map.1 hy
  injection e with e1 e2
  exact h p hp q hq ⟨e1, e2⟩
structure Br {α : Type} (d : Kd α) (m : Md) (c inn : α → Nat) (ex : α → Prop) : Prop where
  sz : m.sz = d.sz
  el : ∀ {w : World} {base : Nat} {ok : Nat → Prop} {x : α} {cs : List Value} {g o : Nat}, d.M w base ok x cs → (∀ k, ok k → k ≠ g) → (∀ j u, cs[j]? = some u → w.cell? ⟨g, o + j, none⟩ = some u) → (∀ j, w.frozen? ⟨g, o + j, none⟩ = false) →
    ∃ hs ps, m.Sh g o hs ps ∧ Pt w hs ps ∧ ps.length = c x ∧ (ex x → apart ps) ∧ (∀ p ∈ ps, (p.1 = g ∧ o ≤ p.2.1 ∧ p.2.1 < o + m.sz) ∨ (ok p.1 ∧ inn x ≠ 0)) ∧ ∀ q ∈ hs, q.1.1 = g ∨ ok q.1.1
namespace Br
variable {α β : Type}
theorem int : Br (Kd.int .i64) Md.int (fun _ => 1) (fun _ => 0) (fun _ => True) where
  sz := rfl
  el := by
    intro w base ok x cs g o h _ hc hf
    obtain rfl : cs = [.int .i64 x] := h
    refine ⟨[], [(g, o, false)], ⟨rfl, rfl⟩, ⟨fun _ h => by simp at h, fun p hp => ?_⟩, rfl, fun _ => by simp [apart], fun p hp => ?_, fun _ h => by simp at h⟩
    · obtain rfl := List.mem_singleton.1 hp
      exact ⟨⟨_, hc 0 _ rfl, x, rfl⟩, hf 0⟩
    · obtain rfl := List.mem_singleton.1 hp
      exact .inl ⟨rfl, Nat.le_refl _, Nat.lt_succ_self _⟩
theorem bool : Br Kd.bool Md.bool (fun _ => 1) (fun _ => 0) (fun _ => True) where
  sz := rfl
  el := by
    intro w base ok x cs g o h _ hc hf
    obtain rfl : cs = [.bool x] := h
    refine ⟨[], [(g, o, true)], ⟨rfl, rfl⟩, ⟨fun _ h => by simp at h, fun p hp => ?_⟩, rfl, fun _ => by simp [apart], fun p hp => ?_, fun _ h => by simp at h⟩
    · obtain rfl := List.mem_singleton.1 hp
      exact ⟨⟨_, hc 0 _ rfl, x, rfl⟩, hf 0⟩
    · obtain rfl := List.mem_singleton.1 hp
      exact .inl ⟨rfl, Nat.le_refl _, Nat.lt_succ_self _⟩
theorem pair {d1 : Kd α} {d2 : Kd β} {m1 m2 : Md} {c1 i1 : α → Nat} {c2 i2 : β → Nat} {e1 : α → Prop} {e2 : β → Prop} (h1 : Br d1 m1 c1 i1 e1) (h2 : Br d2 m2 c2 i2 e2) :
    Br (Kd.pair d1 d2) (Md.pair m1 m2) (fun x => c1 x.1 + c2 x.2) (fun x => i1 x.1 + i2 x.2) (fun x => e1 x.1 ∧ e2 x.2 ∧ (i1 x.1 = 0 ∨ i2 x.2 = 0)) where
  sz := by show m1.sz + m2.sz = d1.sz + d2.sz; rw [h1.sz, h2.sz]
  el := by
    rintro w base ok x cs g o ⟨u0, u1, rfl, hM1, hM2⟩ hg hc hf
    have hl := d1.K_len (d1.K_of_M hM1)
    obtain ⟨s1, a1, sh1, p1, l1, x1, b1, q1⟩ := h1.el (g := g) (o := o) hM1 hg (fun j u hu => hc j u (by rw [List.getElem?_append_left (List.getElem?_eq_some_iff.1 hu).1]; exact hu)) hf
    obtain ⟨s2, a2, sh2, p2, l2, x2, b2, q2⟩ := h2.el (g := g) (o := o + m1.sz) hM2 hg (fun j u hu => by
      have := hc (m1.sz + j) u (by rw [List.getElem?_append_right (by rw [hl, h1.sz]; omega), hl, h1.sz, Nat.add_sub_cancel_left]; exact hu)
      rw [← Nat.add_assoc] at this
      exact this) (fun j => by have := hf (m1.sz + j); rw [← Nat.add_assoc] at this; exact this)
    refine ⟨s1 ++ s2, a1 ++ a2, ⟨s1, a1, s2, a2, sh1, sh2, rfl, rfl⟩, p1.app p2, by rw [List.length_append, l1, l2], ?_, ?_, fun q hq => (List.mem_append.1 hq).elim (q1 q) (q2 q)⟩
    · rintro ⟨y1, y2, y3⟩
      refine apart_app (x1 y1) (x2 y2) (fun p hp q hq e => ?_)
      rcases b1 p hp with hp' | ⟨hp', hp2⟩
      · rcases b2 q hq with hq' | ⟨hq', _⟩
        · omega
        · exact hg _ hq' (by rw [← e.1]; exact hp'.1)
      · rcases b2 q hq with hq' | ⟨_, hq2⟩
        · exact hg _ hp' (by rw [e.1]; exact hq'.1)
        · exact y3.elim hp2 hq2
    · intro p hp
      show (p.1 = g ∧ o ≤ p.2.1 ∧ p.2.1 < o + (m1.sz + m2.sz)) ∨ _
      rcases List.mem_append.1 hp with hp | hp
      · rcases b1 p hp with hp' | hp'
        · exact .inl ⟨hp'.1, by omega, by omega⟩
        · exact .inr ⟨hp'.1, by have := hp'.2; omega⟩
      · rcases b2 p hp with hp' | hp'
        · exact .inl ⟨hp'.1, by omega, by omega⟩
        · exact .inr ⟨hp'.1, by have := hp'.2; omega⟩
theorem iso {d : Kd α} {m : Md} {c i : α → Nat} {e : α → Prop} (h : Br d m c i e) (f : β → α) : Br (Kd.iso d f) m (fun x => c (f x)) (fun x => i (f x)) (fun x => e (f x)) where
  sz := h.sz
  el := fun hM => h.el hM
end Br
section
variable {α : Type} {d : Kd α} {m : Md} {c inn : α → Nat} {ex : α → Prop}
def tot (c : α → Nat) (xs : List α) : Nat := (xs.map c).sum
theorem tot_drop (c : α → Nat) (xs : List α) (j : Nat) (h : j < xs.length) : tot c (xs.drop j) = c xs[j] + tot c (xs.drop (j + 1)) := by
  unfold tot
  rw [List.drop_eq_getElem_cons h, List.map_cons, List.sum_cons]
theorem row_n (hb : Br d m c inn ex) {w : World} {base g : Nat} {ok : Nat → Prop} {Q : Nat → Nat → Prop} (xs : List α)
    (E : ∀ i (h : i < xs.length), ∃ cs, d.M w base (fun k => ok k ∧ k ≠ g ∧ Q i k) xs[i] cs ∧ (∀ j u, cs[j]? = some u → w.cell? ⟨g, i * m.sz + j, none⟩ = some u) ∧ ∀ j, w.frozen? ⟨g, i * m.sz + j, none⟩ = false) :
    ∀ n j, j + n = xs.length → ∃ hs ps, m.N g j n hs ps ∧ Pt w hs ps ∧ ps.length = tot c (xs.drop j) ∧ (∀ q ∈ hs, q.1.1 = g ∨ ok q.1.1) ∧
      (∀ p ∈ ps, (p.1 = g ∧ j * m.sz ≤ p.2.1) ∨ (ok p.1 ∧ p.1 ≠ g ∧ ∃ i, j ≤ i ∧ Q i p.1 ∧ ∃ h : i < xs.length, inn xs[i] ≠ 0)) ∧
      ((∀ x ∈ xs, ex x) → ((∀ i i' k, Q i k → Q i' k → i = i') ∨ ∀ x ∈ xs, inn x = 0) → apart ps)
  | 0, j, e => ⟨[], [], ⟨rfl, rfl⟩, Pt.nil w, by
      rw [List.drop_eq_nil_of_le (by omega)]
      rfl, fun q hq => by simp at hq, fun p hp => by simp at hp, fun _ _ => apart_nil⟩
  | n + 1, j, e => by
    have hj : j < xs.length := by omega
    obtain ⟨cs, hM, hc, hf⟩ := E j hj
    obtain ⟨s1, a1, sh1, p1, l1, x1, b1, q1⟩ := hb.el (g := g) (o := j * m.sz) hM (fun k hk => hk.2.1) hc hf
    obtain ⟨s2, a2, sh2, p2, l2, q2, b2, x2⟩ := row_n hb xs E n (j + 1) (by omega)
    have hmul : (j + 1) * m.sz = j * m.sz + m.sz := Nat.succ_mul _ _
    refine ⟨s1 ++ s2, a1 ++ a2, ⟨s1, a1, s2, a2, sh1, sh2, rfl, rfl⟩, p1.app p2, by rw [List.length_append, l1, l2, tot_drop c xs j hj], fun q hq => (List.mem_append.1 hq).elim (fun h => (q1 q h).imp_right (·.1)) (q2 q), ?_, ?_⟩
    · intro p hp
      rcases List.mem_append.1 hp with hp | hp
      · rcases b1 p hp with hp' | hp'
        · exact .inl ⟨hp'.1, hp'.2.1⟩
        · exact .inr ⟨hp'.1.1, hp'.1.2.1, j, Nat.le_refl _, hp'.1.2.2, hj, hp'.2⟩
      · rcases b2 p hp with hp' | ⟨h1, h2, i, hi, hq, hl, hn⟩
        · exact .inl ⟨hp'.1, by omega⟩
        · exact .inr ⟨h1, h2, i, by omega, hq, hl, hn⟩
    · intro y1 y2
      refine apart_app (x1 (y1 _ (List.getElem_mem hj))) (x2 y1 y2) (fun p hp q hq e => ?_)
      rcases b1 p hp with hp' | hp'
      · rcases b2 q hq with hq' | hq'
        · omega
        · exact hq'.2.1 (by rw [← e.1]; exact hp'.1)
      · rcases b2 q hq with hq' | ⟨_, _, i, hi, hqi, hl, hn⟩
        · exact hp'.1.2.1 (by rw [e.1]; exact hq'.1)
        · rcases y2 with y2 | y2
          · have := y2 j i p.1 hp'.1.2.2 (by rw [e.1]; exact hqi)
            omega
          · exact hn (y2 _ (List.getElem_mem hl))
theorem row_R (hb : Br d m c inn ex) {e base : Nat} {w : World} {ok : Nat → Prop} {v : Value} {xs : List α} (h : d.R e w base ok v xs) :
    ∃ hs ps, m.Row v hs ps ∧ Pt w hs ps ∧ ps.length = tot c xs ∧ (∀ q ∈ hs, ok q.1.1) ∧ (∀ p ∈ ps, ok p.1 ∧ (some p.1 = v.ownBlock ∨ ∃ x ∈ xs, inn x ≠ 0)) ∧ ((∀ x ∈ xs, ex x) → (∀ x ∈ xs, inn x = 0) → apart ps) := by
  obtain ⟨A, cp, rfl, hle, hC⟩ := Kd.R_reads h
  have hmax : xs.length ≤ 9223372036854775807 := hC.2.1
  by_cases hp : 0 < xs.length
  · obtain ⟨g, cap, he, _, _, _⟩ := Kd.R_form h hp
    injection he with h1 h2 h3
    subst h1
    obtain ⟨z⟩ : Nonempty α := ⟨xs[0]⟩
    obtain ⟨hs, ps, hN, hPt, hl, hq0, hbk, hx⟩ := row_n hb (g := g) (ok := ok) (Q := fun _ _ => True) (base := base) (w := w) xs (fun i hi => by
      obtain ⟨cs, _, hM, hc, hf⟩ := Kd.R_elem h z (i : Int) (by omega) (by omega)
      rw [Int.toNat_natCast] at hM hc hf
      rw [List.getD_eq_getElem?_getD, List.getElem?_eq_getElem hi, Option.getD_some] at hM
      rw [← hb.sz] at hc hf
      exact ⟨cs, d.M_mono (fun k hk => ⟨hk.1, hk.2, trivial⟩) hM, hc, hf⟩) xs.length 0 (by omega)
    refine ⟨hs, ps, ⟨_, _, _, rfl, hle, hmax, .inr ⟨g, rfl, hN⟩⟩, hPt, by rw [hl, List.drop_zero], fun q hq => (hq0 q hq).elim (fun e => by rw [e]; exact h.1 g rfl) id, fun p hp => ?_, fun y1 y2 => hx y1 (.inr y2)⟩
    rcases hbk p hp with hp' | ⟨hp', _, i, _, _, hl, hn⟩
    · exact ⟨by rw [hp'.1]; exact h.1 g rfl, .inl (by rw [hp'.1]; rfl)⟩
    · exact ⟨hp', .inr ⟨_, List.getElem_mem hl, hn⟩⟩
  · have h0 : xs = [] := List.eq_nil_of_length_eq_zero (by omega)
    subst h0
    exact ⟨[], [], ⟨_, _, _, rfl, hle, hmax, .inl ⟨rfl, rfl, rfl⟩⟩, Pt.nil w, rfl, fun q hq => by simp at hq, fun p hp => by simp at hp, fun _ _ => apart_nil⟩
theorem Br.slice (hb : Br d m c inn ex) (e : Nat) (h0 : ∀ x, inn x = 0) : Br (Kd.slice e d) (Md.slice m) (fun xs => tot c xs) (fun xs => tot c xs) (fun xs => ∀ x ∈ xs, ex x) where
  sz := rfl
  el := by
    rintro w base ok x cs g o ⟨v, rfl, hR⟩ hg hc hf
    obtain ⟨hs, ps, hr, hPt, hl, hq0, hbk, hx⟩ := row_R hb hR
    obtain ⟨A, n, cp, hv, _⟩ := hr
    refine ⟨((g, o), v) :: hs, ps, ⟨v, hs, ⟨A, n, cp, hv, by assumption⟩, rfl⟩, ⟨fun q hq => ?_, hPt.a⟩, hl, fun y => hx y (fun x _ => h0 x), fun p hp => .inr ⟨(hbk p hp).1, ?_⟩, fun q hq => ?_⟩
    · rcases List.mem_cons.1 hq with rfl | hq
      · exact ⟨hc 0 _ rfl, A, n, cp, hv⟩
      · exact hPt.h q hq
    · show tot c x ≠ 0
      have := List.length_pos_of_mem hp
      omega
    · rcases List.mem_cons.1 hq with rfl | hq
      · exact .inl rfl
      · exact .inr (hq0 q hq)
end
structure Sg (w : World) (k : Int) (wr : World) (pre : List Pl) (hs : List ((Nat × Nat) × Value)) (ps : List Pl) (kk : Int) : Prop where
  ek : kk = k + (pre.length : Int)
  pt : Pt wr hs ps
  wr : Wr w wr pre k
namespace Sg
variable {w wr w2 : World} {k kk : Int} {pre ps qs a1 a2 : List Pl} {hs h1 h2 : List ((Nat × Nat) × Value)}
theorem start (h : Pt w hs ps) (k : Int) : Sg w k w [] hs ps k := ⟨by simp, h, Wr.refl w k⟩
theorem put (h : Sg w k wr pre hs ps kk) {b o : Nat} {t : Bool} (hm : (b, o, t) ∈ ps) {v : Value} (hv : v = mkv t kk) : Sg w k (wr.setCell ⟨b, o, none⟩ v) (pre ++ [(b, o, t)]) hs ps (kk + 1) := by
  subst hv
  refine ⟨by rw [h.ek, List.length_append, List.length_singleton]; omega, h.pt.set (p := (b, o, t)) (h.pt.a _ hm) kk, h.wr.put (b, o, t) h.ek⟩
theorem call (h : Sg w k wr pre hs ps kk) (hw : Wr wr w2 qs kk) (hq : ∀ q ∈ qs, q ∈ ps) : Sg w k w2 (pre ++ qs) hs ps (kk + (qs.length : Int)) :=
  ⟨by rw [h.ek, List.length_append]; omega, h.pt.wr hw (fun p hp => h.pt.a p (hq p hp)), h.wr.trans hw h.ek⟩
theorem below (h : Sg w k wr pre hs ps kk) (hb : Below wr.heap.size wr w2) : Sg w k w2 pre hs ps kk := ⟨h.ek, h.pt.below hb, h.wr.below hb⟩
theorem rest (h : Sg w k wr pre (h1 ++ h2) (a1 ++ a2) kk) : Sg w k wr pre h2 a2 kk := ⟨h.ek, h.pt.right, h.wr⟩
theorem cell (h : Sg w k wr pre hs ps kk) {b o : Nat} {t : Bool} (hm : (b, o, t) ∈ ps) : ∃ u, wr.cell? ⟨b, o, none⟩ = some u ∧ wr.frozen? ⟨b, o, none⟩ = false := by
  obtain ⟨⟨u, hu, _⟩, hf⟩ := h.pt.a _ hm
  exact ⟨u, hu, hf⟩
theorem head (h : Sg w k wr pre hs ps kk) {b o : Nat} {v : Value} (hm : ((b, o), v) ∈ hs) : wr.cell? ⟨b, o, none⟩ = some v := (h.pt.h _ hm).1
end Sg
theorem Wr.after {w wb w2 : World} {ps : List Pl} {k : Int} (hb : Below w.heap.size w wb) (h : Wr wb w2 ps k) : Wr w w2 ps k :=
  ⟨h.os.trans hb.os, h.tape.trans hb.tape, h.output.trans hb.output, Nat.le_trans hb.size h.size, fun i hi =>
    (h.block i (Nat.lt_of_lt_of_le hi hb.size)).trans (puts_cong ps k (hb.block i hi))⟩
structure Sq (w : World) (k : Int) (wr : World) (pre : List Pl) (hs : List ((Nat × Nat) × Value)) (ps : List Pl) (kk : Int) : Prop where
  ek : kk = k + (pre.length : Int)
  pt : Pt wr hs ps
  hd : Hs wr ps kk
  bl : Below w.heap.size w wr
namespace Sq
variable {w wr w2 : World} {k kk : Int} {pre ps qs a1 a2 : List Pl} {hs h1 h2 : List ((Nat × Nat) × Value)} {p : Pl}
theorem start (h : Pt w hs ps) (g : Hs w ps k) : Sq w k w [] hs ps k := ⟨by simp, h, g, Below.refl _ _⟩
theorem cell {b o : Nat} {t : Bool} (h : Sq w k wr pre hs ((b, o, t) :: ps) kk) : wr.cell? ⟨b, o, none⟩ = some (mkv t kk) := h.hd.head (p := (b, o, t))
theorem call (h : Sq w k wr pre hs (a1 ++ a2) kk) (hb : Below wr.heap.size wr w2) : Sq w k w2 (pre ++ a1) hs a2 (kk + (a1.length : Int)) :=
  ⟨by rw [h.ek, List.length_append]; omega, ⟨(h.pt.below hb).h, fun q hq => (h.pt.below hb).a q (List.mem_append_right _ hq)⟩, h.hd.right.below hb, h.bl.trans (hb.mono h.bl.size)⟩
theorem head (h : Sq w k wr pre hs ps kk) {b o : Nat} {v : Value} (hm : ((b, o), v) ∈ hs) : wr.cell? ⟨b, o, none⟩ = some v := (h.pt.h _ hm).1
end Sq
end Go.Proofs.Ytmkiffemanmgcaa.Mk
end
section
namespace Go.Proofs.Ytmkiffemanmgcaa.Mk
open Go.RowKit Go.Proofs.YtmkiffemanmgcaaW.PrintWords Go.Proofs.YtmkiffemanmgcaaW.PrintLast
set_option linter.unusedVariables false
set_option linter.unusedSimpArgs false
def Bt (lo hi : Nat) (q : Nat) : Prop := lo ≤ q ∧ q < hi
abbrev Item := Nat × Nat × (World → Prop)
def Chn (n0 : Nat) (W : World) : List Item → Prop
  | [] => True
  | (lo, hi, P) :: L => n0 ≤ lo ∧ lo ≤ hi ∧ hi ≤ W.heap.size ∧ Foot P W (Bt lo hi) ∧ (∀ y ∈ L, y.2.1 ≤ lo) ∧ Chn n0 W L
theorem Chn.step {n0 : Nat} {W W' : World} {S : Nat → Prop} (hk : Kept W W' S) : ∀ {L : List Item}, (∀ y ∈ L, ∀ q, Bt y.1 y.2.1 q → ¬ S q) → Chn n0 W L → Chn n0 W' L
  | [], _, _ => trivial
  | (lo, hi, P) :: L, hd, ⟨h1, h2, h3, h4, h5, h6⟩ =>
    ⟨h1, h2, Nat.le_trans h3 hk.1, h4.step (fun k hk' hlt => hk.2 k hlt (hd _ List.mem_cons_self k hk')), h5, Chn.step hk (fun y hy => hd y (List.mem_cons_of_mem _ hy)) h6⟩
theorem Chn.lt {n0 : Nat} {W : World} : ∀ {L : List Item}, Chn n0 W L → ∀ y ∈ L, n0 ≤ y.1 ∧ y.1 ≤ y.2.1 ∧ y.2.1 ≤ W.heap.size
  | [], _, y, hy => by simp at hy
  | (lo, hi, P) :: L, ⟨h1, h2, h3, _, _, h6⟩, y, hy => by
    rcases List.mem_cons.1 hy with rfl | hy
    · exact ⟨h1, h2, h3⟩
    · exact Chn.lt h6 y hy
structure Ch (w W : World) (L : List Item) : Prop where
  b : Below w.heap.size w W
  c : Chn w.heap.size W L
namespace Ch
variable {w W W' : World} {L L1 L2 : List Item} {lo hi : Nat} {P P' : World → Prop}
theorem start (w : World) : Ch w w [] := ⟨Below.refl _ _, trivial⟩
theorem below (h : Ch w W L) (hb : Below W.heap.size W W') : Ch w W' L := ⟨Zo h.b hb, Chn.step (Kept.of_below hb (fun _ => False)) (fun _ _ _ _ h => h) h.c⟩
theorem drawn (h : Ch w W L) (hd : Drawn0 W W') : Ch w W' L := by
  obtain ⟨n, rfl⟩ := hd.out
  exact h.below (Za (Below.refl _ _) n)
theorem push (h : Ch w W L) (hb : Below W.heap.size W W') {Q : Nat → Nat → World → Prop} (hQ : Foot (Q W.heap.size W'.heap.size) W' (Bt W.heap.size W'.heap.size)) : ∃ lo hi, Ch w W' ((lo, hi, Q lo hi) :: L) :=
  ⟨W.heap.size, W'.heap.size, (h.below hb).b, h.b.size, hb.size, Nat.le_refl _, hQ, fun y hy => (h.c.lt y hy).2.2, (h.below hb).c⟩
theorem get (h : Ch w W L) : ∀ (i : Nat), L[i]? = some (lo, hi, P) → P W ∧ Foot P W (Bt lo hi) := by
  have key : ∀ {L : List Item}, Chn w.heap.size W L → ∀ (i : Nat), L[i]? = some (lo, hi, P) → P W ∧ Foot P W (Bt lo hi) := by
    intro L
    induction L with
    | nil => intro _ i e; simp at e
    | cons y L ih =>
      intro hc i e
      obtain ⟨a, b, Q⟩ := y
      cases i with
      | zero =>
        simp only [List.getElem?_cons_zero, Option.some.injEq, Prod.mk.injEq] at e
        obtain ⟨rfl, rfl, rfl⟩ := e
        exact ⟨hc.2.2.2.1.now, hc.2.2.2.1⟩
      | succ i => exact ih hc.2.2.2.2.2 i (by simpa using e)
  exact key h.c
theorem at_ (h : Ch w W L) (i : Nat) (e : L[i]? = some (lo, hi, P)) : P W := (h.get i e).1
theorem mark (h : Ch w W (L1 ++ (lo, hi, P) :: L2)) (hk : Kept W W' (Bt lo hi)) (hb : Below w.heap.size w W') (hP : Foot P' W' (Bt lo hi)) : Ch w W' (L1 ++ (lo, hi, P') :: L2) := by
  refine ⟨hb, ?_⟩
  have key : ∀ {L1 : List Item}, Chn w.heap.size W (L1 ++ (lo, hi, P) :: L2) → Chn w.heap.size W' (L1 ++ (lo, hi, P') :: L2) := by
    intro L1
    induction L1 with
    | nil =>
      rintro ⟨h1, h2, h3, h4, h5, h6⟩
      exact ⟨h1, h2, Nat.le_trans h3 hk.1, hP, h5, Chn.step hk (fun y hy q hq hq2 => by have := h5 y hy; have := hq.2; have := hq2.1; omega) h6⟩
    | cons y L1 ih =>
      obtain ⟨a, b, Q⟩ := y
      rintro ⟨h1, h2, h3, h4, h5, h6⟩
      refine ⟨h1, h2, Nat.le_trans h3 hk.1, h4.step (fun k hk' hlt => hk.2 k hlt (fun hq => ?_)), ?_, ih h6⟩
      · have := h5 (lo, hi, P) (List.mem_append_right _ List.mem_cons_self)
        have := hk'.1
        have := hq.2
        simp only at *
        omega
      · intro y hy
        rcases List.mem_append.1 hy with hy | hy
        · exact h5 y (List.mem_append_left _ hy)
        · rcases List.mem_cons.1 hy with rfl | hy
          · exact h5 (lo, hi, P) (List.mem_append_right _ List.mem_cons_self)
          · exact h5 y (List.mem_append_right _ (List.mem_cons_of_mem _ hy))
  exact key h.c
theorem lt_ (h : Ch w W (L1 ++ (lo, hi, P) :: L2)) : w.heap.size ≤ lo := (h.c.lt (lo, hi, P) (List.mem_append_right _ List.mem_cons_self)).1
theorem wr {ps : List Pl} {k : Int} (h : Ch w W (L1 ++ (lo, hi, P) :: L2)) (hw : Wr W W' ps k) (hp : ∀ p ∈ ps, Bt lo hi p.1) (hP : Foot P' W' (Bt lo hi)) : Ch w W' (L1 ++ (lo, hi, P') :: L2) :=
  h.mark (hw.kept hp) (hw.under h.b (fun p hq => Nat.le_trans h.lt_ (hp p hq).1)) hP
end Ch
section
variable {α : Type} {d : Kd α} {e : Nat} {W W' : World} {lo hi : Nat} {v : Value} {xs : List α}
theorem foot_R (h : d.R e W lo (Bt lo hi) v xs) : Foot (fun U => d.R e U lo (Bt lo hi) v xs) W (Bt lo hi) := fun _ hW => Kd.R_step h hW
theorem foot_S (h : Kd.S d e W lo (Bt lo hi) v xs) : Foot (fun U => Kd.S d e U lo (Bt lo hi) v xs) W (Bt lo hi) := fun _ hW => Kd.S_step h hW
theorem in_R {ok : Nat → Prop} (h : d.R e W' W.heap.size ok v xs) : d.R e W' W.heap.size (Bt W.heap.size W'.heap.size) v xs := Kd.R_mono (Kd.R_bound h) (fun _ hk => ⟨hk.2.1, hk.2.2.1⟩)
theorem in_S {ok : Nat → Prop} (h : Kd.S d e W' W.heap.size ok v xs) : Kd.S d e W' W.heap.size (Bt W.heap.size W'.heap.size) v xs := Kd.S_mono (Kd.S_bound h) (fun _ hk => ⟨hk.2.1, hk.2.2.1⟩)
theorem foot_and {P Q : World → Prop} {ok : Nat → Prop} (h : Foot P W ok) (g : Foot Q W ok) : Foot (fun U => P U ∧ Q U) W ok := fun U hU => ⟨h U hU, g U hU⟩
end
theorem foot_blk {W : World} {g : Nat} {o : Obj} {lo hi : Nat} (h : W.heap[g]? = some o) (hg : Bt lo hi g) : Foot (fun U => U.heap[g]? = some o) W (Bt lo hi) := fun _ hU => (hU g hg (Zx h)).trans h
theorem Ch.box {w W : World} {L : List Item} (h : Ch w W L) (o : Obj) : Ch w (W.alloc o) ((W.heap.size, W.heap.size + 1, fun U => U.heap[W.heap.size]? = some o) :: L) := by
  have hb := Ze (Below.refl W.heap.size W) o
  refine ⟨(h.below hb).b, h.b.size, Nat.le_succ _, by simp, foot_blk (blk_new W o) ⟨Nat.le_refl _, Nat.lt_succ_self _⟩, fun y hy => (h.c.lt y hy).2.2, (h.below hb).c⟩
end Go.Proofs.Ytmkiffemanmgcaa.Mk
end
section
namespace Go.Proofs.Ytmkiffemanmgcaa.Mk
open Go.RowKit Go.Proofs.Ytmkiffemanmgcaa.P Go.Proofs.YtmkiffemanmgcaaW.PrintWords Go.Proofs.YtmkiffemanmgcaaW.PrintLast Go.Proofs.YtmkiffemanmgcaaW.PrintMore
set_option linter.unusedVariables false
set_option linter.unusedSimpArgs false
end Go.Proofs.Ytmkiffemanmgcaa.Mk
end
section
namespace Go.Proofs.Ytmkiffemanmgcaa.Mk
open Go.RowKit Go.Proofs.Ytmkiffemanmgcaa.P Go.Proofs.YtmkiffemanmgcaaW.PrintWords Go.Proofs.YtmkiffemanmgcaaW.PrintLast Go.Proofs.YtmkiffemanmgcaaW.PrintMore
set_option linter.unusedVariables false
set_option linter.unusedSimpArgs false
set_option maxHeartbeats 8000000 in
set_option maxRecDepth 100000 in
theorem FnExactPictureOf_law (k : Nat) (A0_0 : Option Addr) (c0_0 : Nat) (l0_0 : List Int) (A0_1 : Option Addr) (c0_1 : Nat) (l0_1 : List S116) (A0_2 : Option Addr) (c0_2 : Nat) (l0_2 : List S118) (a0_3 : Int) (a0_4 : Int) (w : World) (hr0_0 : Kd.C (Kd.int .i64) w A0_0 l0_0.length l0_0) (hc0_0 : l0_0.length ≤ c0_0) (hr0_1 : Kd.C k116 w A0_1 l0_1.length l0_1) (hc0_1 : l0_1.length ≤ c0_1) (hr0_2 : Kd.C k118 w A0_2 l0_2.length l0_2) (hc0_2 : l0_2.length ≤ c0_2) (z1 : Int) (eE2 : laws_szSnap.f k l0_0 l0_1 l0_2 a0_3 a0_4 1048576 = some z1) (hz_z1n : ¬ z1 < 0) (x8 : List Int) (x9 : List (S94)) (x10 : List (S76)) (x11 : Int) (x12 : Int) (r30 : Int) (r31 : Bool) (eE13 : laws_toSnap.f k l0_0 l0_1 l0_2 a0_3 a0_4 = some (x8, x9, x10, x11, x12)) (eE32 : spec_PictureOf.f k x8 x9 x10 x11 x12 = some (r30, r31)) (eE59 : impl_PictureOf.f k x8 x9 x10 x11 x12 = some (r30, r31)) (eE81 : laws_eqSnap.f k x8 x9 x10 x11 x12 x8 x9 x10 x11 x12 = some true)    :
    Calls Try.prog 11 #[.agg #[.slice A0_0 l0_0.length c0_0, .slice A0_1 l0_1.length c0_1, .slice A0_2 l0_2.length c0_2, .int .i64 a0_3, .int .i64 a0_4]] w fun e w' => e = .returned (.bool true) ∧ Below w.heap.size w w' := by
  have hu35 := Try.underlying35
  have hu58 := Try.underlying58
  have HR0_0 := Aside0.mk hr0_0
  clear hr0_0
  have HR0_1 := Aside0.mk hr0_1
  clear hr0_1
  have HR0_2 := Aside0.mk hr0_2
  clear hr0_2
  have HC := Aside0.mk (Ch.start w)
  have E2 := Aside0.mk eE2
  clear eE2
  have E13 := Aside0.mk eE13
  clear eE13
  have E32 := Aside0.mk eE32
  clear eE32
  have E59 := Aside0.mk eE59
  clear eE59
  have E81 := Aside0.mk eE81
  clear eE81
  go_enter Try.func11, Try.ntmps11
  go_wp2_with fail
  replace HC := Aside0.mk (HC.out.box (.cells #[.slice A0_0 l0_0.length c0_0, .slice A0_1 l0_1.length c0_1, .slice A0_2 l0_2.length c0_2, .int .i64 a0_3, .int .i64 a0_4] 58))
  refine (laws_szSnap.calls k _ _ l0_0 _ _ l0_1 _ _ l0_2 a0_3 a0_4 1048576 z1 _ (Kd.C_below HR0_0.out HC.out.b) hc0_0 (Kd.C_below HR0_1.out HC.out.b) hc0_1 (Kd.C_below HR0_2.out HC.out.b) hc0_2 E2.out).mono ?_
  rintro e w1 ⟨rfl, hb⟩
  replace HC := Aside0.mk (HC.out.below hb)
  clear hb
  have hz_z1 : decide (z1 < 0) = false := decide_eq_false (by omega)
  have b3 := (Zb (HC.out.at_ 0 rfl) 0).trans rfl
  have b4 := (Zb (HC.out.at_ 0 rfl) 1).trans rfl
  have b5 := (Zb (HC.out.at_ 0 rfl) 2).trans rfl
  have b6 := (Zb (HC.out.at_ 0 rfl) 3).trans rfl
  have b7 := (Zb (HC.out.at_ 0 rfl) 4).trans rfl
  go_wp2_with fail
  refine (laws_toSnap.calls k _ _ l0_0 _ _ l0_1 _ _ l0_2 a0_3 a0_4 x8 x9 x10 x11 x12 _ (Kd.C_below HR0_0.out HC.out.b) hc0_0 (Kd.C_below HR0_1.out HC.out.b) hc0_1 (Kd.C_below HR0_2.out HC.out.b) hc0_2 E13.out).mono ?_
  rintro e w2 ⟨v14, v15, v16, rfl, ho0, ho1, ho2, hb⟩
  obtain ⟨A17, c18, rfl⟩ := Kd.R_slice ho0
  obtain ⟨A19, c20, rfl⟩ := Kd.S_slice ho1
  obtain ⟨A21, c22, rfl⟩ := Kd.S_slice ho2
  obtain ⟨lo23, hi24, HC'⟩ := HC.out.push hb (Q := fun lo hi U => Kd.R (Kd.int .i64) 3 U lo (Bt lo hi) (.slice A17 x8.length c18) x8 ∧ Kd.S k94 94 U lo (Bt lo hi) (.slice A19 x9.length c20) x9 ∧ Kd.S k76 76 U lo (Bt lo hi) (.slice A21 x10.length c22) x10) (foot_and (foot_R (in_R ho0)) (foot_and (foot_S (in_S ho1)) (foot_S (in_S ho2))))
  replace HC := Aside0.mk HC'
  clear HC' hb ho0 ho1 ho2
  clear b3 b4 b5 b6 b7
  have b25 := (Zb (HC.out.at_ 1 rfl) 0).trans rfl
  have b26 := (Zb (HC.out.at_ 1 rfl) 1).trans rfl
  have b27 := (Zb (HC.out.at_ 1 rfl) 2).trans rfl
  have b28 := (Zb (HC.out.at_ 1 rfl) 3).trans rfl
  have b29 := (Zb (HC.out.at_ 1 rfl) 4).trans rfl
  go_wp2_with fail
  refine (spec_PictureOf.calls k _ _ x8 _ _ x9 _ _ x10 x11 x12 r30 r31 _ (Kd.R_reads' (HC.out.at_ 0 rfl).1).2.2 (Kd.R_reads' (HC.out.at_ 0 rfl).1).2.1 (Kd.S_reads' (HC.out.at_ 0 rfl).2.1).2.2 (Kd.S_reads' (HC.out.at_ 0 rfl).2.1).2.1 (Kd.S_reads' (HC.out.at_ 0 rfl).2.2).2.2 (Kd.S_reads' (HC.out.at_ 0 rfl).2.2).2.1 E32.out).mono ?_
  rintro e w3 ⟨rfl, hb⟩
  replace HC := Aside0.mk (HC.out.below hb)
  clear hb
  clear b25 b26 b27 b28 b29
  have b33 := (Zb (HC.out.at_ 1 rfl) 0).trans rfl
  have b34 := (Zb (HC.out.at_ 1 rfl) 1).trans rfl
  have b35 := (Zb (HC.out.at_ 1 rfl) 2).trans rfl
  have b36 := (Zb (HC.out.at_ 1 rfl) 3).trans rfl
  have b37 := (Zb (HC.out.at_ 1 rfl) 4).trans rfl
  go_wp2_with fail
  refine (laws_toSnap.calls k _ _ l0_0 _ _ l0_1 _ _ l0_2 a0_3 a0_4 x8 x9 x10 x11 x12 _ (Kd.C_below HR0_0.out HC.out.b) hc0_0 (Kd.C_below HR0_1.out HC.out.b) hc0_1 (Kd.C_below HR0_2.out HC.out.b) hc0_2 E13.out).mono ?_
  rintro e w4 ⟨v38, v39, v40, rfl, ho0, ho1, ho2, hb⟩
  obtain ⟨A41, c42, rfl⟩ := Kd.R_slice ho0
  obtain ⟨A43, c44, rfl⟩ := Kd.S_slice ho1
  obtain ⟨A45, c46, rfl⟩ := Kd.S_slice ho2
  obtain ⟨lo47, hi48, HC'⟩ := HC.out.push hb (Q := fun lo hi U => Kd.R (Kd.int .i64) 3 U lo (Bt lo hi) (.slice A41 x8.length c42) x8 ∧ Kd.S k94 94 U lo (Bt lo hi) (.slice A43 x9.length c44) x9 ∧ Kd.S k76 76 U lo (Bt lo hi) (.slice A45 x10.length c46) x10) (foot_and (foot_R (in_R ho0)) (foot_and (foot_S (in_S ho1)) (foot_S (in_S ho2))))
  replace HC := Aside0.mk HC'
  clear HC' hb ho0 ho1 ho2
  clear b33 b34 b35 b36 b37
  have b49 := (Zb (HC.out.at_ 2 rfl) 0).trans rfl
  have b50 := (Zb (HC.out.at_ 2 rfl) 1).trans rfl
  have b51 := (Zb (HC.out.at_ 2 rfl) 2).trans rfl
  have b52 := (Zb (HC.out.at_ 2 rfl) 3).trans rfl
  have b53 := (Zb (HC.out.at_ 2 rfl) 4).trans rfl
  have b54 : (w4.alloc (.cells #[.slice A41 x8.length c42, .slice A43 x9.length c44, .slice A45 x10.length c46, .int .i64 x11, .int .i64 x12] 35)).cell? ⟨w.heap.size, 0, none⟩ = some (.slice A0_0 l0_0.length c0_0) := (Zb (Zf (HC.out.at_ 2 rfl) _) 0).trans rfl
  have b55 : (w4.alloc (.cells #[.slice A41 x8.length c42, .slice A43 x9.length c44, .slice A45 x10.length c46, .int .i64 x11, .int .i64 x12] 35)).cell? ⟨w.heap.size, 1, none⟩ = some (.slice A0_1 l0_1.length c0_1) := (Zb (Zf (HC.out.at_ 2 rfl) _) 1).trans rfl
  have b56 : (w4.alloc (.cells #[.slice A41 x8.length c42, .slice A43 x9.length c44, .slice A45 x10.length c46, .int .i64 x11, .int .i64 x12] 35)).cell? ⟨w.heap.size, 2, none⟩ = some (.slice A0_2 l0_2.length c0_2) := (Zb (Zf (HC.out.at_ 2 rfl) _) 2).trans rfl
  have b57 : (w4.alloc (.cells #[.slice A41 x8.length c42, .slice A43 x9.length c44, .slice A45 x10.length c46, .int .i64 x11, .int .i64 x12] 35)).cell? ⟨w.heap.size, 3, none⟩ = some (.int .i64 a0_3) := (Zb (Zf (HC.out.at_ 2 rfl) _) 3).trans rfl
  have b58 : (w4.alloc (.cells #[.slice A41 x8.length c42, .slice A43 x9.length c44, .slice A45 x10.length c46, .int .i64 x11, .int .i64 x12] 35)).cell? ⟨w.heap.size, 4, none⟩ = some (.int .i64 a0_4) := (Zb (Zf (HC.out.at_ 2 rfl) _) 4).trans rfl
  go_wp2_with fail
  replace HC := Aside0.mk (HC.out.box (.cells #[.slice A41 x8.length c42, .slice A43 x9.length c44, .slice A45 x10.length c46, .int .i64 x11, .int .i64 x12] 35))
  refine (impl_PictureOf.calls k _ _ x8 _ _ x9 _ _ x10 x11 x12 r30 r31 _ (Kd.R_reads' (HC.out.at_ 1 rfl).1).2.2 (Kd.R_reads' (HC.out.at_ 1 rfl).1).2.1 (Kd.S_reads' (HC.out.at_ 1 rfl).2.1).2.2 (Kd.S_reads' (HC.out.at_ 1 rfl).2.1).2.1 (Kd.S_reads' (HC.out.at_ 1 rfl).2.2).2.2 (Kd.S_reads' (HC.out.at_ 1 rfl).2.2).2.1 E59.out).mono ?_
  rintro e w5 ⟨rfl, hb⟩
  replace HC := Aside0.mk (HC.out.below hb)
  clear hb
  clear b49 b50 b51 b52 b53 b54 b55 b56 b57 b58
  have b60 := (Zb (HC.out.at_ 0 rfl) 0).trans rfl
  have b61 := (Zb (HC.out.at_ 0 rfl) 1).trans rfl
  have b62 := (Zb (HC.out.at_ 0 rfl) 2).trans rfl
  have b63 := (Zb (HC.out.at_ 0 rfl) 3).trans rfl
  have b64 := (Zb (HC.out.at_ 0 rfl) 4).trans rfl
  have b65 := (Zb (HC.out.at_ 3 rfl) 0).trans rfl
  have b66 := (Zb (HC.out.at_ 3 rfl) 1).trans rfl
  have b67 := (Zb (HC.out.at_ 3 rfl) 2).trans rfl
  have b68 := (Zb (HC.out.at_ 3 rfl) 3).trans rfl
  have b69 := (Zb (HC.out.at_ 3 rfl) 4).trans rfl
  go_wp2_with fail
  replace HC := Aside0.mk (HC.out.below (below_drew (Below.refl _ _)))
  refine start_ (n := 5) (S := fun w' => w'.cell? ⟨w4.heap.size, 0, none⟩ = some (.slice A41 x8.length c42) ∧ w'.cell? ⟨w4.heap.size, 1, none⟩ = some (.slice A43 x9.length c44) ∧ w'.cell? ⟨w4.heap.size, 2, none⟩ = some (.slice A45 x10.length c46) ∧ w'.cell? ⟨w4.heap.size, 3, none⟩ = some (.int .i64 x11) ∧ w'.cell? ⟨w4.heap.size, 4, none⟩ = some (.int .i64 x12) ∧ w'.cell? ⟨w.heap.size, 0, none⟩ = some (.slice A0_0 l0_0.length c0_0) ∧ w'.cell? ⟨w.heap.size, 1, none⟩ = some (.slice A0_1 l0_1.length c0_1) ∧ w'.cell? ⟨w.heap.size, 2, none⟩ = some (.slice A0_2 l0_2.length c0_2) ∧ w'.cell? ⟨w.heap.size, 3, none⟩ = some (.int .i64 a0_3) ∧ w'.cell? ⟨w.heap.size, 4, none⟩ = some (.int .i64 a0_4)) (ds := []) #[false, false, false, false, false] (by kernel_rfl) rfl rfl ⟨(Zb (HC.out.at_ 0 rfl) 0).trans rfl, (Zb (HC.out.at_ 0 rfl) 1).trans rfl, (Zb (HC.out.at_ 0 rfl) 2).trans rfl, (Zb (HC.out.at_ 0 rfl) 3).trans rfl, (Zb (HC.out.at_ 0 rfl) 4).trans rfl, (Zb (HC.out.at_ 3 rfl) 0).trans rfl, (Zb (HC.out.at_ 3 rfl) 1).trans rfl, (Zb (HC.out.at_ 3 rfl) 2).trans rfl, (Zb (HC.out.at_ 3 rfl) 3).trans rfl, (Zb (HC.out.at_ 3 rfl) 4).trans rfl⟩ (fun hHeld => ?_)
  generalize w5.drew = w6 at HC hHeld ⊢
  refine take_ (i := 0) (N := some 35) (v := ?_) (a' := ?_) #[true, false, false, false, false] rfl rfl (by kernel_rfl) (fun _ _ _ h => h) (Or.inl ⟨by rfl, ?_⟩) hHeld ?_ ?_
  rotate_left
  · rintro w' ⟨s0, s1, s2, s3, s4, s5, s6, s7, s8, s9⟩
    go_simp
    with_reducible rfl
  rotate_left
  · simp only [Act.put, List.setIfInBounds_toArray, List.set_cons_zero, List.set_cons_succ, Zk, Zl]
    rfl
  refine take_ (i := 1) (N := some 36) (v := ?_) (a' := ?_) #[true, true, false, false, false] rfl rfl (by kernel_rfl) (fun _ _ _ h => h) (Or.inl ⟨by rfl, ?_⟩) hHeld ?_ ?_
  rotate_left
  · rintro w' ⟨s0, s1, s2, s3, s4, s5, s6, s7, s8, s9⟩
    go_simp
    with_reducible rfl
  rotate_left
  · simp only [Act.put, List.setIfInBounds_toArray, List.set_cons_zero, List.set_cons_succ, Zk, Zl]
    rfl
  refine one_ (i := 2) (N := some 37) #[true, true, true, false, false] rfl rfl (by kernel_rfl) (by decide) (fun K hK => ?_)
  refine goes_ Try.func37 (by kernel_rfl) rfl #[.agg #[.slice A0_0 l0_0.length c0_0, .slice A0_1 l0_1.length c0_1, .slice A0_2 l0_2.length c0_2, .int .i64 a0_3, .int .i64 a0_4]] (by rfl) rfl rfl (by (try simp only [List.map_toArray, List.map_cons, List.map_nil]); first | done | rfl | (simp only [List.length_drop, List.length_take]; rfl)) ?_
  refine (laws_toSnap.calls k _ _ l0_0 _ _ l0_1 _ _ l0_2 a0_3 a0_4 x8 x9 x10 x11 x12 _ (Kd.C_below HR0_0.out HC.out.b) hc0_0 (Kd.C_below HR0_1.out HC.out.b) hc0_1 (Kd.C_below HR0_2.out HC.out.b) hc0_2 E13.out).mono ?_
  rintro e w7 ⟨v70, v71, v72, rfl, ho0, ho1, ho2, hb⟩
  refine ⟨_, rfl, ?_⟩
  obtain ⟨A73, c74, rfl⟩ := Kd.R_slice ho0
  obtain ⟨A75, c76, rfl⟩ := Kd.S_slice ho1
  obtain ⟨A77, c78, rfl⟩ := Kd.S_slice ho2
  obtain ⟨lo79, hi80, HC'⟩ := HC.out.push hb (Q := fun lo hi U => Kd.R (Kd.int .i64) 3 U lo (Bt lo hi) (.slice A73 x8.length c74) x8 ∧ Kd.S k94 94 U lo (Bt lo hi) (.slice A75 x9.length c76) x9 ∧ Kd.S k76 76 U lo (Bt lo hi) (.slice A77 x10.length c78) x10) (foot_and (foot_R (in_R ho0)) (foot_and (foot_S (in_S ho1)) (foot_S (in_S ho2))))
  replace HC := Aside0.mk HC'
  clear HC' hb ho0 ho1 ho2
  refine hK.out _ _ ⟨(Zb (HC.out.at_ 1 rfl) 0).trans rfl, (Zb (HC.out.at_ 1 rfl) 1).trans rfl, (Zb (HC.out.at_ 1 rfl) 2).trans rfl, (Zb (HC.out.at_ 1 rfl) 3).trans rfl, (Zb (HC.out.at_ 1 rfl) 4).trans rfl, (Zb (HC.out.at_ 4 rfl) 0).trans rfl, (Zb (HC.out.at_ 4 rfl) 1).trans rfl, (Zb (HC.out.at_ 4 rfl) 2).trans rfl, (Zb (HC.out.at_ 4 rfl) 3).trans rfl, (Zb (HC.out.at_ 4 rfl) 4).trans rfl⟩ (fun hHeld => ?_)
  clear hK K
  refine norm_ (a' := ?_) ?_ ?_
  rotate_left
  · show Act.put _ (some 37) _ = _
    simp only [Act.put, List.setIfInBounds_toArray, List.set_cons_zero, List.set_cons_succ, Zk, Zl]
    rfl
  refine one_ (i := 3) (N := some 38) #[true, true, true, true, false] rfl rfl (by kernel_rfl) (by decide) (fun K hK => ?_)
  refine goes_ Try.func19 (by kernel_rfl) rfl #[.agg #[.slice A41 x8.length c42, .slice A43 x9.length c44, .slice A45 x10.length c46, .int .i64 x11, .int .i64 x12], .agg #[.slice A73 x8.length c74, .slice A75 x9.length c76, .slice A77 x10.length c78, .int .i64 x11, .int .i64 x12]] (by rfl) rfl rfl (by (try simp only [List.map_toArray, List.map_cons, List.map_nil]); first | done | rfl | (simp only [List.length_drop, List.length_take]; rfl)) ?_
  refine (laws_eqSnap.calls k _ _ x8 _ _ x9 _ _ x10 x11 x12 _ _ x8 _ _ x9 _ _ x10 x11 x12 true _ (Kd.R_reads' (HC.out.at_ 2 rfl).1).2.2 (Kd.R_reads' (HC.out.at_ 2 rfl).1).2.1 (Kd.S_reads' (HC.out.at_ 2 rfl).2.1).2.2 (Kd.S_reads' (HC.out.at_ 2 rfl).2.1).2.1 (Kd.S_reads' (HC.out.at_ 2 rfl).2.2).2.2 (Kd.S_reads' (HC.out.at_ 2 rfl).2.2).2.1 (Kd.R_reads' (HC.out.at_ 0 rfl).1).2.2 (Kd.R_reads' (HC.out.at_ 0 rfl).1).2.1 (Kd.S_reads' (HC.out.at_ 0 rfl).2.1).2.2 (Kd.S_reads' (HC.out.at_ 0 rfl).2.1).2.1 (Kd.S_reads' (HC.out.at_ 0 rfl).2.2).2.2 (Kd.S_reads' (HC.out.at_ 0 rfl).2.2).2.1 E81.out).mono ?_
  rintro e w8 ⟨rfl, hb⟩
  refine ⟨_, rfl, ?_⟩
  replace HC := Aside0.mk (HC.out.below hb)
  clear hb
  refine hK.out _ _ ⟨(Zb (HC.out.at_ 1 rfl) 0).trans rfl, (Zb (HC.out.at_ 1 rfl) 1).trans rfl, (Zb (HC.out.at_ 1 rfl) 2).trans rfl, (Zb (HC.out.at_ 1 rfl) 3).trans rfl, (Zb (HC.out.at_ 1 rfl) 4).trans rfl, (Zb (HC.out.at_ 4 rfl) 0).trans rfl, (Zb (HC.out.at_ 4 rfl) 1).trans rfl, (Zb (HC.out.at_ 4 rfl) 2).trans rfl, (Zb (HC.out.at_ 4 rfl) 3).trans rfl, (Zb (HC.out.at_ 4 rfl) 4).trans rfl⟩ (fun hHeld => ?_)
  clear hK K
  refine norm_ (a' := ?_) ?_ ?_
  rotate_left
  · show Act.put _ (some 38) _ = _
    simp only [Act.put, List.setIfInBounds_toArray, List.set_cons_zero, List.set_cons_succ, Zk, Zl]
    rfl
  refine Zm (i := 4) (N := some 39) (v := ?_) (a' := ?_) #[true, true, true, true, true] rfl rfl (by kernel_rfl) (fun _ _ _ h => h) (Or.inl ⟨by rfl, ?_⟩) ?_ ?_
  rotate_left
  · intro w'
    go_simp
    with_reducible rfl
  rotate_left
  · simp only [Act.put, List.setIfInBounds_toArray, List.set_cons_zero, List.set_cons_succ, Zk, Zl]
    rfl
  refine done_ (by kernel_rfl) ?_
  clear b60 b61 b62 b63 b64 b65 b66 b67 b68 b69
  have b82 := (Zb (HC.out.at_ 1 rfl) 0).trans rfl
  have b83 := (Zb (HC.out.at_ 1 rfl) 1).trans rfl
  have b84 := (Zb (HC.out.at_ 1 rfl) 2).trans rfl
  have b85 := (Zb (HC.out.at_ 1 rfl) 3).trans rfl
  have b86 := (Zb (HC.out.at_ 1 rfl) 4).trans rfl
  have b87 := (Zb (HC.out.at_ 4 rfl) 0).trans rfl
  have b88 := (Zb (HC.out.at_ 4 rfl) 1).trans rfl
  have b89 := (Zb (HC.out.at_ 4 rfl) 2).trans rfl
  have b90 := (Zb (HC.out.at_ 4 rfl) 3).trans rfl
  have b91 := (Zb (HC.out.at_ 4 rfl) 4).trans rfl
  go_wp2
  go_ret
  exact ⟨rfl, HC.out.b⟩
set_option maxHeartbeats 8000000 in
set_option maxRecDepth 100000 in
theorem FnExactPictureOf_out0 (k : Nat) (A0_0 : Option Addr) (c0_0 : Nat) (l0_0 : List Int) (A0_1 : Option Addr) (c0_1 : Nat) (l0_1 : List S116) (A0_2 : Option Addr) (c0_2 : Nat) (l0_2 : List S118) (a0_3 : Int) (a0_4 : Int) (w : World) (hr0_0 : Kd.C (Kd.int .i64) w A0_0 l0_0.length l0_0) (hc0_0 : l0_0.length ≤ c0_0) (hr0_1 : Kd.C k116 w A0_1 l0_1.length l0_1) (hc0_1 : l0_1.length ≤ c0_1) (hr0_2 : Kd.C k118 w A0_2 l0_2.length l0_2) (hc0_2 : l0_2.length ≤ c0_2) (z1 : Int) (eE2 : laws_szSnap.f k l0_0 l0_1 l0_2 a0_3 a0_4 1048576 = some z1)  (hz : z1 < 0)  :
    Calls Try.prog 11 #[.agg #[.slice A0_0 l0_0.length c0_0, .slice A0_1 l0_1.length c0_1, .slice A0_2 l0_2.length c0_2, .int .i64 a0_3, .int .i64 a0_4]] w fun e w' => e = .returned (.bool true) ∧ Below w.heap.size w w' := by
  have hu35 := Try.underlying35
  have hu58 := Try.underlying58
  have HR0_0 := Aside0.mk hr0_0
  clear hr0_0
  have HR0_1 := Aside0.mk hr0_1
  clear hr0_1
  have HR0_2 := Aside0.mk hr0_2
  clear hr0_2
  have HC := Aside0.mk (Ch.start w)
  have E2 := Aside0.mk eE2
  clear eE2
  go_enter Try.func11, Try.ntmps11
  go_wp2_with fail
  replace HC := Aside0.mk (HC.out.box (.cells #[.slice A0_0 l0_0.length c0_0, .slice A0_1 l0_1.length c0_1, .slice A0_2 l0_2.length c0_2, .int .i64 a0_3, .int .i64 a0_4] 58))
  refine (laws_szSnap.calls k _ _ l0_0 _ _ l0_1 _ _ l0_2 a0_3 a0_4 1048576 z1 _ (Kd.C_below HR0_0.out HC.out.b) hc0_0 (Kd.C_below HR0_1.out HC.out.b) hc0_1 (Kd.C_below HR0_2.out HC.out.b) hc0_2 E2.out).mono ?_
  rintro e w1 ⟨rfl, hb⟩
  replace HC := Aside0.mk (HC.out.below hb)
  clear hb
  have hz_ : decide (z1 < 0) = true := decide_eq_true hz
  clear hz
  go_wp2
  go_ret
  exact ⟨rfl, HC.out.b⟩
def FnExactPictureOf_Pure : Prop := ∀ (x0 : S58), (ok58 x0) → ∃ k : Nat, ∃ z1 : Int, laws_szSnap.f k x0.f0 x0.f1 x0.f2 x0.f3 x0.f4 1048576 = some z1 ∧ (z1 < 0 ∨ ¬ z1 < 0 ∧ (∃ (x8 : List Int) (x9 : List (S94)) (x10 : List (S76)) (x11 : Int) (x12 : Int) (r30 : Int) (r31 : Bool), laws_toSnap.f k x0.f0 x0.f1 x0.f2 x0.f3 x0.f4 = some (x8, x9, x10, x11, x12) ∧ spec_PictureOf.f k x8 x9 x10 x11 x12 = some (r30, r31) ∧ impl_PictureOf.f k x8 x9 x10 x11 x12 = some (r30, r31) ∧ laws_eqSnap.f k x8 x9 x10 x11 x12 x8 x9 x10 x11 x12 = some true))
theorem FnExactPictureOf_calls (hP : FnExactPictureOf_Pure) (x0 : S58) (A0_0 : Option Addr) (c0_0 : Nat) (A0_1 : Option Addr) (c0_1 : Nat) (A0_2 : Option Addr) (c0_2 : Nat) (b0 : ok58 x0) (w : World) (hr0_0 : Kd.C (Kd.int .i64) w A0_0 x0.f0.length x0.f0) (hc0_0 : x0.f0.length ≤ c0_0) (hr0_1 : Kd.C k116 w A0_1 x0.f1.length x0.f1) (hc0_1 : x0.f1.length ≤ c0_1) (hr0_2 : Kd.C k118 w A0_2 x0.f2.length x0.f2) (hc0_2 : x0.f2.length ≤ c0_2) :
    Calls Try.prog 11 #[.agg #[.slice A0_0 x0.f0.length c0_0, .slice A0_1 x0.f1.length c0_1, .slice A0_2 x0.f2.length c0_2, .int .i64 x0.f3, .int .i64 x0.f4]] w fun e w' => e = .returned (.bool true) ∧ Below w.heap.size w w' := by
  obtain ⟨k, hk⟩ := hP x0 b0
  obtain ⟨z1, eE2, hk⟩ := hk
  rcases hk with hz | ⟨hz_z1n, hk⟩
  · exact FnExactPictureOf_out0 k A0_0 c0_0 x0.f0 A0_1 c0_1 x0.f1 A0_2 c0_2 x0.f2 x0.f3 x0.f4 w hr0_0 hc0_0 hr0_1 hc0_1 hr0_2 hc0_2 z1 eE2  hz 
  obtain ⟨x8, x9, x10, x11, x12, r30, r31, eE13, eE32, eE59, eE81⟩ := hk
  exact FnExactPictureOf_law k A0_0 c0_0 x0.f0 A0_1 c0_1 x0.f1 A0_2 c0_2 x0.f2 x0.f3 x0.f4 w hr0_0 hc0_0 hr0_1 hc0_1 hr0_2 hc0_2 z1 eE2 hz_z1n x8 x9 x10 x11 x12 r30 r31 eE13 eE32 eE59 eE81 
end Go.Proofs.Ytmkiffemanmgcaa.Mk
end
section
namespace Go.Proofs.Ytmkiffemanmgcaa.Pl
open Go.RowKit Go.Proofs.YtmkiffemanmgcaaW.PrintWords Go.Proofs.YtmkiffemanmgcaaW.PrintLast Go.Proofs.YtmkiffemanmgcaaW.PrintMore
theorem wrap_in {x : Int} (h0 : -9223372036854775808 ≤ x) (h1 : x ≤ 9223372036854775807) : wrap64 x = x := by
  unfold wrap64
  omega
theorem wrap_len {n m : Nat} (h : n < m) (hm : m ≤ 4611686018427387904) : wrap64 ((n : Int) + 1) = ((n + 1 : Nat) : Int) := by
  rw [wrap_in (by omega) (by omega)]
  omega
theorem round {k d : Nat} (h : d < k) : ∃ m, k = m + 1 := ⟨k - 1, by omega⟩
theorem rd_mid (pre : List Int) (h : Int) (t : List Int) : rd (pre ++ h :: t) (pre.length : Int) = h := by
  simp [rd]
theorem rd_at {pre t l : List Int} {h : Int} (e : pre ++ h :: t = l) : rd l (pre.length : Int) = h := by
  rw [← e]; exact rd_mid pre h t
theorem len_mid {α : Type} {pre t : List α} {h : α} {l : List α} (e : pre ++ h :: t = l) : pre.length < l.length := by
  rw [← e]; simp
theorem len_end {α : Type} {pre l : List α} (e : pre ++ [] = l) : pre.length = l.length := by
  rw [← e]; simp
theorem app_mid {α : Type} {pre t : List α} {h : α} {l : List α} (e : pre ++ h :: t = l) : (pre ++ [h]) ++ t = l := by
  rw [← e]; simp
theorem len_one {α : Type} (pre : List α) (h : α) : (pre ++ [h]).length = pre.length + 1 := by simp
end Go.Proofs.Ytmkiffemanmgcaa.Pl
end
section
namespace Go.Proofs.Ytmkiffemanmgcaa.EvN
def Cm {α : Type} (f : Nat → Option α) (v : α) : Prop := ∃ K, ∀ k, K ≤ k → f k = some v
theorem cm_now {α : Type} {f : Nat → Option α} {v : α} (h : ∀ k, f k = some v) : Cm f v := ⟨0, fun k _ => h k⟩
theorem cm_step {α : Type} {f g : Nat → Option α} {v : α} (h : ∀ k, f (k + 1) = g k) (hg : Cm g v) : Cm f v := by
  obtain ⟨K, hK⟩ := hg
  refine ⟨K + 1, fun k hk => ?_⟩
  obtain ⟨m, rfl⟩ : ∃ m, k = m + 1 := ⟨k - 1, by omega⟩
  rw [h, hK m (by omega)]
theorem cm_last {α : Type} {f : Nat → Option α} {v : α} (h : ∀ k, f (k + 1) = some v) : Cm f v := cm_step (g := fun _ => some v) h (cm_now fun _ => rfl)
theorem cm_same {α : Type} {f g : Nat → Option α} {v : α} (h : ∀ k, f k = g k) (hg : Cm g v) : Cm f v := by
  obtain ⟨K, hK⟩ := hg
  exact ⟨K, fun k hk => by rw [h, hK k hk]⟩
theorem cm_bind {α β : Type} {a : Nat → Option α} {t : α} {g : Nat → α → Option β} {v : β} (ha : Cm a t) (hg : Cm (fun k => g k t) v) : Cm (fun k => (a k).bind (g k)) v := by
  obtain ⟨K, hK⟩ := ha
  obtain ⟨M, hM⟩ := hg
  exact ⟨K + M, fun k hk => by simp only [hK k (by omega)]; exact hM k (by omega)⟩
theorem cm_yes {α : Type} {c : Prop} [Decidable c] {x y : Nat → Option α} {v : α} (h : c) (h2 : Cm x v) : Cm (fun k => if c then x k else y k) v :=
  cm_same (fun _ => if_pos h) h2
theorem cm_no {α : Type} {c : Prop} [Decidable c] {x y : Nat → Option α} {v : α} (h : ¬ c) (h2 : Cm y v) : Cm (fun k => if c then x k else y k) v :=
  cm_same (fun _ => if_neg h) h2
theorem cm_one {α : Type} {f : Nat → Option α} {v u : α} (h : Cm f v) (h2 : Cm f u) : v = u := by
  obtain ⟨K, hK⟩ := h
  obtain ⟨M, hM⟩ := h2
  have := (hK (K + M) (by omega)).symm.trans (hM (K + M) (by omega))
  exact Option.some.inj this
end Go.Proofs.Ytmkiffemanmgcaa.EvN
end
section
namespace Go.Proofs.Ytmkiffemanmgcaa.Lp
open Go.RowKit Go.Proofs.YtmkiffemanmgcaaW.PrintWords
open Go.Proofs.Ytmkiffemanmgcaa.Pl Go.Proofs.Ytmkiffemanmgcaa.EvN
theorem fold_cm {α σ ρ : Type} {L : Nat → Int → σ → Option ρ} (xs : List α) (g : σ → α → σ) (I : List α → σ → Prop) (s0 : σ) {v : ρ} (h0 : I [] s0)
    (hstep : ∀ pre h t s, pre ++ h :: t = xs → pre.length < xs.length → I pre s → I (pre ++ [h]) (g s h) ∧ ∀ u, Cm (fun k => L k ((pre.length + 1 : Nat) : Int) (g s h)) u → Cm (fun k => L k (pre.length : Int) s) u)
    (hend : I xs (xs.foldl g s0) → Cm (fun k => L k (xs.length : Int) (xs.foldl g s0)) v) : Cm (fun k => L k 0 s0) v := by
  have key : ∀ (rest pre : List α) (s : σ), pre ++ rest = xs → I pre s → rest.foldl g s = xs.foldl g s0 → Cm (fun k => L k (pre.length : Int) s) v := by
    intro rest
    induction rest with
    | nil =>
      intro pre s e hi hf
      rw [List.append_nil] at e
      subst e
      rw [List.foldl_nil] at hf
      subst hf
      exact hend hi
    | cons h t ih =>
      intro pre s e hi hf
      obtain ⟨h1, h2⟩ := hstep pre h t s e (len_mid e) hi
      refine h2 v ?_
      have := ih (pre ++ [h]) (g s h) (app_mid e) h1 (by simpa using hf)
      rw [len_one] at this
      exact this
  exact key xs [] s0 rfl h0 rfl
def okFrom {α : Type} (p : List α → α → Bool) : List α → List α → Bool
  | _, [] => true
  | pre, h :: t => p pre h && okFrom p (pre ++ [h]) t
theorem okFrom_iff {α : Type} (p : List α → α → Bool) : ∀ (rest pre : List α), okFrom p pre rest = true ↔ ∀ a h t, a ++ h :: t = rest → p (pre ++ a) h = true
  | [], pre => by
    simp only [okFrom, true_iff]
    intro a h t e
    simp at e
  | x :: t, pre => by
    simp only [okFrom, Bool.and_eq_true]
    rw [okFrom_iff p t (pre ++ [x])]
    constructor
    · rintro ⟨h1, h2⟩ a h t' e
      cases a with
      | nil =>
        simp only [List.nil_append, List.cons.injEq] at e
        obtain ⟨rfl, rfl⟩ := e
        simpa using h1
      | cons y a =>
        simp only [List.cons_append, List.cons.injEq] at e
        obtain ⟨rfl, e⟩ := e
        have := h2 a h t' e
        simpa using this
    · intro h
      refine ⟨by simpa using h [] x t rfl, fun a h' t' e => ?_⟩
      have := h (x :: a) h' t' (by simp [e])
      simpa using this
theorem all_cm {α ρ : Type} {L : Nat → Int → Option ρ} (xs : List α) (p : List α → α → Bool) {fin no : ρ}
    (hstep : ∀ pre h t, pre ++ h :: t = xs → pre.length < xs.length → p pre h = true → ∀ v, Cm (fun k => L k ((pre.length + 1 : Nat) : Int)) v → Cm (fun k => L k (pre.length : Int)) v)
    (hno : ∀ pre h t, pre ++ h :: t = xs → pre.length < xs.length → p pre h = false → Cm (fun k => L k (pre.length : Int)) no)
    (hend : okFrom p [] xs = true → Cm (fun k => L k (xs.length : Int)) fin) : Cm (fun k => L k 0) (if okFrom p [] xs = true then fin else no) := by
  have key : ∀ (rest pre : List α), pre ++ rest = xs → (okFrom p pre rest = okFrom p [] xs) → Cm (fun k => L k (pre.length : Int)) (if okFrom p pre rest = true then fin else no) := by
    intro rest
    induction rest with
    | nil =>
      intro pre e h
      rw [List.append_nil] at e
      subst e
      simp only [okFrom, if_true] at h ⊢
      exact hend h.symm
    | cons x t ih =>
      intro pre e h
      by_cases c : p pre x = true
      · have h2 : okFrom p pre (x :: t) = okFrom p (pre ++ [x]) t := by simp only [okFrom, c, Bool.true_and]
        rw [h2] at h ⊢
        have h3 := ih (pre ++ [x]) (app_mid e) h
        rw [len_one] at h3
        exact hstep pre x t e (len_mid e) c _ h3
      · have c2 : p pre x = false := by simpa using c
        have h2 : okFrom p pre (x :: t) = false := by simp only [okFrom, c2, Bool.false_and]
        rw [h2]
        simpa using hno pre x t e (len_mid e) c2
  exact key xs [] rfl rfl
theorem okFrom_all {α : Type} (p : α → Bool) : ∀ (rest pre : List α), okFrom (fun _ h => p h) pre rest = rest.all p
  | [], _ => rfl
  | x :: t, pre => by simp only [okFrom, List.all_cons, okFrom_all p t]
theorem every_cm {α ρ : Type} {L : Nat → Int → Option ρ} (xs : List α) (p : α → Bool) {fin no : ρ}
    (hstep : ∀ pre h t, pre ++ h :: t = xs → pre.length < xs.length → p h = true → ∀ v, Cm (fun k => L k ((pre.length + 1 : Nat) : Int)) v → Cm (fun k => L k (pre.length : Int)) v)
    (hno : ∀ pre h t, pre ++ h :: t = xs → pre.length < xs.length → p h = false → Cm (fun k => L k (pre.length : Int)) no)
    (hend : xs.all p = true → Cm (fun k => L k (xs.length : Int)) fin) : Cm (fun k => L k 0) (if xs.all p = true then fin else no) := by
  have := all_cm (L := L) xs (fun _ h => p h) hstep hno (by rw [okFrom_all]; exact hend)
  rw [okFrom_all] at this
  exact this
def foundAt {α ρ : Type} (p : α → Bool) (found : Nat → α → ρ) (none_ : ρ) : Nat → List α → ρ
  | _, [] => none_
  | i, h :: t => if p h = true then found i h else foundAt p found none_ (i + 1) t
theorem find_cm {α ρ : Type} {L : Nat → Int → Option ρ} (xs : List α) (p : α → Bool) (found : Nat → α → ρ) {none_ : ρ}
    (hstep : ∀ pre h t, pre ++ h :: t = xs → pre.length < xs.length → p h = false → ∀ v, Cm (fun k => L k ((pre.length + 1 : Nat) : Int)) v → Cm (fun k => L k (pre.length : Int)) v)
    (hyes : ∀ pre h t, pre ++ h :: t = xs → pre.length < xs.length → p h = true → Cm (fun k => L k (pre.length : Int)) (found pre.length h))
    (hend : Cm (fun k => L k (xs.length : Int)) none_) : Cm (fun k => L k 0) (foundAt p found none_ 0 xs) := by
  have key : ∀ (rest pre : List α), pre ++ rest = xs → Cm (fun k => L k (pre.length : Int)) (foundAt p found none_ pre.length rest) := by
    intro rest
    induction rest with
    | nil =>
      intro pre e
      rw [List.append_nil] at e
      subst e
      exact hend
    | cons x t ih =>
      intro pre e
      unfold foundAt
      by_cases c : p x = true
      · rw [if_pos c]
        exact hyes pre x t e (len_mid e) c
      · rw [if_neg c]
        have h3 := ih (pre ++ [x]) (app_mid e)
        rw [len_one] at h3
        exact hstep pre x t e (len_mid e) (by simpa using c) _ h3
  exact key xs [] rfl
theorem found_any {α : Type} (p : α → Bool) : ∀ (l : List α) (i : Nat), decide (foundAt p (fun i _ => (i : Int)) (-1) i l ≥ 0) = l.any p
  | [], _ => by simp [foundAt]
  | h :: t, i => by
    unfold foundAt
    by_cases c : p h = true
    · rw [if_pos c]; simp [c]
    · rw [if_neg c, found_any p t (i + 1)]; simp [c]
theorem not_any {α : Type} (p q : α → Bool) (l : List α) (h : ∀ x ∈ l, p x = !q x) : (!l.any p) = l.all q := by
  induction l with
  | nil => rfl
  | cons x t ih => rw [List.any_cons, List.all_cons, h x (by simp), ← ih (fun y hy => h y (by simp [hy]))]; cases q x <;> simp
theorem same_cm {α ρ : Type} {L : Nat → Int → Option ρ} (xs : List α) {fin : ρ}
    (hstep : ∀ pre h t, pre ++ h :: t = xs → pre.length < xs.length → ∀ v, Cm (fun k => L k ((pre.length + 1 : Nat) : Int)) v → Cm (fun k => L k (pre.length : Int)) v)
    (hend : Cm (fun k => L k (xs.length : Int)) fin) : Cm (fun k => L k 0) fin := by
  have := every_cm (L := L) xs (fun _ => true) (fin := fin) (no := fin) (fun pre h t e hl _ => hstep pre h t e hl) (fun _ _ _ _ _ hp => by cases hp) (fun _ => hend)
  have h : (xs.all fun _ => true) = true := by simp
  rw [if_pos h] at this
  exact this
theorem map_cm {α β : Type} {L : Nat → Int → List β → Option (List β)} (xs : List α) (c : α → β) (z : β)
    (hstep : ∀ pre h t acc, pre ++ h :: t = xs → pre.length < xs.length → acc.length = xs.length → ∀ u, Cm (fun k => L k ((pre.length + 1 : Nat) : Int) (acc.set pre.length (c h))) u → Cm (fun k => L k (pre.length : Int) acc) u)
    (hend : ∀ acc, acc.length = xs.length → Cm (fun k => L k (xs.length : Int) acc) acc) : Cm (fun k => L k 0 (List.replicate xs.length z)) (xs.map c) := by
  have key : ∀ (rest pre : List α) (tl : List β), pre ++ rest = xs → tl.length = rest.length → Cm (fun k => L k (pre.length : Int) (pre.map c ++ tl)) (xs.map c) := by
    intro rest
    induction rest with
    | nil =>
      intro pre tl e ht
      have ht2 : tl = [] := List.length_eq_zero_iff.1 ht
      rw [List.append_nil] at e
      subst ht2 e
      rw [List.append_nil]
      exact hend _ (by simp)
    | cons h t ih =>
      intro pre tl e ht
      match tl, ht with
      | y :: tl, ht =>
        refine hstep pre h t _ e (len_mid e) (by rw [← e]; simp at ht ⊢; omega) _ ?_
        have e2 : (pre.map c ++ y :: tl).set pre.length (c h) = (pre ++ [h]).map c ++ tl := by
          have : pre.length = (pre.map c).length := by simp
          rw [this]
          simp
        rw [e2]
        have := ih (pre ++ [h]) tl (app_mid e) (by simpa using ht)
        rw [len_one] at this
        exact this
  have := key xs [] (List.replicate xs.length z) rfl (by simp)
  simpa using this
theorem ex_cm {α σ ρ : Type} {L : Nat → Int → σ → Option ρ} (xs : List α)
    (hstep : ∀ pre h t s, pre ++ h :: t = xs → pre.length < xs.length → (∃ v, Cm (fun k => L k (pre.length : Int) s) v) ∨ ∃ s', ∀ u, Cm (fun k => L k ((pre.length + 1 : Nat) : Int) s') u → Cm (fun k => L k (pre.length : Int) s) u)
    (hend : ∀ s, ∃ v, Cm (fun k => L k (xs.length : Int) s) v) (s0 : σ) : ∃ v, Cm (fun k => L k 0 s0) v := by
  have key : ∀ (rest pre : List α) (s : σ), pre ++ rest = xs → ∃ v, Cm (fun k => L k (pre.length : Int) s) v := by
    intro rest
    induction rest with
    | nil =>
      intro pre s e
      rw [List.append_nil] at e
      subst e
      exact hend s
    | cons h t ih =>
      intro pre s e
      rcases hstep pre h t s e (len_mid e) with h1 | ⟨s', h1⟩
      · exact h1
      · obtain ⟨v, hv⟩ := ih (pre ++ [h]) s' (app_mid e)
        rw [len_one] at hv
        exact ⟨v, h1 v hv⟩
  exact key xs [] s0 rfl
theorem exs_cm {α σ ρ : Type} {L : Nat → Int → σ → Option ρ} (xs : List α)
    (hstep : ∀ pre h t s, pre ++ h :: t = xs → pre.length < xs.length → (∀ s', ∃ v, Cm (fun k => L k ((pre.length + 1 : Nat) : Int) s') v) → ∃ v, Cm (fun k => L k (pre.length : Int) s) v)
    (hend : ∀ s, ∃ v, Cm (fun k => L k (xs.length : Int) s) v) (s0 : σ) : ∃ v, Cm (fun k => L k 0 s0) v := by
  have key : ∀ (rest pre : List α), pre ++ rest = xs → ∀ s, ∃ v, Cm (fun k => L k (pre.length : Int) s) v := by
    intro rest
    induction rest with
    | nil =>
      intro pre e s
      rw [List.append_nil] at e
      subst e
      exact hend s
    | cons h t ih =>
      intro pre e s
      refine hstep pre h t s e (len_mid e) (fun s' => ?_)
      have := ih (pre ++ [h]) (app_mid e) s'
      rw [len_one] at this
      exact this
  exact key xs [] rfl s0
theorem cm_if {α : Type} {c : Prop} [Decidable c] {x y : Nat → Option α} {v : α} (h : c → Cm x v) (h2 : ¬ c → Cm y v) : Cm (fun k => if c then x k else y k) v := by
  by_cases hc : c
  · exact cm_yes hc (h hc)
  · exact cm_no hc (h2 hc)
theorem getD_at {α : Type} {pre t l : List α} {h : α} (e : pre ++ h :: t = l) (d : α) : l.getD ((pre.length : Int)).toNat d = h := by
  rw [← e]; simp
theorem cm_val {α : Type} {f : Nat → Option α} {u v : α} (h : Cm f u) (e : u = v) : Cm f v := e ▸ h
end Go.Proofs.Ytmkiffemanmgcaa.Lp
end
section
namespace Go.Proofs.Ytmkiffemanmgcaa.Hs
open Go.RowKit Go.Proofs.Ytmkiffemanmgcaa.P Go.Proofs.YtmkiffemanmgcaaW.PrintWords Go.Proofs.YtmkiffemanmgcaaW.PrintLast Go.Proofs.YtmkiffemanmgcaaW.PrintMore
open Go.Proofs.Ytmkiffemanmgcaa.Pl Go.Proofs.Ytmkiffemanmgcaa.EvN Go.Proofs.Ytmkiffemanmgcaa.Lp
set_option linter.unusedSimpArgs false
set_option linter.unusedVariables false
theorem toIntS_f (l : List Int) (h : l.length * 8 ≤ 140737488351232) : Cm (fun k => laws_toIntS.f k l) l := by
  unfold laws_toIntS.f
  refine cm_yes (by omega) (cm_yes (by omega) ?_)
  have := map_cm (L := fun k i s => laws_toIntS.l0 k l s i) l (fun x => x) 0 ?_ ?_
  · simpa using this
  · intro pre x t acc e hlt ha u hu
    refine cm_step (fun k => by rw [laws_toIntS.l0]) ?_
    simp only [rd_at e, wrap_len hlt (show l.length ≤ 4611686018427387904 by omega), Int.toNat_natCast]
    repeat (first | assumption | exact cm_now (fun _ => rfl) | refine cm_yes (by first | omega | assumption | (simp; done) | (simp; omega)) ?_ | refine cm_no (by first | omega | assumption | (simp; done) | (simp; omega)) ?_)
  · intro acc ha
    refine cm_step (fun k => by rw [laws_toIntS.l0]) ?_
    repeat (first | assumption | exact cm_now (fun _ => rfl) | refine cm_yes (by first | omega | assumption | (simp; done) | (simp; omega)) ?_ | refine cm_no (by first | omega | assumption | (simp; done) | (simp; omega)) ?_)
theorem eqIntS_same (l : List Int) (h : l.length ≤ 4611686018427387904) : Cm (fun k => laws_eqIntS.f k l l) true := by
  unfold laws_eqIntS.f
  refine cm_yes rfl ?_
  refine same_cm (L := fun k i => laws_eqIntS.l0 k l l i) l ?_ ?_
  · intro pre x t e hlt v hv
    refine cm_step (fun k => by rw [laws_eqIntS.l0]) ?_
    simp only [rd_at e, wrap_len hlt h]
    repeat (first | assumption | exact cm_now (fun _ => rfl) | refine cm_yes (by first | omega | assumption | (simp; done) | (simp; omega) | exact rfl) ?_ | refine cm_no (by first | omega | assumption | (simp; done) | (simp; omega) | exact rfl) ?_)
  · refine cm_step (fun k => by rw [laws_eqIntS.l0]) ?_
    repeat (first | assumption | exact cm_now (fun _ => rfl) | refine cm_yes (by first | omega | assumption | (simp; done) | (simp; omega)) ?_ | refine cm_no (by first | omega | assumption | (simp; done) | (simp; omega)) ?_)
theorem szIntS_f (l : List Int) (m : Int) : ∃ v, Cm (fun _ => laws_szIntS.f l m) v := by
  unfold laws_szIntS.f
  by_cases c : wrap64 (m - (l.length : Int)) < 0
  · exact ⟨_, cm_yes c (cm_now fun _ => rfl)⟩
  · exact ⟨_, cm_no c (cm_now fun _ => rfl)⟩
theorem rdB_at {pre t l : List Bool} {h : Bool} (e : pre ++ h :: t = l) : rdOf false l (pre.length : Int) = h := getD_at e _
theorem toBoolS_f (l : List Bool) (h : l.length * 1 ≤ 140737488351232) : Cm (fun k => laws_toBoolS.f k l) l := by
  unfold laws_toBoolS.f
  refine cm_yes (by omega) (cm_yes (by omega) ?_)
  have := map_cm (L := fun k i s => laws_toBoolS.l0 k l s i) l (fun x => x) false ?_ ?_
  · simpa using this
  · intro pre x t acc e hlt ha u hu
    refine cm_step (fun k => by rw [laws_toBoolS.l0]) ?_
    simp only [rdB_at e, wrap_len hlt (show l.length ≤ 4611686018427387904 by omega), Int.toNat_natCast]
    repeat (first | assumption | exact cm_now (fun _ => rfl) | refine cm_yes (by first | omega | assumption | (simp; done) | (simp; omega)) ?_ | refine cm_no (by first | omega | assumption | (simp; done) | (simp; omega)) ?_)
  · intro acc ha
    refine cm_step (fun k => by rw [laws_toBoolS.l0]) ?_
    repeat (first | assumption | exact cm_now (fun _ => rfl) | refine cm_yes (by first | omega | assumption | (simp; done) | (simp; omega)) ?_ | refine cm_no (by first | omega | assumption | (simp; done) | (simp; omega)) ?_)
theorem eqBoolS_same (l : List Bool) (h : l.length ≤ 4611686018427387904) : Cm (fun k => laws_eqBoolS.f k l l) true := by
  unfold laws_eqBoolS.f
  refine cm_yes rfl ?_
  refine same_cm (L := fun k i => laws_eqBoolS.l0 k l l i) l ?_ ?_
  · intro pre x t e hlt v hv
    refine cm_step (fun k => by rw [laws_eqBoolS.l0]) ?_
    simp only [rdB_at e, wrap_len hlt h]
    repeat (first | assumption | exact cm_now (fun _ => rfl) | refine cm_yes (by first | omega | assumption | (simp; done) | (simp; omega) | exact rfl) ?_ | refine cm_no (by first | omega | assumption | (simp; done) | (simp; omega) | exact rfl) ?_)
  · refine cm_step (fun k => by rw [laws_eqBoolS.l0]) ?_
    repeat (first | assumption | exact cm_now (fun _ => rfl) | refine cm_yes (by first | omega | assumption | (simp; done) | (simp; omega)) ?_ | refine cm_no (by first | omega | assumption | (simp; done) | (simp; omega)) ?_)
theorem szBoolS_f (l : List Bool) (m : Int) : ∃ v, Cm (fun _ => laws_szBoolS.f l m) v := by
  unfold laws_szBoolS.f
  by_cases c : wrap64 (m - (l.length : Int)) < 0
  · exact ⟨_, cm_yes c (cm_now fun _ => rfl)⟩
  · exact ⟨_, cm_no c (cm_now fun _ => rfl)⟩
end Go.Proofs.Ytmkiffemanmgcaa.Hs
end
section
namespace Go.Proofs.Ytmkiffemanmgcaa.Hg
open Go.RowKit Go.Proofs.Ytmkiffemanmgcaa.P Go.Proofs.YtmkiffemanmgcaaW.PrintWords Go.Proofs.YtmkiffemanmgcaaW.PrintLast Go.Proofs.YtmkiffemanmgcaaW.PrintMore
open Go.Proofs.Ytmkiffemanmgcaa.Pl Go.Proofs.Ytmkiffemanmgcaa.EvN Go.Proofs.Ytmkiffemanmgcaa.Lp Go.Proofs.Ytmkiffemanmgcaa.Hs
set_option linter.unusedSimpArgs false
set_option linter.unusedVariables false
theorem rdT116_at {pre t l : List S116} {h : S116} (e : pre ++ h :: t = l) : rd_T116 l (pre.length : Int) = h := getD_at e _
theorem rdT94_at {pre t l : List S94} {h : S94} (e : pre ++ h :: t = l) : rd_T94 l (pre.length : Int) = h := getD_at e _
def cChan (x : S116) : S94 := ⟨x.f0, x.f1, x.f2⟩
def smChan (x : S94) : Prop := (True) ∧ (True) ∧ (x.f2.length ≤ 4611686018427387904)
theorem sm_cChan (x : S116) (h : ok116 x) : smChan (cChan x) := by
  obtain ⟨h0, h1, h2⟩ := h
  exact ⟨trivial, trivial, by have := h2.2.1; simp only [cChan]; omega⟩
theorem toChan_f (x : S116) (h : ok116 x) : Cm (fun k => laws_toChan.f k x.f0 x.f1 x.f2) ((cChan x).f0, (cChan x).f1, (cChan x).f2) := by
  obtain ⟨h0, h1, h2⟩ := h
  unfold laws_toChan.f
  exact cm_bind (toIntS_f _ h2.2.1) (cm_now fun _ => rfl)
theorem toChanS_f (l : List S116) (h : l.length ≤ maxLen ∧ l.length * 40 ≤ 140737488351232 ∧ ∀ x_ ∈ l, ok116 x_) : Cm (fun k => laws_toChanS.f k l) (l.map cChan) := by
  have hl := h.2.1
  unfold laws_toChanS.f
  refine cm_yes (by omega) (cm_yes (by omega) ?_)
  rw [Int.toNat_natCast]
  refine map_cm (L := fun k i s => laws_toChanS.l0 k l s i) l cChan z94 ?_ ?_
  · intro pre x t acc e hlt ha u hu
    have hx := h.2.2 x (by rw [← e]; simp)
    refine cm_step (fun k => by rw [laws_toChanS.l0]) ?_
    simp only [rdT116_at e, wrap_len hlt (show l.length ≤ 4611686018427387904 by omega), Int.toNat_natCast]
    refine cm_yes (by omega) (cm_yes (by omega) (cm_bind (toChan_f x hx) (cm_yes (by omega) ?_)))
    exact hu
  · intro acc ha
    refine cm_step (fun k => by rw [laws_toChanS.l0]) ?_
    exact cm_no (by omega) (cm_now fun _ => rfl)
theorem eqChan_same (x : S94) (h : smChan x) : Cm (fun k => laws_eqChan.f k x.f0 x.f1 x.f2 x.f0 x.f1 x.f2) true := by
  obtain ⟨h0, h1, h2⟩ := h
  unfold laws_eqChan.f
  exact cm_yes rfl (cm_yes rfl (cm_bind (eqIntS_same _ h2) (cm_yes rfl (cm_now fun _ => rfl))))
theorem eqChanS_same (l : List S94) (h : l.length ≤ 4611686018427387904 ∧ ∀ y ∈ l, smChan y) : Cm (fun k => laws_eqChanS.f k l l) true := by
  unfold laws_eqChanS.f
  refine cm_yes rfl ?_
  refine same_cm (L := fun k i => laws_eqChanS.l0 k l l i) l ?_ ?_
  · intro pre x t e hlt v hv
    have hx := h.2 x (by rw [← e]; simp)
    refine cm_step (fun k => by rw [laws_eqChanS.l0]) ?_
    simp only [rdT94_at e, wrap_len hlt h.1]
    exact cm_yes (by omega) (cm_yes (by omega) (cm_yes (by omega) (cm_bind (eqChan_same x hx) (cm_yes rfl hv))))
  · refine cm_step (fun k => by rw [laws_eqChanS.l0]) ?_
    exact cm_no (by omega) (cm_now fun _ => rfl)
theorem szChan_ex (x : S116) (h : ok116 x) (m : Int) : ∃ v, Cm (fun k => laws_szChan.f x.f0 x.f1 x.f2 m) v := by
  obtain ⟨h0, h1, h2⟩ := h
  unfold laws_szChan.f
  obtain ⟨v0, w0⟩ := szIntS_f x.f2 m
  by_cases c0 : v0 < 0
  · exact ⟨-1, cm_bind w0 (cm_yes c0 (cm_now fun _ => rfl))⟩
  exact ⟨v0, cm_bind w0 (cm_no c0 (cm_now fun _ => rfl))⟩
theorem szChanS_ex (l : List S116) (h : l.length ≤ maxLen ∧ l.length * 40 ≤ 140737488351232 ∧ ∀ x_ ∈ l, ok116 x_) (m : Int) : ∃ v, Cm (fun k => laws_szChanS.f k l m) v := by
  have hl := h.2.1
  unfold laws_szChanS.f
  by_cases c : wrap64 (m - (l.length : Int)) < 0
  · exact ⟨_, cm_yes c (cm_now fun _ => rfl)⟩
  · obtain ⟨v, hv⟩ : ∃ v, Cm (fun k => laws_szChanS.l0 k l (wrap64 (m - (l.length : Int))) 0) v := by
      refine ex_cm (L := fun k i s => laws_szChanS.l0 k l s i) l ?_ ?_ _
      · intro pre x t s e hlt
        obtain ⟨v, hv⟩ := szChan_ex x (h.2.2 x (by rw [← e]; simp)) s
        by_cases c2 : v < 0
        · refine .inl ⟨-1, ?_⟩
          refine cm_step (fun k => by rw [laws_szChanS.l0]) ?_
          simp only [rdT116_at e, wrap_len hlt (show l.length ≤ 4611686018427387904 by omega)]
          exact cm_yes (by omega) (cm_yes (by omega) (cm_bind hv (cm_yes c2 (cm_now fun _ => rfl))))
        · refine .inr ⟨v, fun u hu => ?_⟩
          refine cm_step (fun k => by rw [laws_szChanS.l0]) ?_
          simp only [rdT116_at e, wrap_len hlt (show l.length ≤ 4611686018427387904 by omega)]
          exact cm_yes (by omega) (cm_yes (by omega) (cm_bind hv (cm_no c2 hu)))
      · intro s
        refine ⟨s, ?_⟩
        refine cm_step (fun k => by rw [laws_szChanS.l0]) ?_
        exact cm_no (by omega) (cm_now fun _ => rfl)
    exact ⟨v, cm_no c hv⟩
theorem rdT118_at {pre t l : List S118} {h : S118} (e : pre ++ h :: t = l) : rd_T118 l (pre.length : Int) = h := getD_at e _
theorem rdT76_at {pre t l : List S76} {h : S76} (e : pre ++ h :: t = l) : rd_T76 l (pre.length : Int) = h := getD_at e _
def cPicture (x : S118) : S76 := ⟨x.f0, x.f1, x.f2, x.f3⟩
def smPicture (x : S76) : Prop := (True) ∧ (True) ∧ (x.f2.length ≤ 4611686018427387904) ∧ (x.f3.length ≤ 4611686018427387904)
theorem sm_cPicture (x : S118) (h : ok118 x) : smPicture (cPicture x) := by
  obtain ⟨h0, h1, h2, h3⟩ := h
  exact ⟨trivial, trivial, by have := h2.2.1; simp only [cPicture]; omega, by have := h3.2.1; simp only [cPicture]; omega⟩
theorem toPicture_f (x : S118) (h : ok118 x) : Cm (fun k => laws_toPicture.f k x.f0 x.f1 x.f2 x.f3) ((cPicture x).f0, (cPicture x).f1, (cPicture x).f2, (cPicture x).f3) := by
  obtain ⟨h0, h1, h2, h3⟩ := h
  unfold laws_toPicture.f
  exact cm_bind (toIntS_f _ h2.2.1) (cm_bind (toBoolS_f _ h3.2.1) (cm_now fun _ => rfl))
theorem toPictureS_f (l : List S118) (h : l.length ≤ maxLen ∧ l.length * 64 ≤ 140737488351232 ∧ ∀ x_ ∈ l, ok118 x_) : Cm (fun k => laws_toPictureS.f k l) (l.map cPicture) := by
  have hl := h.2.1
  unfold laws_toPictureS.f
  refine cm_yes (by omega) (cm_yes (by omega) ?_)
  rw [Int.toNat_natCast]
  refine map_cm (L := fun k i s => laws_toPictureS.l0 k l s i) l cPicture z76 ?_ ?_
  · intro pre x t acc e hlt ha u hu
    have hx := h.2.2 x (by rw [← e]; simp)
    refine cm_step (fun k => by rw [laws_toPictureS.l0]) ?_
    simp only [rdT118_at e, wrap_len hlt (show l.length ≤ 4611686018427387904 by omega), Int.toNat_natCast]
    refine cm_yes (by omega) (cm_yes (by omega) (cm_bind (toPicture_f x hx) (cm_yes (by omega) ?_)))
    exact hu
  · intro acc ha
    refine cm_step (fun k => by rw [laws_toPictureS.l0]) ?_
    exact cm_no (by omega) (cm_now fun _ => rfl)
theorem eqPicture_same (x : S76) (h : smPicture x) : Cm (fun k => laws_eqPicture.f k x.f0 x.f1 x.f2 x.f3 x.f0 x.f1 x.f2 x.f3) true := by
  obtain ⟨h0, h1, h2, h3⟩ := h
  unfold laws_eqPicture.f
  exact cm_no (by simp) (cm_yes rfl (cm_bind (eqIntS_same _ h2) (cm_yes rfl (cm_bind (eqBoolS_same _ h3) (cm_yes rfl (cm_now fun _ => rfl))))))
theorem eqPictureS_same (l : List S76) (h : l.length ≤ 4611686018427387904 ∧ ∀ y ∈ l, smPicture y) : Cm (fun k => laws_eqPictureS.f k l l) true := by
  unfold laws_eqPictureS.f
  refine cm_yes rfl ?_
  refine same_cm (L := fun k i => laws_eqPictureS.l0 k l l i) l ?_ ?_
  · intro pre x t e hlt v hv
    have hx := h.2 x (by rw [← e]; simp)
    refine cm_step (fun k => by rw [laws_eqPictureS.l0]) ?_
    simp only [rdT76_at e, wrap_len hlt h.1]
    exact cm_yes (by omega) (cm_yes (by omega) (cm_yes (by omega) (cm_bind (eqPicture_same x hx) (cm_yes rfl hv))))
  · refine cm_step (fun k => by rw [laws_eqPictureS.l0]) ?_
    exact cm_no (by omega) (cm_now fun _ => rfl)
theorem szPicture_ex (x : S118) (h : ok118 x) (m : Int) : ∃ v, Cm (fun k => laws_szPicture.f x.f0 x.f1 x.f2 x.f3 m) v := by
  obtain ⟨h0, h1, h2, h3⟩ := h
  unfold laws_szPicture.f
  obtain ⟨v0, w0⟩ := szIntS_f x.f2 m
  by_cases c0 : v0 < 0
  · exact ⟨-1, cm_bind w0 (cm_yes c0 (cm_now fun _ => rfl))⟩
  obtain ⟨v1, w1⟩ := szBoolS_f x.f3 v0
  by_cases c1 : v1 < 0
  · exact ⟨-1, cm_bind w0 (cm_no c0 (cm_bind w1 (cm_yes c1 (cm_now fun _ => rfl))))⟩
  exact ⟨v1, cm_bind w0 (cm_no c0 (cm_bind w1 (cm_no c1 (cm_now fun _ => rfl))))⟩
theorem szPictureS_ex (l : List S118) (h : l.length ≤ maxLen ∧ l.length * 64 ≤ 140737488351232 ∧ ∀ x_ ∈ l, ok118 x_) (m : Int) : ∃ v, Cm (fun k => laws_szPictureS.f k l m) v := by
  have hl := h.2.1
  unfold laws_szPictureS.f
  by_cases c : wrap64 (m - (l.length : Int)) < 0
  · exact ⟨_, cm_yes c (cm_now fun _ => rfl)⟩
  · obtain ⟨v, hv⟩ : ∃ v, Cm (fun k => laws_szPictureS.l0 k l (wrap64 (m - (l.length : Int))) 0) v := by
      refine ex_cm (L := fun k i s => laws_szPictureS.l0 k l s i) l ?_ ?_ _
      · intro pre x t s e hlt
        obtain ⟨v, hv⟩ := szPicture_ex x (h.2.2 x (by rw [← e]; simp)) s
        by_cases c2 : v < 0
        · refine .inl ⟨-1, ?_⟩
          refine cm_step (fun k => by rw [laws_szPictureS.l0]) ?_
          simp only [rdT118_at e, wrap_len hlt (show l.length ≤ 4611686018427387904 by omega)]
          exact cm_yes (by omega) (cm_yes (by omega) (cm_bind hv (cm_yes c2 (cm_now fun _ => rfl))))
        · refine .inr ⟨v, fun u hu => ?_⟩
          refine cm_step (fun k => by rw [laws_szPictureS.l0]) ?_
          simp only [rdT118_at e, wrap_len hlt (show l.length ≤ 4611686018427387904 by omega)]
          exact cm_yes (by omega) (cm_yes (by omega) (cm_bind hv (cm_no c2 hu)))
      · intro s
        refine ⟨s, ?_⟩
        refine cm_step (fun k => by rw [laws_szPictureS.l0]) ?_
        exact cm_no (by omega) (cm_now fun _ => rfl)
    exact ⟨v, cm_no c hv⟩
def cSnap (x : S58) : S35 := ⟨x.f0, x.f1.map cChan, x.f2.map cPicture, x.f3, x.f4⟩
def smSnap (x : S35) : Prop := (x.f0.length ≤ 4611686018427387904) ∧ (x.f1.length ≤ 4611686018427387904 ∧ ∀ y ∈ x.f1, smChan y) ∧ (x.f2.length ≤ 4611686018427387904 ∧ ∀ y ∈ x.f2, smPicture y) ∧ (True) ∧ (True)
theorem sm_cSnap (x : S58) (h : ok58 x) : smSnap (cSnap x) := by
  obtain ⟨h0, h1, h2, h3, h4⟩ := h
  exact ⟨by have := h0.2.1; simp only [cSnap]; omega, ⟨by have := h1.2.1; simp only [cSnap, List.length_map]; omega, fun y hy => by obtain ⟨z, hz, rfl⟩ := List.mem_map.1 hy; exact sm_cChan z (h1.2.2 z hz)⟩, ⟨by have := h2.2.1; simp only [cSnap, List.length_map]; omega, fun y hy => by obtain ⟨z, hz, rfl⟩ := List.mem_map.1 hy; exact sm_cPicture z (h2.2.2 z hz)⟩, trivial, trivial⟩
theorem toSnap_f (x : S58) (h : ok58 x) : Cm (fun k => laws_toSnap.f k x.f0 x.f1 x.f2 x.f3 x.f4) ((cSnap x).f0, (cSnap x).f1, (cSnap x).f2, (cSnap x).f3, (cSnap x).f4) := by
  obtain ⟨h0, h1, h2, h3, h4⟩ := h
  unfold laws_toSnap.f
  exact cm_bind (toIntS_f _ h0.2.1) (cm_bind (toChanS_f _ h1) (cm_bind (toPictureS_f _ h2) (cm_now fun _ => rfl)))
theorem eqSnap_same (x : S35) (h : smSnap x) : Cm (fun k => laws_eqSnap.f k x.f0 x.f1 x.f2 x.f3 x.f4 x.f0 x.f1 x.f2 x.f3 x.f4) true := by
  obtain ⟨h0, h1, h2, h3, h4⟩ := h
  unfold laws_eqSnap.f
  exact cm_bind (eqIntS_same _ h0) (cm_yes rfl (cm_bind (eqChanS_same _ h1) (cm_yes rfl (cm_bind (eqPictureS_same _ h2) (cm_yes rfl (cm_yes rfl (cm_yes rfl (cm_now fun _ => rfl))))))))
theorem szSnap_ex (x : S58) (h : ok58 x) (m : Int) : ∃ v, Cm (fun k => laws_szSnap.f k x.f0 x.f1 x.f2 x.f3 x.f4 m) v := by
  obtain ⟨h0, h1, h2, h3, h4⟩ := h
  unfold laws_szSnap.f
  obtain ⟨v0, w0⟩ := szIntS_f x.f0 m
  by_cases c0 : v0 < 0
  · exact ⟨-1, cm_bind w0 (cm_yes c0 (cm_now fun _ => rfl))⟩
  obtain ⟨v1, w1⟩ := szChanS_ex x.f1 h1 v0
  by_cases c1 : v1 < 0
  · exact ⟨-1, cm_bind w0 (cm_no c0 (cm_bind w1 (cm_yes c1 (cm_now fun _ => rfl))))⟩
  obtain ⟨v2, w2⟩ := szPictureS_ex x.f2 h2 v1
  by_cases c2 : v2 < 0
  · exact ⟨-1, cm_bind w0 (cm_no c0 (cm_bind w1 (cm_no c1 (cm_bind w2 (cm_yes c2 (cm_now fun _ => rfl))))))⟩
  exact ⟨v2, cm_bind w0 (cm_no c0 (cm_bind w1 (cm_no c1 (cm_bind w2 (cm_no c2 (cm_now fun _ => rfl))))))⟩
end Go.Proofs.Ytmkiffemanmgcaa.Hg
end
section
namespace Go.Proofs.Ytmkiffemanmgcaa.Sets
open Go.RowKit Go.Proofs.YtmkiffemanmgcaaW.PrintWords Go.Proofs.YtmkiffemanmgcaaW.PrintLast Go.Proofs.YtmkiffemanmgcaaW.PrintMore
open Go.Proofs.Ytmkiffemanmgcaa.Pl Go.Proofs.Ytmkiffemanmgcaa.EvN Go.Proofs.Ytmkiffemanmgcaa.Lp
set_option linter.unusedSimpArgs false
set_option linter.unusedVariables false
theorem and_self (a b : Nat) : a &&& b = b ↔ ∀ i, b.testBit i = true → a.testBit i = true := by
  constructor
  · intro h i h2
    have : (a &&& b).testBit i = true := by rw [h]; exact h2
    rw [Nat.testBit_and] at this
    simp_all
  · intro h
    apply Nat.eq_of_testBit_eq
    intro i
    rw [Nat.testBit_and]
    have := h i
    cases h1 : a.testBit i <;> cases h2 : b.testBit i <;> simp_all
end Go.Proofs.Ytmkiffemanmgcaa.Sets
end
section
namespace Go.Proofs.Ytmkiffemanmgcaa.Mem
open Go.RowKit Go.Proofs.Ytmkiffemanmgcaa.P Go.Proofs.YtmkiffemanmgcaaW.PrintWords Go.Proofs.YtmkiffemanmgcaaW.PrintLast Go.Proofs.YtmkiffemanmgcaaW.PrintMore
open Go.Proofs.Ytmkiffemanmgcaa.Pl Go.Proofs.Ytmkiffemanmgcaa.EvN Go.Proofs.Ytmkiffemanmgcaa.Lp Go.Proofs.Ytmkiffemanmgcaa.Sets
set_option linter.unusedSimpArgs false
set_option linter.unusedVariables false
theorem in_f (a b c : Int) : impl_in.f a b c = some (decide (b ≤ a ∧ a ≤ c)) := by
  unfold impl_in.f
  by_cases h : a ≥ b
  · rw [if_pos h]; congr 1; rw [decide_eq_decide]; omega
  · rw [if_neg h]; congr 1; symm; rw [decide_eq_false_iff_not]; omega
theorem if_self (b : Bool) : (if b = true then true else false) = b := by cases b <;> rfl
end Go.Proofs.Ytmkiffemanmgcaa.Mem
end
section
namespace Go.Proofs.Ytmkiffemanmgcaa.Sz
open Go.RowKit Go.Proofs.Ytmkiffemanmgcaa.P Go.Proofs.YtmkiffemanmgcaaW.PrintWords Go.Proofs.YtmkiffemanmgcaaW.PrintLast Go.Proofs.YtmkiffemanmgcaaW.PrintMore
open Go.Proofs.Ytmkiffemanmgcaa.Pl Go.Proofs.Ytmkiffemanmgcaa.EvN Go.Proofs.Ytmkiffemanmgcaa.Lp Go.Proofs.Ytmkiffemanmgcaa.Hs
set_option linter.unusedVariables false
set_option linter.unusedSimpArgs false
theorem off_wrap {n : Nat} {m : Int} (h0 : 0 ≤ m) (h1 : m ≤ 1099511627776) (h : n ≤ 4611686018427387904) : wrap64 (m - (n : Int)) = m - (n : Int) := wrap_in (by omega) (by omega)
theorem szIntS_wt (l : List Int) (hl : l.length ≤ 4611686018427387904) (m : Int) (h0 : 0 ≤ m) (h1 : m ≤ 1099511627776) : ∃ v, Cm (fun _ => laws_szIntS.f l m) v ∧ (v < 0 ∨ v + (l.length : Int) = m) := by
  unfold laws_szIntS.f
  rw [off_wrap h0 h1 hl]
  by_cases c : m - (l.length : Int) < 0
  · exact ⟨_, cm_yes c (cm_now fun _ => rfl), .inl (by omega)⟩
  · exact ⟨_, cm_no c (cm_now fun _ => rfl), .inr (by omega)⟩
end Go.Proofs.Ytmkiffemanmgcaa.Sz
end
section
namespace Go.Proofs.Ytmkiffemanmgcaa.NewS
open Go.RowKit Go.Proofs.Ytmkiffemanmgcaa.P Go.Proofs.YtmkiffemanmgcaaW.PrintWords Go.Proofs.YtmkiffemanmgcaaW.PrintLast Go.Proofs.YtmkiffemanmgcaaW.PrintMore
open Go.Proofs.Ytmkiffemanmgcaa.Pl Go.Proofs.Ytmkiffemanmgcaa.EvN Go.Proofs.Ytmkiffemanmgcaa.Lp Go.Proofs.Ytmkiffemanmgcaa.Hg Go.Proofs.Ytmkiffemanmgcaa.Mem
set_option linter.unusedVariables false
set_option linter.unusedSimpArgs false
def pic (n : Int) : S76 := ⟨false, 0, List.replicate n.toNat 0, List.replicate n.toNat false⟩
def row1 (n a : Int) : List S94 := if n = 2 then [⟨a, 1 - a, []⟩] else []
def chans (n : Int) : List S94 := if n = 2 then [⟨0, 1, []⟩, ⟨1, 0, []⟩] else if n = 3 then [⟨0, 1, []⟩, ⟨0, 2, []⟩, ⟨1, 0, []⟩, ⟨1, 2, []⟩, ⟨2, 0, []⟩, ⟨2, 1, []⟩] else [⟨0, 1, []⟩, ⟨0, 2, []⟩, ⟨0, 3, []⟩, ⟨1, 0, []⟩, ⟨1, 2, []⟩, ⟨1, 3, []⟩, ⟨2, 0, []⟩, ⟨2, 1, []⟩, ⟨2, 3, []⟩, ⟨3, 0, []⟩, ⟨3, 1, []⟩, ⟨3, 2, []⟩]
theorem three {a : Int} (h : 2 ≤ a ∧ a ≤ 4) : a = 2 ∨ a = 3 ∨ a = 4 := by omega
theorem chans_f {n : Int} (h : 2 ≤ n ∧ n ≤ 4) : Cm (fun k => spec_l8Chans.f k n) (chans n) := by
  rcases three h with rfl | rfl | rfl <;> exact ⟨40, fun k hk => by obtain ⟨m, rfl⟩ : ∃ m, k = m + 40 := ⟨k - 40, by omega⟩; simp [spec_l8Chans.f, spec_l8Chans.l0, spec_l8Chans.l1, wrap64, chans]⟩
theorem impl_l {n : Int} (h : 2 ≤ n ∧ n ≤ 4) (a T : Int) : Cm (fun k => impl_newSnap.l0 k n a n 0 [] [] [] 0 T) (List.replicate n.toNat a, chans n, List.replicate n.toNat (pic n), 0, T) := by
  rcases three h with rfl | rfl | rfl <;> exact ⟨40, fun k hk => by obtain ⟨m, rfl⟩ : ∃ m, k = m + 40 := ⟨k - 40, by omega⟩; simp [impl_newSnap.l0, impl_newSnap.l1, wrap64, pic, chans, List.replicate]⟩
theorem sin_f (a b c : Int) : spec_l1In.f a b c = some (decide (b ≤ a ∧ a ≤ c)) := by
  unfold spec_l1In.f
  by_cases h : a ≥ b
  · rw [if_pos h]; simp; omega
  · rw [if_neg h]; simp; omega
theorem chans_way (n : Int) : (chans n).length ≤ 12 ∧ ∀ x ∈ chans n, x.f2 = [] := by
  unfold chans
  split
  · exact ⟨by decide, fun x hx => by simp at hx; rcases hx with rfl | rfl <;> rfl⟩
  · split
    · exact ⟨by decide, fun x hx => by simp at hx; rcases hx with rfl | rfl | rfl | rfl | rfl | rfl <;> rfl⟩
    · exact ⟨by decide, fun x hx => by simp at hx; rcases hx with rfl | rfl | rfl | rfl | rfl | rfl | rfl | rfl | rfl | rfl | rfl | rfl <;> rfl⟩
end Go.Proofs.Ytmkiffemanmgcaa.NewS
end
section
namespace Go.Proofs.Ytmkiffemanmgcaa.Pick
open Go.RowKit Go.Proofs.YtmkiffemanmgcaaW.PrintWords
open Go.Proofs.Ytmkiffemanmgcaa.Pl Go.Proofs.Ytmkiffemanmgcaa.EvN Go.Proofs.Ytmkiffemanmgcaa.Lp
set_option linter.unusedVariables false
set_option linter.unusedSimpArgs false
theorem wrap_n {i n : Nat} (h : i < n) (hn : n ≤ 4611686018427387904) : wrap64 ((i : Int) + 1) = ((i + 1 : Nat) : Int) := by
  rw [show ((i + 1 : Nat) : Int) = (i : Int) + 1 by omega]
  exact wrap_in (by omega) (by omega)
end Go.Proofs.Ytmkiffemanmgcaa.Pick
end
section
namespace Go.Proofs.Ytmkiffemanmgcaa.Mem
open Go.RowKit Go.Proofs.Ytmkiffemanmgcaa.P Go.Proofs.YtmkiffemanmgcaaW.PrintWords Go.Proofs.YtmkiffemanmgcaaW.PrintLast Go.Proofs.YtmkiffemanmgcaaW.PrintMore
open Go.Proofs.Ytmkiffemanmgcaa.Pl Go.Proofs.Ytmkiffemanmgcaa.EvN Go.Proofs.Ytmkiffemanmgcaa.Lp Go.Proofs.Ytmkiffemanmgcaa.Sets
set_option linter.unusedSimpArgs false
set_option linter.unusedVariables false
end Go.Proofs.Ytmkiffemanmgcaa.Mem
end
section
namespace Go.Proofs.Ytmkiffemanmgcaa.SnapA
open Go.RowKit Go.Proofs.Ytmkiffemanmgcaa.P Go.Proofs.YtmkiffemanmgcaaW.PrintWords Go.Proofs.YtmkiffemanmgcaaW.PrintLast Go.Proofs.YtmkiffemanmgcaaW.PrintMore
open Go.Proofs.Ytmkiffemanmgcaa.Pl Go.Proofs.Ytmkiffemanmgcaa.EvN Go.Proofs.Ytmkiffemanmgcaa.Lp Go.Proofs.Ytmkiffemanmgcaa.Hg Go.Proofs.Ytmkiffemanmgcaa.Mem Go.Proofs.Ytmkiffemanmgcaa.Pick Go.Proofs.Ytmkiffemanmgcaa.NewS
set_option linter.unusedVariables false
set_option linter.unusedSimpArgs false
theorem fall_cm {α σ ρ : Type} {L : Nat → Int → σ → Option ρ} (xs : List α) (p : List α → α → Bool) (g : σ → α → σ) (s0 : σ) {fin no : ρ}
    (hstep : ∀ pre h t s, pre ++ h :: t = xs → pre.length < xs.length → p pre h = true → ∀ v, Cm (fun k => L k ((pre.length + 1 : Nat) : Int) (g s h)) v → Cm (fun k => L k (pre.length : Int) s) v)
    (hno : ∀ pre h t s, pre ++ h :: t = xs → pre.length < xs.length → p pre h = false → Cm (fun k => L k (pre.length : Int) s) no)
    (hend : okFrom p [] xs = true → Cm (fun k => L k (xs.length : Int) (xs.foldl g s0)) fin) : Cm (fun k => L k 0 s0) (if okFrom p [] xs = true then fin else no) := by
  have key : ∀ (rest pre : List α) (s : σ), pre ++ rest = xs → (okFrom p pre rest = okFrom p [] xs) → rest.foldl g s = xs.foldl g s0 → Cm (fun k => L k (pre.length : Int) s) (if okFrom p pre rest = true then fin else no) := by
    intro rest
    induction rest with
    | nil =>
      intro pre s e h hf
      rw [List.append_nil] at e
      subst e
      simp only [okFrom, if_true] at h ⊢
      rw [List.foldl_nil] at hf
      subst hf
      exact hend h.symm
    | cons x t ih =>
      intro pre s e h hf
      by_cases c : p pre x = true
      · have h2 : okFrom p pre (x :: t) = okFrom p (pre ++ [x]) t := by simp only [okFrom, c, Bool.true_and]
        rw [h2] at h ⊢
        have h3 := ih (pre ++ [x]) (g s x) (app_mid e) h hf
        rw [len_one] at h3
        exact hstep pre x t s e (len_mid e) c _ h3
      · have c2 : p pre x = false := by simpa using c
        have h2 : okFrom p pre (x :: t) = false := by simp only [okFrom, c2, Bool.false_and]
        rw [h2]
        simpa using hno pre x t s e (len_mid e) c2
  exact key xs [] s0 rfl rfl rfl
def rng (x : Int) : Bool := decide (0 ≤ x ∧ x ≤ 1000000)
def picV (n k : Int) (p : S76) : Bool :=
  (decide ((p.f2.length : Int) = n) && decide ((p.f3.length : Int) = n)) && (p.f2.all rng &&
    (if p.f0 = true then (decide (0 ≤ p.f1 ∧ p.f1 ≤ 1000) && decide (rd p.f2 k = 0)) && rdOf false p.f3 k else decide (p.f1 = 0) && (p.f2.all (fun x => decide (x = 0)) && p.f3.all (fun b => !b))))
theorem picV_at {n k : Int} {p : S76} (h : picV n k p = true) : (p.f2.length : Int) = n ∧ (p.f3.length : Int) = n := by
  unfold picV at h
  simp only [Bool.and_eq_true, decide_eq_true_eq] at h
  exact h.1
def tst (T : Bool) (C : List Bool) (pre : List Int) (h : Int) : Bool := rng h && (T || (decide (h = 0) && !rdOf false C (pre.length : Int)))
theorem okc {C : List Bool} (T : Bool) : ∀ rest pre : List Int, pre.length + rest.length = C.length →
    okFrom (tst T C) pre rest = (rest.all rng && (T || (rest.all (fun x => decide (x = 0)) && (C.drop pre.length).all (fun b => !b))))
  | [], pre, h => by
    have : C.drop pre.length = [] := List.drop_eq_nil_of_le (by simp at h; omega)
    simp [okFrom, this]
  | x :: t, pre, h => by
    simp only [List.length_cons] at h
    have hlt : pre.length < C.length := by omega
    have e : C.drop pre.length = C[pre.length] :: C.drop (pre.length + 1) := List.drop_eq_getElem_cons hlt
    have er : rdOf false C (pre.length : Int) = C[pre.length] := by simp [rdOf, hlt]
    have ih := okc (C := C) T t (pre ++ [x]) (by rw [List.length_append, List.length_singleton]; omega)
    have el : (pre ++ [x]).length = pre.length + 1 := by simp
    rw [el] at ih
    rw [okFrom, ih, tst, er, e, List.all_cons, List.all_cons, List.all_cons]
    cases T
    · simp only [Bool.false_or]
      ac_rfl
    · simp only [Bool.true_or, Bool.and_true]
theorem all_no {α : Type} {p : α → Bool} {l : List α} {x : α} (hx : x ∈ l) (h : p x = false) : l.all p = false := by
  cases e : l.all p with
  | false => rfl
  | true =>
    rw [List.all_eq_true] at e
    have := e x hx
    rw [h] at this
    cases this
theorem mem_rd {l : List Int} {k : Nat} (h : k < l.length) : rd l (k : Int) ∈ l := by
  have : rd l (k : Int) = l[k] := by simp [rd, h]
  rw [this]
  exact List.getElem_mem h
theorem mem_rdB {l : List Bool} {k : Nat} (h : k < l.length) : rdOf false l (k : Int) ∈ l := by
  have : rdOf false l (k : Int) = l[k] := by simp [rdOf, h]
  rw [this]
  exact List.getElem_mem h
theorem sj_no (p : S76) : Cm (fun k => spec_l8Picture.j0 k true p.f0 p.f1 p.f2 p.f3) false := by
  refine cm_step (fun k => by rw [spec_l8Picture.j0]) ?_
  exact cm_yes rfl (cm_now fun _ => rfl)
theorem sj_yes (p : S76) (h2 : p.f2.length ≤ 4611686018427387904) (he : p.f2.length = p.f3.length) : Cm (fun k => spec_l8Picture.j0 k false p.f0 p.f1 p.f2 p.f3) (p.f2.all rng && (p.f0 || (p.f2.all (fun x => decide (x = 0)) && p.f3.all (fun b => !b)))) := by
  have e := okc (C := p.f3) p.f0 p.f2 [] (by simp; omega)
  rw [List.length_nil, List.drop_zero] at e
  rw [← e]
  refine cm_step (fun k => by rw [spec_l8Picture.j0]) ?_
  refine cm_no (by simp) ?_
  have := all_cm (L := fun k i => spec_l8Picture.l0 k p.f2 (p.f2.length : Int) i p.f0 p.f1 p.f2 p.f3) p.f2 (tst p.f0 p.f3) (fin := true) (no := false) ?_ ?_ ?_
  · exact cm_val this (if_self _)
  · intro pre h t e hlt hp v hv
    unfold tst rng at hp
    simp only [Bool.and_eq_true, decide_eq_true_eq, Bool.or_eq_true, Bool.not_eq_true'] at hp
    refine cm_step (fun k => by rw [spec_l8Picture.l0]) ?_
    simp only [rd_at e, wrap_len hlt h2, sin_f]
    refine cm_yes (by omega) (cm_yes (by omega) (cm_yes (by omega) (cm_bind (cm_now fun _ => rfl) (cm_yes (by simpa using hp.1) (cm_if (fun _ => hv) (fun c => ?_))))))
    rcases hp.2 with h3 | h3
    · exact absurd h3 c
    · exact cm_yes h3.1 (cm_yes (by omega) (cm_no (by rw [h3.2]; simp) hv))
  · intro pre h t e hlt hp
    refine cm_step (fun k => by rw [spec_l8Picture.l0]) ?_
    simp only [rd_at e, wrap_len hlt h2, sin_f]
    refine cm_yes (by omega) (cm_yes (by omega) (cm_yes (by omega) (cm_bind (cm_now fun _ => rfl) ?_)))
    by_cases c1 : 0 ≤ h ∧ h ≤ 1000000
    · refine cm_yes (by simpa using c1) ?_
      have hr : rng h = true := by unfold rng; exact decide_eq_true c1
      unfold tst at hp
      rw [hr, Bool.true_and, Bool.or_eq_false_iff] at hp
      refine cm_no (by rw [hp.1]; simp) ?_
      by_cases c2 : h = 0
      · refine cm_yes c2 (cm_yes (by omega) (cm_yes ?_ (cm_now fun _ => rfl)))
        have := hp.2
        rw [decide_eq_true c2, Bool.true_and, Bool.not_eq_false'] at this
        exact this
      · exact cm_no c2 (cm_now fun _ => rfl)
    · exact cm_no (by simpa using c1) (cm_now fun _ => rfl)
  · intro _
    refine cm_step (fun k => by rw [spec_l8Picture.l0]) ?_
    exact cm_no (by omega) (cm_now fun _ => rfl)
theorem specPic_f (A : List Int) (C : List S94) (P : List S76) (s t : Int) (k : Nat) (hk : k < P.length) (hkA : k < A.length) (hp : (rd_T76 P (k : Int)).f2.length ≤ 4611686018427387904) :
    Cm (fun m => spec_l8Picture.f m A C P s t (k : Int)) (picV (A.length : Int) (k : Int) (rd_T76 P (k : Int))) := by
  unfold spec_l8Picture.f
  generalize rd_T76 P (k : Int) = p at *
  have jn := sj_no p
  have jy := sj_yes p hp
  refine cm_yes (by omega) ?_
  refine cm_yes (by omega) ?_
  by_cases c1 : (p.f2.length : Int) = (A.length : Int)
  · refine cm_yes c1 ?_
    by_cases c2 : (p.f3.length : Int) = (A.length : Int)
    · refine cm_yes c2 ?_
      refine cm_bind (cm_now fun _ => sin_f _ _ _) ?_
      have jy := jy (by omega)
      by_cases c3 : 0 ≤ p.f1 ∧ p.f1 ≤ 1000
      · refine cm_yes (by simpa using c3) ?_
        by_cases cT : p.f0 = true
        · refine cm_yes cT ?_
          refine cm_yes (by omega) ?_
          by_cases c4 : rd p.f2 (k : Int) = 0
          · refine cm_yes c4 ?_
            refine cm_yes (by omega) ?_
            cases c5 : rdOf false p.f3 (k : Int) with
            | true =>
              have e : (true != p.f0) = false := by rw [cT]; rfl
              rw [e]
              refine cm_val jy ?_
              simp [picV, cT, c1, c2, c3, c4, c5]
            | false =>
              have e : (false != p.f0) = true := by rw [cT]; rfl
              rw [e]
              refine cm_val jn ?_
              simp [picV, cT, c5]
          · refine cm_no c4 (cm_val jn ?_)
            simp [picV, cT, c4]
        · have cF : p.f0 = false := by simpa using cT
          refine cm_no cT ?_
          by_cases c6 : p.f1 = 0
          · refine cm_yes c6 ?_
            refine cm_yes (by omega) ?_
            by_cases c4 : rd p.f2 (k : Int) = 0
            · refine cm_yes c4 ?_
              refine cm_yes (by omega) ?_
              cases c5 : rdOf false p.f3 (k : Int) with
              | true =>
                have e : (true != p.f0) = true := by rw [cF]; rfl
                rw [e]
                refine cm_val jn ?_
                have h1 := all_no (p := fun b => !b) (mem_rdB (l := p.f3) (k := k) (by omega)) (by rw [c5]; rfl)
                unfold picV
                rw [h1, if_neg cT]
                simp
              | false =>
                have e : (false != p.f0) = false := by rw [cF]; rfl
                rw [e]
                refine cm_val jy ?_
                unfold picV
                rw [if_neg cT, cF, decide_eq_true c1, decide_eq_true c2, decide_eq_true c6]
                simp
            · refine cm_no c4 (cm_val jn ?_)
              have h1 := all_no (p := fun x => decide (x = 0)) (mem_rd (l := p.f2) (k := k) (by omega)) (by simpa using c4)
              unfold picV
              rw [h1, if_neg cT]
              simp
          · refine cm_no c6 (cm_val jn ?_)
            unfold picV
            rw [if_neg cT, decide_eq_false c6]
            simp
      · refine cm_no (by simpa using c3) (cm_val jn ?_)
        unfold picV
        by_cases cT : p.f0 = true
        · rw [if_pos cT, decide_eq_false c3]; simp
        · rw [if_neg cT, decide_eq_false (show ¬ p.f1 = 0 by omega)]; simp
    · refine cm_no c2 (cm_val jn ?_)
      unfold picV
      rw [decide_eq_false c2]
      simp
  · refine cm_no c1 (cm_val jn ?_)
    unfold picV
    rw [decide_eq_false c1]
    simp
theorem anyN_index (l : List Int) (hl : l.length ≤ 4611686018427387904) (p : Int → Bool) (hc : ∀ h ∈ l, Cm (fun k => impl_isPicture_1.f h) (p h)) :
    Cm (fun k => slices_IndexFunc_int_int_of_impl_isPicture_1.f k l) (foundAt p (fun i _ => (i : Int)) (-1) 0 l) := by
  unfold slices_IndexFunc_int_int_of_impl_isPicture_1.f
  refine find_cm (L := fun k i => slices_IndexFunc_int_int_of_impl_isPicture_1.l0 k l (l.length : Int) i) l p (fun i _ => (i : Int)) (none_ := (-1 : Int)) ?_ ?_ ?_
  · intro pre h t e hlt hp v hv
    refine cm_step (fun k => by rw [slices_IndexFunc_int_int_of_impl_isPicture_1.l0]) ?_
    simp only [rd_at e, wrap_len hlt hl]
    refine cm_yes (by omega) (cm_yes (by omega) (cm_yes (by omega) (cm_bind (hc h (by rw [← e]; simp)) ?_)))
    exact cm_no (by simpa using hp) hv
  · intro pre h t e hlt hp
    refine cm_step (fun k => by rw [slices_IndexFunc_int_int_of_impl_isPicture_1.l0]) ?_
    simp only [rd_at e, wrap_len hlt hl]
    refine cm_yes (by omega) (cm_yes (by omega) (cm_yes (by omega) (cm_bind (hc h (by rw [← e]; simp)) ?_)))
    exact cm_yes hp (cm_now fun _ => rfl)
  · refine cm_step (fun k => by rw [slices_IndexFunc_int_int_of_impl_isPicture_1.l0]) ?_
    exact cm_no (by omega) (cm_now fun _ => rfl)
theorem anyN (l : List Int) (hl : l.length ≤ 4611686018427387904) (p : Int → Bool) (hc : ∀ h ∈ l, Cm (fun k => impl_isPicture_1.f h) (p h)) : Cm (fun k => slices_ContainsFunc_int_int_of_impl_isPicture_1.f k l) (l.any p) := by
  unfold slices_ContainsFunc_int_int_of_impl_isPicture_1.f
  refine cm_bind (anyN_index l hl p hc) (cm_now fun _ => ?_)
  rw [found_any]
theorem max_l0 (l : List Int) (hl : l.length ≤ 1048576) : ∀ (rest pre : List Int) (m : Int), pre ++ rest = l → m ∈ pre → (∀ x ∈ pre, x ≤ m) →
    ∃ r, Cm (fun k => slices_Max_int_int.l0 k l m (pre.length : Int)) r ∧ r ∈ l ∧ ∀ x ∈ l, x ≤ r
  | [], pre, m, e, hm, hx => by
    have := len_end e
    obtain rfl : pre = l := by simpa using e
    refine ⟨m, cm_last (fun k => ?_), hm, hx⟩
    rw [slices_Max_int_int.l0, if_neg (by omega)]
  | h :: t, pre, m, e, hm, hx => by
    have hlt := len_mid e
    have hmx : mx m h = m ∧ h ≤ m ∨ mx m h = h ∧ m ≤ h := by unfold mx; split <;> omega
    obtain ⟨r, h1, h2⟩ := max_l0 l hl t (pre ++ [h]) (mx m h) (app_mid e) (by
      rcases hmx with c | c
      · rw [c.1]; simp [hm]
      · rw [c.1]; simp) (by
      intro x hxx
      rw [List.mem_append, List.mem_singleton] at hxx
      rcases hxx with hxx | rfl
      · have := hx x hxx
        omega
      · omega)
    rw [len_one] at h1
    refine ⟨r, cm_step (fun k => ?_) h1, h2⟩
    rw [slices_Max_int_int.l0, if_pos (by omega), if_pos (by omega), rd_at e, wrap_len hlt (by omega)]
theorem max_f (l : List Int) (hl : l.length ≤ 1048576) (h0 : 0 < l.length) : ∃ r, Cm (fun k => slices_Max_int_int.f k l) r ∧ r ∈ l ∧ ∀ x ∈ l, x ≤ r := by
  match l, h0 with
  | a :: t, _ =>
    obtain ⟨r, h1, h2⟩ := max_l0 (a :: t) hl t [a] a rfl (by simp) (by simp)
    refine ⟨r, ?_, h2⟩
    unfold slices_Max_int_int.f
    refine cm_no (by simp; omega) (cm_yes (by simp) ?_)
    simpa [rd] using h1
theorem rdB_at {pre t l : List Bool} {h : Bool} (e : pre ++ h :: t = l) : rdOf false l (pre.length : Int) = h := getD_at e _
theorem containsB_f (l : List Bool) (v : Bool) (hl : l.length ≤ 4611686018427387904) : Cm (fun k => slices_Contains_bool_bool.f k l v) (l.any (fun x => v == x)) := by
  unfold slices_Contains_bool_bool.f slices_Index_bool_bool.f
  refine cm_bind (find_cm (L := fun k i => slices_Index_bool_bool.l0 k l v (l.length : Int) i) l (fun x => v == x) (fun i _ => (i : Int)) (none_ := (-1 : Int)) ?_ ?_ ?_) (cm_now fun _ => by rw [found_any])
  · intro pre h t e hlt hp u hu
    refine cm_step (fun k => by rw [slices_Index_bool_bool.l0]) ?_
    simp only [rdB_at e, wrap_len hlt hl]
    exact cm_yes (by omega) (cm_yes (by omega) (cm_yes (by omega) (cm_no (by rw [hp]; simp) hu)))
  · intro pre h t e hlt hp
    refine cm_step (fun k => by rw [slices_Index_bool_bool.l0]) ?_
    simp only [rdB_at e, wrap_len hlt hl]
    exact cm_yes (by omega) (cm_yes (by omega) (cm_yes (by omega) (cm_yes hp (cm_now fun _ => rfl))))
  · refine cm_step (fun k => by rw [slices_Index_bool_bool.l0]) ?_
    exact cm_no (by omega) (cm_now fun _ => rfl)
theorem any_not (l : List Bool) : (!l.any (fun x => true == x)) = l.all (fun b => !b) := by
  induction l with
  | nil => rfl
  | cons x t ih => rw [List.any_cons, List.all_cons, Bool.not_or, ih]; cases x <;> rfl
theorem implPic_f (n : Nat) (k : Nat) (p : S76) (hn : 2 ≤ n ∧ n ≤ 4) (hk : k < n) (h2 : p.f2.length ≤ 4611686018427387904) (h3 : p.f3.length ≤ 4611686018427387904) : Cm (fun m => impl_isPicture.f m p.f0 p.f1 p.f2 p.f3 (k : Int) (n : Int)) (picV (n : Int) (k : Int) p) := by
  unfold impl_isPicture.f
  have jn : Cm (fun m => impl_isPicture.j0 m (k : Int) true p.f0 p.f1 p.f2 p.f3) false := by
    refine cm_step (fun k => by rw [impl_isPicture.j0]) ?_
    exact cm_yes rfl (cm_now fun _ => rfl)
  by_cases c1 : (p.f2.length : Int) = (n : Int)
  · refine cm_yes c1 ?_
    by_cases c2 : (p.f3.length : Int) = (n : Int)
    · refine cm_yes c2 ?_
      refine cm_bind (anyN p.f2 h2 (fun x => !rng x) (fun x _ => ?_)) ?_
      · unfold impl_isPicture_1.f
        exact cm_bind (cm_now fun _ => in_f _ _ _) (cm_now fun _ => rfl)
      · have ea : p.f2.any (fun x => !rng x) = !p.f2.all rng := by
          rw [← not_any (fun x => !rng x) rng p.f2 (fun _ _ => rfl), Bool.not_not]
        rw [ea]
        cases cR : p.f2.all rng with
        | false =>
          refine cm_val jn ?_
          unfold picV
          rw [cR]
          simp
        | true =>
          refine cm_step (fun k => by rw [impl_isPicture.j0]) ?_
          refine cm_no (by simp) ?_
          have e0 : picV (n : Int) (k : Int) p = (if p.f0 = true then (decide (0 ≤ p.f1 ∧ p.f1 ≤ 1000) && decide (rd p.f2 (k : Int) = 0)) && rdOf false p.f3 (k : Int) else decide (p.f1 = 0) && (p.f2.all (fun x => decide (x = 0)) && p.f3.all (fun b => !b))) := by
            unfold picV
            rw [decide_eq_true c1, decide_eq_true c2, cR]
            simp only [Bool.and_self, Bool.true_and]
          rw [e0]
          refine cm_if (fun cT => ?_) (fun cT => ?_)
          · rw [if_pos cT]
            refine cm_bind (cm_now fun _ => in_f _ _ _) ?_
            by_cases c3 : 0 ≤ p.f1 ∧ p.f1 ≤ 1000
            · refine cm_yes (by simpa using c3) ?_
              refine cm_yes (by omega) ?_
              refine cm_yes (by omega) ?_
              by_cases c4 : rd p.f2 (k : Int) = 0
              · refine cm_yes c4 ?_
                refine cm_yes (by omega) (cm_now fun _ => ?_)
                rw [decide_eq_true c3, decide_eq_true c4]
                simp
              · refine cm_no c4 (cm_now fun _ => ?_)
                rw [decide_eq_false c4]
                simp
            · refine cm_no (by simpa using c3) (cm_now fun _ => ?_)
              rw [decide_eq_false c3]
              simp
          · rw [if_neg cT]
            by_cases c6 : p.f1 = 0
            · refine cm_yes c6 ?_
              obtain ⟨r, hr, hr1, hr2⟩ := max_f p.f2 (by omega) (by omega)
              refine cm_bind hr ?_
              rw [List.all_eq_true] at cR
              by_cases c7 : r = 0
              · refine cm_yes c7 (cm_bind (containsB_f p.f3 true h3) (cm_now fun _ => ?_))
                have hz : p.f2.all (fun x => decide (x = 0)) = true := by
                  rw [List.all_eq_true]
                  intro x hx
                  have h4 := cR x hx
                  have h5 := hr2 x hx
                  unfold rng at h4
                  rw [decide_eq_true_eq] at h4
                  rw [decide_eq_true_eq]
                  omega
                rw [any_not, hz, decide_eq_true c6]
                simp
              · refine cm_no c7 (cm_now fun _ => ?_)
                rw [all_no (p := fun x => decide (x = 0)) hr1 (by simpa using c7)]
                simp
            · refine cm_no c6 (cm_now fun _ => ?_)
              rw [decide_eq_false c6]
              simp
    · refine cm_no c2 (cm_val jn ?_)
      unfold picV
      rw [decide_eq_false c2]
      simp
  · refine cm_no c1 (cm_val jn ?_)
    unfold picV
    rw [decide_eq_false c1]
    simp
end Go.Proofs.Ytmkiffemanmgcaa.SnapA
end
section
namespace Go.Proofs.Ytmkiffemanmgcaa.SnapB
open Go.RowKit Go.Proofs.Ytmkiffemanmgcaa.P Go.Proofs.YtmkiffemanmgcaaW.PrintWords Go.Proofs.YtmkiffemanmgcaaW.PrintLast Go.Proofs.YtmkiffemanmgcaaW.PrintMore
open Go.Proofs.Ytmkiffemanmgcaa.Pl Go.Proofs.Ytmkiffemanmgcaa.EvN Go.Proofs.Ytmkiffemanmgcaa.Lp Go.Proofs.Ytmkiffemanmgcaa.Hg Go.Proofs.Ytmkiffemanmgcaa.Mem Go.Proofs.Ytmkiffemanmgcaa.Pick Go.Proofs.Ytmkiffemanmgcaa.NewS Go.Proofs.Ytmkiffemanmgcaa.SnapA
set_option linter.unusedVariables false
set_option linter.unusedSimpArgs false
theorem alls_cm {α ρ : Type} {L : Nat → Int → Option ρ} (xs : List α) (p : List α → α → Bool) {fin no : ρ}
    (hstep : ∀ pre h t, pre ++ h :: t = xs → pre.length < xs.length → ∀ v, (p pre h = true → Cm (fun k => L k ((pre.length + 1 : Nat) : Int)) v) → Cm (fun k => L k (pre.length : Int)) (if p pre h = true then v else no))
    (hend : okFrom p [] xs = true → Cm (fun k => L k (xs.length : Int)) fin) : Cm (fun k => L k 0) (if okFrom p [] xs = true then fin else no) := by
  refine all_cm (L := L) xs p ?_ ?_ hend
  · intro pre h t e hlt hp v hv
    have := hstep pre h t e hlt v (fun _ => hv)
    rw [if_pos hp] at this
    exact this
  · intro pre h t e hlt hp
    have := hstep pre h t e hlt no (fun c => by rw [hp] at c; cases c)
    rw [hp] at this
    simpa using this
theorem falls_cm {α σ ρ : Type} {L : Nat → Int → σ → Option ρ} (xs : List α) (p : List α → α → Bool) (g : σ → α → σ) (s0 : σ) {fin no : ρ}
    (hstep : ∀ pre h t s, pre ++ h :: t = xs → pre.length < xs.length → ∀ v, (p pre h = true → Cm (fun k => L k ((pre.length + 1 : Nat) : Int) (g s h)) v) → Cm (fun k => L k (pre.length : Int) s) (if p pre h = true then v else no))
    (hend : okFrom p [] xs = true → Cm (fun k => L k (xs.length : Int) (xs.foldl g s0)) fin) : Cm (fun k => L k 0 s0) (if okFrom p [] xs = true then fin else no) := by
  refine fall_cm (L := L) xs p g s0 ?_ ?_ hend
  · intro pre h t s e hlt hp v hv
    have := hstep pre h t s e hlt v (fun _ => hv)
    rw [if_pos hp] at this
    exact this
  · intro pre h t s e hlt hp
    have := hstep pre h t s e hlt no (fun c => by rw [hp] at c; cases c)
    rw [hp] at this
    simpa using this
def cnt0 (w : List Int) : Nat := w.countP (fun x => decide (x = 0))
theorem cnt0_le (w : List Int) : cnt0 w ≤ w.length := List.countP_le_length
theorem cnt0_one (w : List Int) (x : Int) : cnt0 (w ++ [x]) = cnt0 w + if x = 0 then 1 else 0 := by
  unfold cnt0
  rw [List.countP_append]
  by_cases c : x = 0 <;> simp [c]
theorem foldl_cnt : ∀ (rest pre : List Int), pre.length + rest.length ≤ 100 → rest.foldl (fun m x => if x = 0 then wrap64 (m + 1) else m) ((cnt0 pre : Nat) : Int) = ((cnt0 (pre ++ rest) : Nat) : Int)
  | [], pre, _ => by simp
  | x :: t, pre, h => by
    simp only [List.length_cons] at h
    have ih := foldl_cnt t (pre ++ [x]) (by rw [List.length_append, List.length_singleton]; omega)
    have hl := cnt0_le pre
    rw [List.append_assoc, List.singleton_append] at ih
    rw [List.foldl_cons, ← ih, cnt0_one]
    by_cases c : x = 0
    · rw [if_pos c, if_pos c, wrap_in (by omega) (by omega)]
      rfl
    · rw [if_neg c, if_neg c, Nat.add_zero]
theorem cnt_fold (w : List Int) (h : w.length ≤ 8) : w.foldl (fun m x => if x = 0 then wrap64 (m + 1) else m) 0 = ((cnt0 w : Nat) : Int) := foldl_cnt w [] (by simp; omega)
theorem marks_f (a b : Int) (w : List Int) (h : w.length ≤ 8) : Cm (fun k => spec_l8Marks.f k a b w) ((cnt0 w : Nat) : Int) := by
  unfold spec_l8Marks.f
  refine fold_cm (L := fun k i s => spec_l8Marks.l0 k s w (w.length : Int) i) w (fun m x => if x = 0 then wrap64 (m + 1) else m) (fun _ _ => True) 0 trivial ?_ ?_
  · intro pre x t s e hlt _
    refine ⟨trivial, fun u hu => ?_⟩
    refine cm_step (fun k => by rw [spec_l8Marks.l0]) ?_
    simp only [rd_at e, wrap_len hlt (show w.length ≤ 4611686018427387904 by omega)]
    refine cm_yes (by omega) (cm_yes (by omega) (cm_yes (by omega) (cm_if (fun c => ?_) (fun c => ?_))))
    · rw [if_pos c] at hu; exact hu
    · rw [if_neg c] at hu; exact hu
  · intro _
    rw [cnt_fold w h]
    refine cm_step (fun k => by rw [spec_l8Marks.l0]) ?_
    exact cm_no (by omega) (cm_now fun _ => rfl)
theorem same_way : ∀ k, (∀ x3 x9 x10 x11, spec_l8OnWay.l0 k x3 x9 x10 x11 = impl_Snap_onWay.l0 k x3 x9 x10 x11) ∧ (∀ x3 x9 x10 x11 x16 x17 x18, spec_l8OnWay.l1 k x3 x9 x10 x11 x16 x17 x18 = impl_Snap_onWay.l1 k x3 x9 x10 x11 x16 x17 x18)
  | 0 => ⟨fun _ _ _ _ => by rw [spec_l8OnWay.l0, impl_Snap_onWay.l0], fun _ _ _ _ _ _ _ => by rw [spec_l8OnWay.l1, impl_Snap_onWay.l1]⟩
  | k + 1 => by
    obtain ⟨h0, h1⟩ := same_way k
    constructor
    · intro x3 x9 x10 x11
      rw [spec_l8OnWay.l0, impl_Snap_onWay.l0]
      simp only [h1]
    · intro x3 x9 x10 x11 x16 x17 x18
      rw [spec_l8OnWay.l1, impl_Snap_onWay.l1]
      simp only [h0, h1]
theorem way_ex (A : List Int) (C : List S94) (P : List S76) (s t : Int) (hC : C.length ≤ 4611686018427387904 ∧ ∀ y ∈ C, smChan y) : ∃ v, Cm (fun k => spec_l8OnWay.f k A C P s t) v ∧ Cm (fun k => impl_Snap_onWay.f k A C P s t) v := by
  suffices h : ∃ v, Cm (fun k => spec_l8OnWay.f k A C P s t) v by
    obtain ⟨v, hv⟩ := h
    refine ⟨v, hv, cm_same (fun k => ?_) hv⟩
    unfold spec_l8OnWay.f impl_Snap_onWay.f
    exact ((same_way k).1 _ _ _ _).symm
  unfold spec_l8OnWay.f
  refine exs_cm (L := fun k i s => spec_l8OnWay.l0 k s C (C.length : Int) i) C ?_ ?_ 0
  · intro pre c t2 z e hlt hn
    have hc : c.f2.length ≤ 4611686018427387904 := (hC.2 c (by rw [← e]; simp)).2.2
    have hin : ∃ v, Cm (fun k => spec_l8OnWay.l1 k z C (C.length : Int) (pre.length : Int) c.f2 (c.f2.length : Int) 0) v := by
      refine exs_cm (L := fun k i s => spec_l8OnWay.l1 k s C (C.length : Int) (pre.length : Int) c.f2 (c.f2.length : Int) i) c.f2 ?_ ?_ z
      · intro pre2 x t3 z2 e2 hlt2 hn2
        obtain ⟨v, hv⟩ := hn2 (wrap64 (z2 + x))
        refine ⟨v, ?_⟩
        refine cm_step (fun k => by rw [spec_l8OnWay.l1]) ?_
        simp only [rd_at e2, wrap_len hlt2 hc]
        exact cm_yes (by omega) (cm_yes (by omega) (cm_yes (by omega) hv))
      · intro z2
        obtain ⟨v, hv⟩ := hn z2
        refine ⟨v, ?_⟩
        refine cm_step (fun k => by rw [spec_l8OnWay.l1]) ?_
        simp only [wrap_len hlt hC.1]
        exact cm_no (by omega) hv
    obtain ⟨v, hv⟩ := hin
    refine ⟨v, ?_⟩
    refine cm_step (fun k => by rw [spec_l8OnWay.l0]) ?_
    simp only [rdT94_at e]
    exact cm_yes (by omega) (cm_yes (by omega) (cm_yes (by omega) hv))
  · intro z
    refine ⟨z, ?_⟩
    refine cm_step (fun k => by rw [spec_l8OnWay.l0]) ?_
    exact cm_no (by omega) (cm_now fun _ => rfl)
def amtV (n : Int) (P : List S76) (pre : List Int) (h : Int) : Bool := decide (0 ≤ h ∧ h ≤ 1000) && picV n (pre.length : Int) (rd_T76 P (pre.length : Int))
def clo (P : List S76) (c : S94) : Bool := rdOf false (rd_T76 P c.f1).f3 c.f0
def inW (x : Int) : Bool := decide (0 ≤ x ∧ x ≤ 1000)
def chV (P : List S76) (w c : S94) : Bool := (decide (c.f0 = w.f0) && (decide (c.f1 = w.f1) && decide (c.f2.length ≤ 8))) && (c.f2.all inW && decide (((cnt0 c.f2 : Nat) : Int) + (if clo P c = true then 1 else 0) = (if (rd_T76 P c.f0).f0 = true then 1 else 0)))
def chT (n : Int) (P : List S76) (pre : List S94) (c : S94) : Bool := chV P (rd_T94 (chans n) (pre.length : Int)) c
def sumA (A : List Int) : Int := A.foldl (fun s x => wrap64 (s + x)) 0
theorem mem_T76 {P : List S76} {k : Nat} (h : k < P.length) : rd_T76 P (k : Int) ∈ P := by
  have : rd_T76 P (k : Int) = P[k] := by simp [rd_T76, h]
  rw [this]
  exact List.getElem_mem h
theorem mem_T94 {P : List S94} {k : Nat} (h : k < P.length) : rd_T94 P (k : Int) ∈ P := by
  have : rd_T94 P (k : Int) = P[k] := by simp [rd_T94, h]
  rw [this]
  exact List.getElem_mem h
theorem chans_in {n : Int} (h : 2 ≤ n ∧ n ≤ 4) : ∀ x ∈ chans n, (0 ≤ x.f0 ∧ x.f0 < n) ∧ (0 ≤ x.f1 ∧ x.f1 < n) := by
  rcases three h with rfl | rfl | rfl <;> decide
theorem chans_len {n : Int} (h : 2 ≤ n ∧ n ≤ 4) : ((chans n).length : Int) = n * (n - 1) := by
  rcases three h with rfl | rfl | rfl <;> rfl
theorem pics {n : Nat} {A : List Int} {P : List S76} (hA : A.length = n) (h : okFrom (amtV (n : Int) P) [] A = true) : ∀ j : Nat, j < n → ((rd_T76 P (j : Int)).f3.length : Int) = (n : Int) := by
  intro j hj
  rw [okFrom_iff] at h
  have hlt : j < A.length := by omega
  have e : A.take j ++ A[j] :: A.drop (j + 1) = A := by
    rw [← List.drop_eq_getElem_cons hlt, List.take_append_drop]
  have h1 := h (A.take j) A[j] (A.drop (j + 1)) e
  have hl : ([] ++ A.take j).length = j := by simp; omega
  unfold amtV at h1
  rw [hl, Bool.and_eq_true] at h1
  exact (picV_at h1.2).2
theorem ite_and (a b : Bool) : (if a = true then b else false) = (a && b) := by cases a <;> simp
section
variable {n : Nat} {A : List Int} {C : List S94} {P : List S76} {s t : Int}
theorem spec_chan (hn : 2 ≤ (n : Int) ∧ (n : Int) ≤ 4) (hP : P.length = n) (hp : ∀ j : Nat, j < n → ((rd_T76 P (j : Int)).f3.length : Int) = (n : Int)) (hC : (C.length : Int) = ((chans n).length : Int)) (hC2 : ∀ y ∈ C, smChan y) (S : Int)
    (pre : List S94) (c : S94) (t2 : List S94) (e : pre ++ c :: t2 = C) (hlt : pre.length < C.length) (v : Bool) (hv : chT (n : Int) P pre c = true → Cm (fun k => spec_GoodSnap.l1 k (chans n) S C (C.length : Int) ((pre.length + 1 : Nat) : Int) A C P s t) v) :
    Cm (fun k => spec_GoodSnap.l1 k (chans n) S C (C.length : Int) (pre.length : Int) A C P s t) (if chT (n : Int) P pre c = true then v else false) := by
  have hcw := chans_way (n : Int)
  have hw := chans_in hn _ (mem_T94 (P := chans n) (k := pre.length) (by omega))
  have hj4 : Cm (fun k => spec_GoodSnap.j4 k (chans n) S C (C.length : Int) (pre.length : Int) true A C P s t c.f0 c.f1 c.f2) false := by
    refine cm_step (fun k => by rw [spec_GoodSnap.j4]) ?_
    exact cm_yes rfl (cm_now fun _ => rfl)
  refine cm_step (fun k => by rw [spec_GoodSnap.l1]) ?_
  simp only [rdT94_at e]
  refine cm_yes (by omega) ?_
  refine cm_yes (by omega) ?_
  refine cm_yes (by omega) ?_
  refine cm_yes (by omega) ?_
  unfold chT at hv ⊢
  generalize rd_T94 (chans n) (pre.length : Int) = w at hw hv ⊢
  by_cases a1 : c.f0 = w.f0
  · refine cm_yes a1 ?_
    by_cases a2 : c.f1 = w.f1
    · refine cm_yes a2 ?_
      by_cases a3 : c.f2.length ≤ 8
      · rw [decide_eq_false (show ¬ (c.f2.length : Int) > 8 by omega)]
        have hev : ∀ b : Bool, chV P w c = (c.f2.all inW && decide (((cnt0 c.f2 : Nat) : Int) + (if clo P c = true then 1 else 0) = (if (rd_T76 P c.f0).f0 = true then 1 else 0))) := fun _ => by
          unfold chV
          rw [decide_eq_true a1, decide_eq_true a2, decide_eq_true a3]
          rfl
        have hev := hev true
        rw [hev] at hv ⊢
        have hcnt := cnt0_le c.f2
        obtain ⟨i0, hi0⟩ := Int.eq_ofNat_of_zero_le (show 0 ≤ c.f0 by omega)
        obtain ⟨i1, hi1⟩ := Int.eq_ofNat_of_zero_le (show 0 ≤ c.f1 by omega)
        have hl3 := hp i1 (by omega)
        rw [← hi1] at hl3
        have hCl : C.length ≤ 4611686018427387904 := by omega
        refine cm_step (fun k => by rw [spec_GoodSnap.j4]) ?_
        refine cm_no (by simp) ?_
        have key := every_cm (L := fun k i => spec_GoodSnap.l2 k (chans n) S C (C.length : Int) (pre.length : Int) c.f2 (c.f2.length : Int) i A C P s t c.f0 c.f1 c.f2) c.f2 inW (fin := if decide (((cnt0 c.f2 : Nat) : Int) + (if clo P c = true then 1 else 0) = (if (rd_T76 P c.f0).f0 = true then 1 else 0)) = true then v else false) (no := false) ?_ ?_ ?_
        · refine cm_val key ?_
          cases c.f2.all inW <;> simp
        · intro pre3 x t3 e3 hlt3 hx u hu
          refine cm_step (fun k => by rw [spec_GoodSnap.l2]) ?_
          simp only [rd_at e3, wrap_len hlt3 (show c.f2.length ≤ 4611686018427387904 by omega), sin_f]
          exact cm_yes (by omega) (cm_yes (by omega) (cm_yes (by omega) (cm_bind (cm_now fun _ => rfl) (cm_yes hx hu))))
        · intro pre3 x t3 e3 hlt3 hx
          refine cm_step (fun k => by rw [spec_GoodSnap.l2]) ?_
          simp only [rd_at e3, wrap_len hlt3 (show c.f2.length ≤ 4611686018427387904 by omega), sin_f]
          exact cm_yes (by omega) (cm_yes (by omega) (cm_yes (by omega) (cm_bind (cm_now fun _ => rfl) (cm_no (by unfold inW at hx; rw [hx]; simp) (cm_now fun _ => rfl)))))
        · intro hall
          rw [hall, Bool.true_and] at hv
          have mk := marks_f c.f0 c.f1 c.f2 a3
          generalize hm : ((cnt0 c.f2 : Nat) : Int) = m at hv mk ⊢
          have hm8 : 0 ≤ m ∧ m ≤ 8 := by omega
          refine cm_step (fun k => by rw [spec_GoodSnap.l2]) ?_
          refine cm_no (by omega) ?_
          refine cm_bind mk ?_
          refine cm_yes (by omega) ?_
          refine cm_yes (by omega) ?_
          refine cm_yes (by omega) ?_
          refine cm_yes (by omega) ?_
          have hj7t : Cm (fun k => spec_GoodSnap.j7 k (chans n) S C (C.length : Int) (pre.length : Int) true A C P s t) false := by
            refine cm_step (fun k => by rw [spec_GoodSnap.j7]) ?_
            exact cm_yes rfl (cm_now fun _ => rfl)
          have hj6 : ∀ z : Int, Cm (fun k => spec_GoodSnap.j6 k (chans n) S z C (C.length : Int) (pre.length : Int) A C P s t c.f0 c.f1 c.f2) (if decide (z = (if (rd_T76 P c.f0).f0 = true then 1 else 0)) = true then v else false) ∨ ¬ (z = m + (if clo P c = true then 1 else 0)) := by
            intro z
            by_cases hz : z = m + (if clo P c = true then 1 else 0)
            · left
              have hj7f : decide (z = (if (rd_T76 P c.f0).f0 = true then 1 else 0)) = true → Cm (fun k => spec_GoodSnap.j7 k (chans n) S C (C.length : Int) (pre.length : Int) false A C P s t) v := by
                intro hd
                have h1 := hv (by rw [← hz]; exact hd)
                refine cm_step (fun k => by rw [spec_GoodSnap.j7]) ?_
                simp only [wrap_len hlt hCl]
                exact cm_no (by simp) h1
              refine cm_step (fun k => by rw [spec_GoodSnap.j6]) ?_
              refine cm_yes (by omega) ?_
              refine cm_yes (by omega) ?_
              by_cases cT : (rd_T76 P c.f0).f0 = true
              · rw [if_pos cT] at hj7f ⊢
                refine cm_yes cT ?_
                by_cases c1 : z = 1
                · rw [if_pos (decide_eq_true c1)]
                  exact cm_yes c1 (cm_yes cT (hj7f (decide_eq_true c1)))
                · rw [if_neg (by simpa using c1)]
                  exact cm_no c1 hj7t
              · rw [if_neg cT] at hj7f ⊢
                refine cm_no cT (cm_no cT ?_)
                by_cases c1 : z = 0
                · rw [if_pos (decide_eq_true c1)]
                  have hx : (z != 0) = false := by rw [c1]; rfl
                  rw [hx]
                  exact hj7f (decide_eq_true c1)
                · rw [if_neg (by simpa using c1)]
                  have hx : (z != 0) = true := by simpa using c1
                  rw [hx]
                  exact hj7t
            · exact .inr hz
          by_cases cC : clo P c = true
          · rw [if_pos cC] at hj6 ⊢
            refine cm_yes cC ?_
            rw [wrap_in (x := m + 1) (by omega) (by omega)]
            rcases hj6 (m + 1) with h1 | h1
            · exact h1
            · exact absurd rfl h1
          · rw [if_neg cC] at hj6 ⊢
            refine cm_no cC ?_
            rcases hj6 m with h1 | h1
            · rw [Int.add_zero]; exact h1
            · exact absurd (by omega) h1
      · rw [decide_eq_true (show (c.f2.length : Int) > 8 by omega)]
        refine cm_val hj4 ?_
        unfold chV
        rw [decide_eq_false a3]
        simp
    · refine cm_no a2 (cm_val hj4 ?_)
      unfold chV
      rw [decide_eq_false a2]
      simp
  · refine cm_no a1 (cm_val hj4 ?_)
    unfold chV
    rw [decide_eq_false a1]
    simp
theorem spec_world (hn : 2 ≤ (n : Int) ∧ (n : Int) ≤ 4) (hA : A.length = n) (hP : P.length = n) (hC : (C.length : Int) = ((chans n).length : Int)) (hC2 : ∀ y ∈ C, smChan y) (hP2 : ∀ y ∈ P, smPicture y) {way : Int} (hway : Cm (fun k => spec_l8OnWay.f k A C P s t) way) :
    Cm (fun k => spec_GoodSnap.l0 k (chans n) 0 A (A.length : Int) 0 A C P s t) (okFrom (amtV (n : Int) P) [] A && (okFrom (chT (n : Int) P) [] C && (decide (wrap64 (sumA A + way) = t) && decide (0 ≤ t ∧ t ≤ 1000)))) := by
  have hcw := chans_way (n : Int)
  have hnat : n ≤ 4 := by omega
  have hAl : A.length ≤ 4611686018427387904 := by omega
  have hCl : C.length ≤ 4611686018427387904 := by omega
  have h1 := falls_cm (L := fun k i z => spec_GoodSnap.l0 k (chans n) z A (A.length : Int) i A C P s t) A (amtV (n : Int) P) (fun z x => wrap64 (z + x)) 0 (fin := okFrom (chT (n : Int) P) [] C && (decide (wrap64 (sumA A + way) = t) && decide (0 ≤ t ∧ t ≤ 1000))) (no := false) ?_ ?_
  · refine cm_val h1 (ite_and _ _)
  · intro pre x t2 z e hlt v hv
    have hpic := specPic_f A C P s t pre.length (by omega) hlt ((hP2 _ (mem_T76 (by omega))).2.2.1)
    rw [hA] at hpic
    have hj2t : Cm (fun k => spec_GoodSnap.j2 k (chans n) z x A (A.length : Int) (pre.length : Int) true A C P s t) false := by
      refine cm_step (fun k => by rw [spec_GoodSnap.j2]) ?_
      exact cm_yes rfl (cm_now fun _ => rfl)
    refine cm_step (fun k => by rw [spec_GoodSnap.l0]) ?_
    simp only [rd_at e, sin_f]
    refine cm_yes (by omega) ?_
    refine cm_yes (by omega) ?_
    refine cm_yes (by omega) ?_
    refine cm_bind (cm_now fun _ => rfl) ?_
    by_cases c1 : 0 ≤ x ∧ x ≤ 1000
    · refine cm_yes (by simpa using c1) (cm_bind hpic ?_)
      have hev : amtV (n : Int) P pre x = picV (n : Int) (pre.length : Int) (rd_T76 P (pre.length : Int)) := by
        unfold amtV
        rw [decide_eq_true c1, Bool.true_and]
      rw [hev] at hv ⊢
      cases c2 : picV (n : Int) (pre.length : Int) (rd_T76 P (pre.length : Int)) with
      | true =>
        have h3 := hv c2
        refine cm_step (fun k => by rw [spec_GoodSnap.j2]) ?_
        simp only [wrap_len hlt hAl]
        exact cm_no (by simp) h3
      | false => simpa using hj2t
    · refine cm_no (by simpa using c1) (cm_val hj2t ?_)
      unfold amtV
      rw [decide_eq_false c1]
      simp
  · intro hok
    have hp := pics hA hok
    refine cm_step (fun k => by rw [spec_GoodSnap.l0]) ?_
    refine cm_no (by omega) ?_
    have h2 := alls_cm (L := fun k i => spec_GoodSnap.l1 k (chans n) (A.foldl (fun z x => wrap64 (z + x)) 0) C (C.length : Int) i A C P s t) C (chT (n : Int) P) (fin := decide (wrap64 (sumA A + way) = t) && decide (0 ≤ t ∧ t ≤ 1000)) (no := false) (fun pre c t2 e hlt v hv => spec_chan hn hP hp hC hC2 _ pre c t2 e hlt v hv) ?_
    · refine cm_val h2 (ite_and _ _)
    · intro _
      refine cm_step (fun k => by rw [spec_GoodSnap.l1]) ?_
      refine cm_no (by omega) (cm_bind hway ?_)
      by_cases c1 : wrap64 (sumA A + way) = t
      · rw [decide_eq_true c1, Bool.true_and]
        exact cm_yes c1 (cm_bind (cm_now fun _ => sin_f _ _ _) (cm_now fun _ => rfl))
      · rw [decide_eq_false c1]
        exact cm_no c1 (cm_now fun _ => by simp)
end
end Go.Proofs.Ytmkiffemanmgcaa.SnapB
end
section
namespace Go.Proofs.Ytmkiffemanmgcaa.SnapC
open Go.RowKit Go.Proofs.Ytmkiffemanmgcaa.P Go.Proofs.YtmkiffemanmgcaaW.PrintWords Go.Proofs.YtmkiffemanmgcaaW.PrintLast Go.Proofs.YtmkiffemanmgcaaW.PrintMore
open Go.Proofs.Ytmkiffemanmgcaa.Pl Go.Proofs.Ytmkiffemanmgcaa.EvN Go.Proofs.Ytmkiffemanmgcaa.Lp Go.Proofs.Ytmkiffemanmgcaa.Hg Go.Proofs.Ytmkiffemanmgcaa.Mem Go.Proofs.Ytmkiffemanmgcaa.Pick Go.Proofs.Ytmkiffemanmgcaa.NewS Go.Proofs.Ytmkiffemanmgcaa.SnapA Go.Proofs.Ytmkiffemanmgcaa.SnapB Go.Proofs.Ytmkiffemanmgcaa.Sz
set_option linter.unusedVariables false
set_option linter.unusedSimpArgs false
section
variable {n : Nat} {A : List Int} {C : List S94} {P : List S76} {s t : Int} {N0 : List Int} {N2 : List S76} {N3 N4 : Int}
theorem impl_chan (hn : 2 ≤ (n : Int) ∧ (n : Int) ≤ 4) (hP : P.length = n) (hp : ∀ j : Nat, j < n → ((rd_T76 P (j : Int)).f3.length : Int) = (n : Int)) (hC : (C.length : Int) = ((chans n).length : Int)) (hC2 : ∀ y ∈ C, smChan y) (S : Int)
    (pre : List S94) (c : S94) (t2 : List S94) (e : pre ++ c :: t2 = C) (hlt : pre.length < C.length) (v : Bool) (hv : chT (n : Int) P pre c = true → Cm (fun k => impl_isSnap.l1 k S C (C.length : Int) ((pre.length + 1 : Nat) : Int) A C P s t N0 (chans n) N2 N3 N4) v) :
    Cm (fun k => impl_isSnap.l1 k S C (C.length : Int) (pre.length : Int) A C P s t N0 (chans n) N2 N3 N4) (if chT (n : Int) P pre c = true then v else false) := by
  have hcw := chans_way (n : Int)
  have hw := chans_in hn _ (mem_T94 (P := chans n) (k := pre.length) (by omega))
  have hj3 : Cm (fun k => impl_isSnap.j3 k S C (C.length : Int) (pre.length : Int) true A C P s t N0 (chans n) N2 N3 N4 c.f0 c.f1 c.f2) false := by
    refine cm_step (fun k => by rw [impl_isSnap.j3]) ?_
    exact cm_yes rfl (cm_now fun _ => rfl)
  refine cm_step (fun k => by rw [impl_isSnap.l1]) ?_
  simp only [rdT94_at e]
  refine cm_yes (by omega) ?_
  refine cm_yes (by omega) ?_
  refine cm_yes (by omega) ?_
  refine cm_yes (by omega) ?_
  unfold chT at hv ⊢
  generalize rd_T94 (chans n) (pre.length : Int) = w at hw hv ⊢
  by_cases a1 : c.f0 = w.f0
  · refine cm_yes a1 ?_
    by_cases a2 : c.f1 = w.f1
    · refine cm_yes a2 ?_
      by_cases a3 : c.f2.length ≤ 8
      · rw [decide_eq_false (show ¬ (c.f2.length : Int) > 8 by omega)]
        have hev : chV P w c = (c.f2.all inW && decide (((cnt0 c.f2 : Nat) : Int) + (if clo P c = true then 1 else 0) = (if (rd_T76 P c.f0).f0 = true then 1 else 0))) := by
          unfold chV
          rw [decide_eq_true a1, decide_eq_true a2, decide_eq_true a3]
          rfl
        rw [hev] at hv ⊢
        have hcnt := cnt0_le c.f2
        obtain ⟨i0, hi0⟩ := Int.eq_ofNat_of_zero_le (show 0 ≤ c.f0 by omega)
        obtain ⟨i1, hi1⟩ := Int.eq_ofNat_of_zero_le (show 0 ≤ c.f1 by omega)
        have hl3 := hp i1 (by omega)
        rw [← hi1] at hl3
        have hCl : C.length ≤ 4611686018427387904 := by omega
        refine cm_step (fun k => by rw [impl_isSnap.j3]) ?_
        refine cm_no (by simp) ?_
        have key := falls_cm (L := fun k i m => impl_isSnap.l2 k S m C (C.length : Int) (pre.length : Int) c.f2 (c.f2.length : Int) i A C P s t N0 (chans n) N2 N3 N4 c.f0 c.f1 c.f2) c.f2 (fun _ x => inW x) (fun m x => if x = 0 then wrap64 (m + 1) else m) 0 (fin := if decide (((cnt0 c.f2 : Nat) : Int) + (if clo P c = true then 1 else 0) = (if (rd_T76 P c.f0).f0 = true then 1 else 0)) = true then v else false) (no := false) ?_ ?_
        · refine cm_val key ?_
          rw [okFrom_all]
          cases c.f2.all inW <;> simp
        · intro pre3 x t3 m e3 hlt3 u hu
          refine cm_step (fun k => by rw [impl_isSnap.l2]) ?_
          simp only [rd_at e3, wrap_len hlt3 (show c.f2.length ≤ 4611686018427387904 by omega), in_f]
          refine cm_yes (by omega) ?_
          refine cm_yes (by omega) ?_
          refine cm_yes (by omega) ?_
          refine cm_bind (cm_now fun _ => rfl) ?_
          by_cases hx : inW x = true
          · have hu := hu hx
            rw [if_pos hx]
            refine cm_yes hx (cm_if (fun c0 => ?_) (fun c0 => ?_))
            · rw [if_pos c0] at hu; exact hu
            · rw [if_neg c0] at hu; exact hu
          · rw [if_neg hx]
            exact cm_no hx (cm_now fun _ => rfl)
        · intro hall
          rw [okFrom_all] at hall
          rw [hall, Bool.true_and] at hv
          rw [cnt_fold c.f2 a3]
          generalize hm : ((cnt0 c.f2 : Nat) : Int) = m at hv ⊢
          have hm8 : 0 ≤ m ∧ m ≤ 8 := by omega
          have hnext : decide (m + (if clo P c = true then 1 else 0) = (if (rd_T76 P c.f0).f0 = true then 1 else 0)) = true → Cm (fun k => impl_isSnap.l1 k S C (C.length : Int) (wrap64 ((pre.length : Int) + 1)) A C P s t N0 (chans n) N2 N3 N4) v := by
            intro h
            rw [wrap_len hlt hCl]
            exact hv h
          refine cm_step (fun k => by rw [impl_isSnap.l2]) ?_
          refine cm_no (by omega) ?_
          refine cm_yes (by omega) ?_
          refine cm_yes (by omega) ?_
          refine cm_yes (by omega) ?_
          refine cm_yes (by omega) ?_
          refine cm_yes (by omega) ?_
          have r0 : 0 ≤ c.f0 := by omega
          have r1 : c.f0 < (P.length : Int) := by omega
          clear hv
          by_cases cT : (rd_T76 P c.f0).f0 = true
          · refine cm_yes cT ?_
            rw [if_pos cT] at hnext ⊢
            by_cases cC : clo P c = true
            · have e1 : rdOf false (rd_T76 P c.f1).f3 c.f0 = true := cC
              rw [if_pos cC] at hnext ⊢
              rw [e1]
              refine cm_step (fun k => by rw [impl_isSnap.j5]) ?_
              refine cm_no (by simp) ?_
              by_cases c0 : m = 0
              · rw [if_pos (by simp; omega)]
                exact cm_yes c0 (cm_yes rfl (cm_yes r0 (cm_yes r1 (cm_yes cT (hnext (by simp; omega))))))
              · rw [if_neg (by simp; omega)]
                exact cm_no c0 (cm_now fun _ => rfl)
            · have e1 : rdOf false (rd_T76 P c.f1).f3 c.f0 = false := by simpa [clo] using cC
              rw [if_neg cC] at hnext ⊢
              rw [e1]
              refine cm_step (fun k => by rw [impl_isSnap.j5]) ?_
              refine cm_yes (by simp) ?_
              by_cases c0 : m = 1
              · rw [if_pos (by simp; omega)]
                exact cm_yes c0 (cm_no (by simp) (hnext (by simp; omega)))
              · rw [if_neg (by simp; omega)]
                exact cm_no c0 (cm_now fun _ => rfl)
          · refine cm_no cT ?_
            rw [if_neg cT] at hnext ⊢
            by_cases cC : clo P c = true
            · have e1 : rdOf false (rd_T76 P c.f1).f3 c.f0 = true := cC
              rw [if_pos cC, if_neg (by simp; omega)]
              rw [e1]
              refine cm_step (fun k => by rw [impl_isSnap.j5]) ?_
              refine cm_no (by simp) ?_
              by_cases c0 : m = 0
              · exact cm_yes c0 (cm_yes rfl (cm_yes r0 (cm_yes r1 (cm_no cT (cm_now fun _ => rfl)))))
              · exact cm_no c0 (cm_now fun _ => rfl)
            · have e1 : rdOf false (rd_T76 P c.f1).f3 c.f0 = false := by simpa [clo] using cC
              rw [if_neg cC] at hnext ⊢
              rw [e1]
              refine cm_step (fun k => by rw [impl_isSnap.j5]) ?_
              refine cm_no (by simp) ?_
              by_cases c0 : m = 0
              · rw [if_pos (by simp; omega)]
                exact cm_yes c0 (cm_no (by simp) (hnext (by simp; omega)))
              · rw [if_neg (by simp; omega)]
                exact cm_no c0 (cm_now fun _ => rfl)
      · rw [decide_eq_true (show (c.f2.length : Int) > 8 by omega)]
        refine cm_val hj3 ?_
        unfold chV
        rw [decide_eq_false a3]
        simp
    · refine cm_no a2 (cm_val hj3 ?_)
      unfold chV
      rw [decide_eq_false a2]
      simp
  · refine cm_no a1 (cm_val hj3 ?_)
    unfold chV
    rw [decide_eq_false a1]
    simp
theorem impl_world (hn : 2 ≤ (n : Int) ∧ (n : Int) ≤ 4) (hA : A.length = n) (hP : P.length = n) (hC : (C.length : Int) = ((chans n).length : Int)) (hC2 : ∀ y ∈ C, smChan y) (hP2 : ∀ y ∈ P, smPicture y) {way : Int} (hway : Cm (fun k => impl_Snap_onWay.f k A C P s t) way) :
    Cm (fun k => impl_isSnap.l0 k (n : Int) 0 A (A.length : Int) 0 A C P s t) (okFrom (amtV (n : Int) P) [] A && (okFrom (chT (n : Int) P) [] C && decide (wrap64 (sumA A + way) = t))) := by
  have hcw := chans_way (n : Int)
  have hnat : 2 ≤ n ∧ n ≤ 4 := by omega
  have hAl : A.length ≤ 4611686018427387904 := by omega
  have h1 := falls_cm (L := fun k i z => impl_isSnap.l0 k (n : Int) z A (A.length : Int) i A C P s t) A (amtV (n : Int) P) (fun z x => wrap64 (z + x)) 0 (fin := okFrom (chT (n : Int) P) [] C && decide (wrap64 (sumA A + way) = t)) (no := false) ?_ ?_
  · refine cm_val h1 (ite_and _ _)
  · intro pre x t2 z e hlt v hv
    have hsm := hP2 _ (mem_T76 (P := P) (k := pre.length) (by omega))
    have hpic := implPic_f n pre.length (rd_T76 P (pre.length : Int)) hnat (by omega) hsm.2.2.1 hsm.2.2.2
    refine cm_step (fun k => by rw [impl_isSnap.l0]) ?_
    simp only [rd_at e, in_f]
    refine cm_yes (by omega) ?_
    refine cm_yes (by omega) ?_
    refine cm_yes (by omega) ?_
    refine cm_bind (cm_now fun _ => rfl) ?_
    by_cases c1 : 0 ≤ x ∧ x ≤ 1000
    · refine cm_yes (by simpa using c1) ?_
      refine cm_yes (by omega) (cm_bind hpic ?_)
      have hev : amtV (n : Int) P pre x = picV (n : Int) (pre.length : Int) (rd_T76 P (pre.length : Int)) := by
        unfold amtV
        rw [decide_eq_true c1, Bool.true_and]
      rw [hev] at hv ⊢
      refine cm_if (fun c2 => ?_) (fun c2 => ?_)
      · have h3 := hv c2
        rw [if_pos c2, wrap_len hlt hAl]
        exact h3
      · rw [if_neg c2]
        exact cm_now fun _ => rfl
    · refine cm_no (by simpa using c1) (cm_now fun _ => ?_)
      unfold amtV
      rw [decide_eq_false c1]
      simp
  · intro hok
    have hp := pics hA hok
    refine cm_step (fun k => by rw [impl_isSnap.l0]) ?_
    refine cm_no (by omega) ?_
    have hns : Cm (fun k => impl_newSnap.f k (n : Int) 0) (List.replicate (n : Int).toNat 0, chans n, List.replicate (n : Int).toNat (pic n), 0, wrap64 ((n : Int) * 0)) := by
      unfold impl_newSnap.f
      exact impl_l hn 0 _
    refine cm_bind hns ?_
    have h2 := alls_cm (L := fun k i => impl_isSnap.l1 k (A.foldl (fun z x => wrap64 (z + x)) 0) C (C.length : Int) i A C P s t (List.replicate (n : Int).toNat 0) (chans n) (List.replicate (n : Int).toNat (pic n)) 0 (wrap64 ((n : Int) * 0))) C (chT (n : Int) P) (fin := decide (wrap64 (sumA A + way) = t)) (no := false) (fun pre c t2 e hlt v hv => impl_chan hn hP hp hC hC2 _ pre c t2 e hlt v hv) ?_
    · refine cm_val h2 (ite_and _ _)
    · intro _
      refine cm_step (fun k => by rw [impl_isSnap.l1]) ?_
      refine cm_no (by omega) (cm_bind hway (cm_now fun _ => ?_))
      rfl
end
theorem chans_ex (n : Nat) (hn : n ≤ 1048576) : ∃ v, Cm (fun k => spec_l8Chans.f k (n : Int)) v := by
  unfold spec_l8Chans.f
  have hbig : ∀ i : Nat, i < n → i * n + n ≤ 1099511627776 := by
    intro i hi
    have h1 : (i + 1) * n ≤ 1048576 * 1048576 := Nat.mul_le_mul (by omega) hn
    rw [Nat.add_mul, Nat.one_mul] at h1
    omega
  have hout : ∀ (d i : Nat) (acc : List S94), i + d = n → acc.length ≤ i * n → ∃ v, Cm (fun k => spec_l8Chans.l0 k (n : Int) acc (i : Int)) v := by
    intro d
    induction d with
    | zero =>
      intro i acc hi ha
      refine ⟨acc, ?_⟩
      refine cm_step (fun k => by rw [spec_l8Chans.l0]) ?_
      exact cm_no (by omega) (cm_now fun _ => rfl)
    | succ d ih =>
      intro i acc hi ha
      have hb := hbig i (by omega)
      have hin : ∀ (e j : Nat) (acc : List S94), j + e = n → acc.length ≤ i * n + j → ∃ v, Cm (fun k => spec_l8Chans.l1 k (n : Int) acc (i : Int) (j : Int)) v := by
        intro e
        induction e with
        | zero =>
          intro j acc hj ha
          obtain ⟨v, hv⟩ := ih (i + 1) acc (by omega) (by rw [Nat.add_mul, Nat.one_mul]; omega)
          refine ⟨v, ?_⟩
          refine cm_step (fun k => by rw [spec_l8Chans.l1]) ?_
          simp only [wrap_n (show i < n by omega) (show n ≤ 4611686018427387904 by omega)]
          exact cm_no (by omega) hv
        | succ e ih2 =>
          intro j acc hj ha
          by_cases c : (i : Int) = (j : Int)
          · obtain ⟨v, hv⟩ := ih2 (j + 1) acc (by omega) (by omega)
            refine ⟨v, ?_⟩
            refine cm_step (fun k => by rw [spec_l8Chans.l1]) ?_
            simp only [wrap_n (show j < n by omega) (show n ≤ 4611686018427387904 by omega)]
            exact cm_yes (by omega) (cm_yes c hv)
          · obtain ⟨v, hv⟩ := ih2 (j + 1) (acc ++ [⟨(i : Int), (j : Int), []⟩]) (by omega) (by rw [List.length_append, List.length_singleton]; omega)
            refine ⟨v, ?_⟩
            refine cm_step (fun k => by rw [spec_l8Chans.l1]) ?_
            simp only [wrap_n (show j < n by omega) (show n ≤ 4611686018427387904 by omega)]
            exact cm_yes (by omega) (cm_no c (cm_yes (by omega) hv))
      obtain ⟨v, hv⟩ := hin n 0 acc (by omega) (by omega)
      refine ⟨v, ?_⟩
      refine cm_step (fun k => by rw [spec_l8Chans.l0]) ?_
      exact cm_yes (by omega) hv
  exact hout n 0 [] (by omega) (by simp)
theorem good_both (x : S35) (h : smSnap x) (hA : x.f0.length ≤ 1048576) : ∃ v : Bool, Cm (fun k => spec_GoodSnap.f k x.f0 x.f1 x.f2 x.f3 x.f4) v ∧ Cm (fun k => impl_isSnap.f k x.f0 x.f1 x.f2 x.f3 x.f4) v ∧
    (v = true → ∃ n : Nat, (2 ≤ (n : Int) ∧ (n : Int) ≤ 4) ∧ x.f0.length = n ∧ x.f2.length = n ∧ okFrom (amtV (n : Int) x.f2) [] x.f0 = true) := by
  obtain ⟨A, C, P, s, t⟩ := x
  simp only at hA ⊢
  have hC := h.2.1
  have hP := h.2.2.1
  simp only at hC hP
  obtain ⟨way, w1, w2⟩ := way_ex A C P s t hC
  unfold spec_GoodSnap.f impl_isSnap.f
  have sj : ∀ w, Cm (fun k => spec_GoodSnap.j0 k w true A C P s t) false := by
    intro w
    refine cm_step (fun k => by rw [spec_GoodSnap.j0]) ?_
    exact cm_yes rfl (cm_now fun _ => rfl)
  have ij : Cm (fun k => impl_isSnap.j0 k (A.length : Int) true A C P s t) false := by
    refine cm_step (fun k => by rw [impl_isSnap.j0]) ?_
    exact cm_yes rfl (cm_now fun _ => rfl)
  simp only [sin_f, in_f]
  by_cases a1 : 2 ≤ (A.length : Int) ∧ (A.length : Int) ≤ 4
  · have ch := chans_f a1
    have cl := chans_len a1
    have hw : wrap64 ((A.length : Int) * (wrap64 ((A.length : Int) - 1))) = ((chans (A.length : Int)).length : Int) := by
      have hcw := chans_way (A.length : Int)
      rw [wrap_in (x := (A.length : Int) - 1) (by omega) (by omega), wrap_in (x := (A.length : Int) * ((A.length : Int) - 1)) (by omega) (by omega), cl]
    by_cases a2 : (P.length : Int) = (A.length : Int)
    · by_cases a3 : (C.length : Int) = ((chans (A.length : Int)).length : Int)
      · by_cases a4 : 0 ≤ s ∧ s ≤ 1000
        · have sw := spec_world (n := A.length) (A := A) (C := C) (P := P) (s := s) (t := t) a1 rfl (by omega) a3 hC.2 hP.2 w1
          have iw := impl_world (n := A.length) (A := A) (C := C) (P := P) (s := s) (t := t) a1 rfl (by omega) a3 hC.2 hP.2 w2
          have hspec : Cm (fun k => (spec_l8Chans.f k (A.length : Int)).bind fun t102 => (some (decide (2 ≤ (A.length : Int) ∧ (A.length : Int) ≤ 4))).bind fun t105 => if t105 = true then (if (P.length : Int) = (A.length : Int) then (if (C.length : Int) = (t102.length : Int) then ((some (decide (0 ≤ s ∧ s ≤ 1000))).bind fun t106 => spec_GoodSnap.j0 k t102 (!t106) A C P s t) else spec_GoodSnap.j0 k t102 true A C P s t) else spec_GoodSnap.j0 k t102 true A C P s t) else spec_GoodSnap.j0 k t102 true A C P s t) (okFrom (amtV (A.length : Int) P) [] A && (okFrom (chT (A.length : Int) P) [] C && (decide (wrap64 (sumA A + way) = t) && decide (0 ≤ t ∧ t ≤ 1000)))) := by
            refine cm_bind ch ?_
            refine cm_bind (cm_now fun _ => rfl) ?_
            refine cm_yes (by simpa using a1) ?_
            refine cm_yes a2 ?_
            refine cm_yes a3 ?_
            refine cm_bind (cm_now fun _ => rfl) ?_
            rw [decide_eq_true a4]
            refine cm_step (fun k => by rw [spec_GoodSnap.j0]) ?_
            exact cm_no (by simp) sw
          by_cases a5 : 0 ≤ t ∧ t ≤ 1000
          · rw [decide_eq_true a5, Bool.and_true] at hspec
            refine ⟨_, hspec, ?_, fun hv => ⟨A.length, a1, rfl, by omega, ?_⟩⟩
            · refine cm_bind (cm_now fun _ => rfl) ?_
              refine cm_yes (by simpa using a1) ?_
              refine cm_yes a2 ?_
              refine cm_bind (cm_now fun _ => rfl) ?_
              refine cm_yes (by simpa using a4) ?_
              refine cm_bind (cm_now fun _ => rfl) ?_
              refine cm_yes (by simpa using a5) ?_
              have e1 : ((C.length : Int) != (wrap64 ((A.length : Int) * (wrap64 ((A.length : Int) - 1))))) = false := by rw [hw, a3]; simp
              rw [e1]
              refine cm_step (fun k => by rw [impl_isSnap.j0]) ?_
              exact cm_no (by simp) iw
            · rw [Bool.and_eq_true] at hv
              exact hv.1
          · rw [decide_eq_false a5, Bool.and_false, Bool.and_false, Bool.and_false] at hspec
            refine ⟨_, hspec, ?_, fun hv => by cases hv⟩
            refine cm_bind (cm_now fun _ => rfl) ?_
            refine cm_yes (by simpa using a1) ?_
            refine cm_yes a2 ?_
            refine cm_bind (cm_now fun _ => rfl) ?_
            refine cm_yes (by simpa using a4) ?_
            refine cm_bind (cm_now fun _ => rfl) ?_
            exact cm_no (by simpa using a5) ij
        · refine ⟨false, ?_, ?_, fun hv => by cases hv⟩
          · refine cm_bind ch ?_
            refine cm_bind (cm_now fun _ => rfl) ?_
            refine cm_yes (by simpa using a1) ?_
            refine cm_yes a2 ?_
            refine cm_yes a3 ?_
            refine cm_bind (cm_now fun _ => rfl) ?_
            rw [decide_eq_false a4]
            exact sj _
          · refine cm_bind (cm_now fun _ => rfl) ?_
            refine cm_yes (by simpa using a1) ?_
            refine cm_yes a2 ?_
            refine cm_bind (cm_now fun _ => rfl) ?_
            exact cm_no (by simpa using a4) ij
      · refine ⟨false, ?_, ?_, fun hv => by cases hv⟩
        · refine cm_bind ch ?_
          refine cm_bind (cm_now fun _ => rfl) ?_
          refine cm_yes (by simpa using a1) ?_
          refine cm_yes a2 ?_
          exact cm_no a3 (sj _)
        · refine cm_bind (cm_now fun _ => rfl) ?_
          refine cm_yes (by simpa using a1) ?_
          refine cm_yes a2 ?_
          refine cm_bind (cm_now fun _ => rfl) ?_
          refine cm_if (fun _ => ?_) (fun _ => ij)
          refine cm_bind (cm_now fun _ => rfl) ?_
          refine cm_if (fun _ => ?_) (fun _ => ij)
          have e1 : ((C.length : Int) != (wrap64 ((A.length : Int) * (wrap64 ((A.length : Int) - 1))))) = true := by rw [hw]; simpa using a3
          rw [e1]
          exact ij
    · refine ⟨false, ?_, ?_, fun hv => by cases hv⟩
      · refine cm_bind ch ?_
        refine cm_bind (cm_now fun _ => rfl) ?_
        refine cm_yes (by simpa using a1) ?_
        exact cm_no a2 (sj _)
      · refine cm_bind (cm_now fun _ => rfl) ?_
        refine cm_yes (by simpa using a1) ?_
        exact cm_no a2 ij
  · obtain ⟨w, hw⟩ := chans_ex A.length hA
    refine ⟨false, ?_, ?_, fun hv => by cases hv⟩
    · refine cm_bind hw ?_
      refine cm_bind (cm_now fun _ => rfl) ?_
      exact cm_no (by simpa using a1) (sj _)
    · refine cm_bind (cm_now fun _ => rfl) ?_
      exact cm_no (by simpa using a1) ij
theorem sz_or (x : S58) (h : ok58 x) : (∃ v, Cm (fun k => laws_szSnap.f k x.f0 x.f1 x.f2 x.f3 x.f4 1048576) v ∧ v < 0) ∨ x.f0.length ≤ 1048576 := by
  obtain ⟨h0, _⟩ := h
  obtain ⟨v, w, d⟩ := szIntS_wt x.f0 (by have := h0.2.1; omega) 1048576 (by omega) (by omega)
  by_cases c : v < 0
  · left
    refine ⟨-1, ?_, by omega⟩
    unfold laws_szSnap.f
    exact cm_bind w (cm_yes c (cm_now fun _ => rfl))
  · right
    omega
end Go.Proofs.Ytmkiffemanmgcaa.SnapC
end
section
namespace Go.Proofs.Ytmkiffemanmgcaa.SnapD
open Go.RowKit Go.Proofs.Ytmkiffemanmgcaa.P Go.Proofs.YtmkiffemanmgcaaW.PrintWords Go.Proofs.YtmkiffemanmgcaaW.PrintLast Go.Proofs.YtmkiffemanmgcaaW.PrintMore
open Go.Proofs.Ytmkiffemanmgcaa.Pl Go.Proofs.Ytmkiffemanmgcaa.EvN Go.Proofs.Ytmkiffemanmgcaa.Lp Go.Proofs.Ytmkiffemanmgcaa.Hg Go.Proofs.Ytmkiffemanmgcaa.Mem Go.Proofs.Ytmkiffemanmgcaa.Pick Go.Proofs.Ytmkiffemanmgcaa.SnapA Go.Proofs.Ytmkiffemanmgcaa.SnapB Go.Proofs.Ytmkiffemanmgcaa.SnapC
set_option linter.unusedVariables false
set_option linter.unusedSimpArgs false
def addl (z : Int) (l : List Int) : Int := l.foldl (fun s x => wrap64 (s + x)) z
theorem wrap_add (a b : Int) : wrap64 (wrap64 a + b) = wrap64 (a + b) := by unfold wrap64; omega
theorem addl_wrap (l : List Int) : ∀ a b : Int, wrap64 (addl a l + b) = addl (wrap64 (a + b)) l := by
  induction l with
  | nil => intro a b; rfl
  | cons x t ih =>
    intro a b
    show wrap64 (addl (wrap64 (a + x)) t + b) = addl (wrap64 (wrap64 (a + b) + x)) t
    rw [ih, wrap_add, wrap_add]
    have : a + x + b = a + b + x := by omega
    rw [this]
section
variable {n : Nat} {P : List S76}
theorem pics2 {A : List Int} (hA : A.length = n) (h : okFrom (amtV (n : Int) P) [] A = true) : ∀ j : Nat, j < n → ((rd_T76 P (j : Int)).f2.length : Int) = (n : Int) ∧ ((rd_T76 P (j : Int)).f3.length : Int) = (n : Int) ∧ picV (n : Int) (j : Int) (rd_T76 P (j : Int)) = true := by
  intro j hj
  rw [okFrom_iff] at h
  have hlt : j < A.length := by omega
  have e : A.take j ++ A[j] :: A.drop (j + 1) = A := by
    rw [← List.drop_eq_getElem_cons hlt, List.take_append_drop]
  have h1 := h (A.take j) A[j] (A.drop (j + 1)) e
  have hl : ([] ++ A.take j).length = j := by simp; omega
  unfold amtV at h1
  rw [hl, Bool.and_eq_true] at h1
  exact ⟨(picV_at h1.2).1, (picV_at h1.2).2, h1.2⟩
def picT (p : S76) : Bool := p.f3.all (fun b => b)
def picG (z : Int) (p : S76) : Int := addl (wrap64 (z + p.f1)) p.f2
theorem addl_take {l : List Int} {i : Nat} (h : i < l.length) (z : Int) : addl z (l.take (i + 1)) = wrap64 (addl z (l.take i) + rd l (i : Int)) := by
  have e : rd l (i : Int) = l[i] := by simp [rd, h]
  rw [List.take_succ_eq_append_getElem h, e]
  unfold addl
  rw [List.foldl_append]
  rfl
theorem spec_pics (hn : 1 ≤ n ∧ n ≤ 4) (hP : P.length = n) (hp : ∀ p ∈ P, (p.f2.length : Int) = (n : Int) ∧ (p.f3.length : Int) = (n : Int)) :
    Cm (fun k => spec_PictureOf.l0 k 0 P (P.length : Int) 0) (if okFrom (fun _ p => picT p) [] P = true then (P.foldl picG 0, true) else (0, false)) := by
  have hPl : P.length ≤ 4611686018427387904 := by omega
  refine falls_cm (L := fun k i z => spec_PictureOf.l0 k z P (P.length : Int) i) P (fun _ p => picT p) picG 0 ?_ ?_
  · intro pre p t z e hlt v hv
    have hpl := hp p (by rw [← e]; simp)
    have inner : ∀ d i : Nat, i + d = n → (p.f3.take i).all (fun b => b) = true → Cm (fun k => spec_PictureOf.l1 k (addl z (p.f2.take i)) P (P.length : Int) (pre.length : Int) p.f3 (p.f3.length : Int) (i : Int) p.f0 p.f1 p.f2 p.f3) (if picT p = true then v else (0, false)) := by
      intro d
      induction d with
      | zero =>
        intro i hi ha
        have h2 : p.f2.take i = p.f2 := List.take_of_length_le (by omega)
        have h3 : p.f3.take i = p.f3 := List.take_of_length_le (by omega)
        rw [h3] at ha
        have hT : picT p = true := ha
        rw [h2, if_pos hT]
        have h1 := hv hT
        unfold picG at h1
        rw [← addl_wrap] at h1
        refine cm_step (fun k => by rw [spec_PictureOf.l1]) ?_
        simp only [wrap_len hlt hPl]
        exact cm_no (by omega) h1
      | succ d ih =>
        intro i hi ha
        have l2 : i < p.f2.length := by omega
        have l3 : i < p.f3.length := by omega
        have eb : rdOf false p.f3 (i : Int) = p.f3[i] := by simp [rdOf, l3]
        have ew : wrap64 ((i : Int) + 1) = ((i + 1 : Nat) : Int) := wrap_n (n := n) (by omega) (by omega)
        have c1 : (i : Int) < (p.f3.length : Int) := by omega
        have c2 : (0 : Int) ≤ (i : Int) := by omega
        have c3 : (i : Int) < (p.f2.length : Int) := by omega
        cases cb : p.f3[i] with
        | true =>
          have h1 := ih (i + 1) (by omega) (by rw [List.take_succ_eq_append_getElem l3, List.all_append, ha, cb]; rfl)
          rw [addl_take l2] at h1
          refine cm_step (fun k => by rw [spec_PictureOf.l1]) ?_
          rw [ew]
          exact cm_yes c1 (cm_yes c2 (cm_yes c1 (cm_yes (by rw [eb, cb]) (cm_yes c3 h1))))
        | false =>
          have hF : picT p = false := all_no (p := fun b => b) (List.getElem_mem l3) cb
          rw [hF]
          refine cm_step (fun k => by rw [spec_PictureOf.l1]) ?_
          exact cm_yes c1 (cm_yes c2 (cm_yes c1 (cm_no (by rw [eb, cb]; simp) (cm_now fun _ => rfl))))
    refine cm_step (fun k => by rw [spec_PictureOf.l0]) ?_
    simp only [rdT76_at e]
    refine cm_yes (by omega) ?_
    refine cm_yes (by omega) ?_
    refine cm_yes (by omega) ?_
    exact inner n 0 (by omega) rfl
  · intro _
    refine cm_step (fun k => by rw [spec_PictureOf.l0]) ?_
    exact cm_no (by omega) (cm_now fun _ => rfl)
theorem any_false (l : List Bool) : l.any (fun x => false == x) = !l.all (fun b => b) := by
  induction l with
  | nil => rfl
  | cons x t ih => rw [List.any_cons, List.all_cons, ih]; cases x <;> simp
theorem impl_pics (hn : 1 ≤ n ∧ n ≤ 4) (hP : P.length = n) (hp : ∀ p ∈ P, (p.f2.length : Int) = (n : Int) ∧ (p.f3.length : Int) = (n : Int) ∧ (picT p = true → p.f0 = true)) :
    Cm (fun k => impl_PictureOf.l0 k 0 P (P.length : Int) 0) (if okFrom (fun _ p => picT p) [] P = true then (P.foldl picG 0, true) else (0, false)) := by
  have hPl : P.length ≤ 4611686018427387904 := by omega
  refine falls_cm (L := fun k i z => impl_PictureOf.l0 k z P (P.length : Int) i) P (fun _ p => picT p) picG 0 ?_ ?_
  · intro pre p t z e hlt v hv
    have hpl := hp p (by rw [← e]; simp)
    have hl3 : p.f3.length ≤ 4611686018427387904 := by omega
    have hl2 : p.f2.length ≤ 4611686018427387904 := by omega
    have hno : Cm (fun k => impl_PictureOf.j1 k z P (P.length : Int) (pre.length : Int) true p.f0 p.f1 p.f2 p.f3) (0, false) := by
      refine cm_step (fun k => by rw [impl_PictureOf.j1]) ?_
      exact cm_yes rfl (cm_now fun _ => rfl)
    refine cm_step (fun k => by rw [impl_PictureOf.l0]) ?_
    simp only [rdT76_at e]
    refine cm_yes (by omega) ?_
    refine cm_yes (by omega) ?_
    refine cm_yes (by omega) ?_
    by_cases cT : p.f0 = true
    · refine cm_yes cT (cm_bind (containsB_f p.f3 false hl3) ?_)
      rw [any_false]
      cases hT : picT p with
      | true =>
        have h1 := hv hT
        have e1 : (!p.f3.all (fun b => b)) = false := by
          have : p.f3.all (fun b => b) = true := hT
          rw [this]; rfl
        rw [e1]
        refine cm_step (fun k => by rw [impl_PictureOf.j1]) ?_
        refine cm_no (by simp) ?_
        refine fold_cm (L := fun k i z => impl_PictureOf.l1 k z P (P.length : Int) (pre.length : Int) p.f2 (p.f2.length : Int) i) p.f2 (fun s x => wrap64 (s + x)) (fun _ _ => True) (wrap64 (z + p.f1)) trivial ?_ ?_
        · intro pre2 x t2 s2 e2 hlt2 _
          refine ⟨trivial, fun u hu => ?_⟩
          refine cm_step (fun k => by rw [impl_PictureOf.l1]) ?_
          simp only [rd_at e2, wrap_len hlt2 hl2]
          exact cm_yes (by omega) (cm_yes (by omega) (cm_yes (by omega) hu))
        · intro _
          refine cm_step (fun k => by rw [impl_PictureOf.l1]) ?_
          simp only [wrap_len hlt hPl]
          exact cm_no (by omega) h1
      | false =>
        have e1 : (!p.f3.all (fun b => b)) = true := by
          have : p.f3.all (fun b => b) = false := hT
          rw [this]; rfl
        rw [e1]
        simpa using hno
    · have hT : picT p = false := by
        cases hx : picT p with
        | false => rfl
        | true => exact absurd (hpl.2.2 hx) cT
      rw [hT]
      exact cm_no cT (by simpa using hno)
  · intro _
    refine cm_step (fun k => by rw [impl_PictureOf.l0]) ?_
    exact cm_no (by omega) (cm_now fun _ => rfl)
end
theorem picture_both (x : S35) (h : smSnap x) (hA : x.f0.length ≤ 1048576) : ∃ v : Int × Bool, Cm (fun k => spec_PictureOf.f k x.f0 x.f1 x.f2 x.f3 x.f4) v ∧ Cm (fun k => impl_PictureOf.f k x.f0 x.f1 x.f2 x.f3 x.f4) v := by
  obtain ⟨g, g1, g2, g3⟩ := good_both x h hA
  unfold spec_PictureOf.f impl_PictureOf.f
  cases g with
  | true =>
    obtain ⟨n, hn, hA2, hP2, hok⟩ := g3 rfl
    have hp := pics2 hA2 hok
    have hat : ∀ p ∈ x.f2, (p.f2.length : Int) = (n : Int) ∧ (p.f3.length : Int) = (n : Int) ∧ (picT p = true → p.f0 = true) := by
      intro p hpm
      obtain ⟨j, hj, rfl⟩ := List.getElem_of_mem hpm
      have e : rd_T76 x.f2 (j : Int) = x.f2[j] := by simp [rd_T76, hj]
      have h1 := hp j (by omega)
      rw [e] at h1
      refine ⟨h1.1, h1.2.1, fun hT => ?_⟩
      by_cases c : x.f2[j].f0 = true
      · exact c
      · have h2 := h1.2.2
        unfold picV at h2
        rw [if_neg c] at h2
        simp only [Bool.and_eq_true] at h2
        have h3 := h2.2.2.2.2
        have hne : 0 < x.f2[j].f3.length := by omega
        unfold picT at hT
        rw [List.all_eq_true] at hT h3
        have a := hT _ (List.getElem_mem hne)
        have b := h3 _ (List.getElem_mem hne)
        rw [a] at b
        cases b
    exact ⟨_, cm_bind g1 (cm_yes rfl (spec_pics (n := n) (by omega) hP2 (fun p hpm => ⟨(hat p hpm).1, (hat p hpm).2.1⟩))), cm_bind g2 (cm_yes rfl (impl_pics (n := n) (by omega) hP2 hat))⟩
  | false => exact ⟨(0, false), cm_bind g1 (cm_no (by simp) (cm_now fun _ => rfl)), cm_bind g2 (cm_no (by simp) (cm_now fun _ => rfl))⟩
end Go.Proofs.Ytmkiffemanmgcaa.SnapD
end
section
namespace Go.Proofs.Ytmkiffemanmgcaa.Pure
open Go.RowKit Go.Proofs.Ytmkiffemanmgcaa.P Go.Proofs.YtmkiffemanmgcaaW.PrintWords Go.Proofs.YtmkiffemanmgcaaW.PrintLast Go.Proofs.YtmkiffemanmgcaaW.PrintMore
open Go.Proofs.Ytmkiffemanmgcaa.Pl Go.Proofs.Ytmkiffemanmgcaa.EvN Go.Proofs.Ytmkiffemanmgcaa.Lp Go.Proofs.Ytmkiffemanmgcaa.Hg Go.Proofs.Ytmkiffemanmgcaa.SnapC Go.Proofs.Ytmkiffemanmgcaa.SnapD
set_option linter.unusedVariables false
theorem FnExactPictureOf : Mk.FnExactPictureOf_Pure := by
  intro x h
  have hs := sm_cSnap x h
  obtain ⟨z1, hv⟩ := szSnap_ex x h 1048576
  by_cases c : z1 < 0
  · obtain ⟨Kz, hz⟩ := hv
    exact ⟨Kz, z1, hz Kz (Nat.le_refl _), .inl c⟩
  rcases sz_or x h with ⟨u, hu, hneg⟩ | hA
  · exact absurd (cm_one hv hu ▸ hneg) c
  · obtain ⟨Kz, hz⟩ := hv
    obtain ⟨K0, j0⟩ := toSnap_f x h
    obtain ⟨K3, j3⟩ := eqSnap_same _ hs
    obtain ⟨⟨v1, v2⟩, g1, g2⟩ := picture_both (cSnap x) hs hA
    obtain ⟨K1, j1⟩ := g1
    obtain ⟨K2, j2⟩ := g2
    exact ⟨K0 + K1 + K2 + K3 + Kz, z1, hz _ (by omega), .inr ⟨c, _, _, _, _, _, v1, v2, j0 _ (by omega), j1 _ (by omega), j2 _ (by omega), j3 _ (by omega)⟩⟩
end Go.Proofs.Ytmkiffemanmgcaa.Pure
end
