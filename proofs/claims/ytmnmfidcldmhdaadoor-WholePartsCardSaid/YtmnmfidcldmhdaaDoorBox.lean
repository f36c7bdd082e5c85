/- Structs in blocks of their own: what their cells hold, in a later world, behind a store; no program. -/
import Derived.Test.YtmnmfidcldmhdaaDoorMemB
namespace Go.Proofs.YtmnmfidcldmhdaaDoor
open Go.RowKit

/-- Block g is the cells cs, none frozen. -/
def Bx (w : World) (g : Nat) (t : TypeId) (cs : Array Value) : Prop := w.heap[g]? = some (.cells cs t (0, 0))
theorem Bx.lt {w : World} {g : Nat} {t : TypeId} {cs : Array Value} (h : Bx w g t cs) : g < w.heap.size := by
  rcases Nat.lt_or_ge g w.heap.size with hlt | hge
  · exact hlt
  · unfold Bx at h; rw [Array.getElem?_eq_none hge] at h; cases h
theorem Bx.later {w w' : World} {g : Nat} {t : TypeId} {cs : Array Value} (h : Bx w g t cs) (hb : Below w.heap.size w w') : Bx w' g t cs := (hb.block g h.lt).trans h
theorem Bx.drew {w : World} {g : Nat} {t : TypeId} {cs : Array Value} (h : Bx w g t cs) : Bx w.drew g t cs := h
theorem Bx.new (w : World) (t : TypeId) (cs : Array Value) : Bx (w.alloc (.cells cs t)) w.heap.size t cs := heap_alloc_new w _
theorem Bx.alloc {w : World} {g : Nat} {t : TypeId} {cs : Array Value} (h : Bx w g t cs) (o : Obj) : Bx (w.alloc o) g t cs := (Below.heap_alloc w o g h.lt).trans h
theorem Bx.at1 (w : World) (o : Obj) (t : TypeId) (cs : Array Value) : Bx ((w.alloc o).alloc (.cells cs t)) (w.heap.size + 1) t cs := by
  have := Bx.new (w.alloc o) t cs
  simpa using this
theorem Bx.at2 (w : World) (o p : Obj) (t : TypeId) (cs : Array Value) : Bx (((w.alloc o).alloc p).alloc (.cells cs t)) (w.heap.size + 2) t cs := by
  have := Bx.new ((w.alloc o).alloc p) t cs
  simpa using this
theorem Bx.at3 (w : World) (o p q : Obj) (t : TypeId) (cs : Array Value) : Bx ((((w.alloc o).alloc p).alloc q).alloc (.cells cs t)) (w.heap.size + 3) t cs := by
  have := Bx.new (((w.alloc o).alloc p).alloc q) t cs
  simpa using this
theorem Bx.cel {w : World} {g : Nat} {t : TypeId} {cs : Array Value} (h : Bx w g t cs) (i : Nat) : w.cell? ⟨g, i, none⟩ = cs[i]? := by
  unfold Bx at h; simp [World.cell?, h]
theorem Bx.free {w : World} {g : Nat} {t : TypeId} {cs : Array Value} (h : Bx w g t cs) (i : Nat) : w.frozen? ⟨g, i, none⟩ = false := by
  unfold Bx at h; simp [World.frozen?, h]
/-- Two cells: what the walk wants of them. -/
theorem Bx.two {w : World} {g : Nat} {t : TypeId} {x y : Value} (h : Bx w g t #[x, y]) : w.cell? ⟨g, 0, none⟩ = some x ∧ w.cell? ⟨g, 1, none⟩ = some y ∧ w.frozen? ⟨g, 0, none⟩ = false ∧ w.frozen? ⟨g, 1, none⟩ = false :=
  ⟨h.cel 0, h.cel 1, h.free 0, h.free 1⟩
theorem Bx.three {w : World} {g : Nat} {t : TypeId} {x y z : Value} (h : Bx w g t #[x, y, z]) : w.cell? ⟨g, 0, none⟩ = some x ∧ w.cell? ⟨g, 1, none⟩ = some y ∧ w.cell? ⟨g, 2, none⟩ = some z ∧ w.frozen? ⟨g, 0, none⟩ = false ∧ w.frozen? ⟨g, 1, none⟩ = false ∧ w.frozen? ⟨g, 2, none⟩ = false :=
  ⟨h.cel 0, h.cel 1, h.cel 2, h.free 0, h.free 1, h.free 2⟩
theorem Bx.set {w : World} {g : Nat} {t : TypeId} {cs : Array Value} (h : Bx w g t cs) (i : Nat) (u : Value) : Bx (w.setCell ⟨g, i, none⟩ u) g t (cs.setIfInBounds i u) := by
  unfold Bx at *
  simp [World.setCell, Array.getElem?_modify, h]
theorem Bx.far {w : World} {g : Nat} {t : TypeId} {cs : Array Value} (h : Bx w g t cs) {p : Addr} (hp : g ≠ p.block) (u : Value) : Bx (w.setCell p u) g t cs := (Below.heap_setCell w p u g hp).trans h
theorem Bx.far2 {w : World} {g g' i j : Nat} {t : TypeId} {cs : Array Value} (h : Bx w g t cs) (hp : g ≠ g') (u v : Value) : Bx ((w.setCell ⟨g', i, none⟩ u).setCell ⟨g', j, none⟩ v) g t cs := (h.far (p := ⟨g', i, none⟩) hp u).far (p := ⟨g', j, none⟩) hp v
theorem Bx.set2 {w : World} {g : Nat} {t : TypeId} {x y : Value} (h : Bx w g t #[x, y]) (u v : Value) : Bx ((w.setCell ⟨g, 0, none⟩ u).setCell ⟨g, 1, none⟩ v) g t #[u, v] := (h.set 0 u).set 1 v
theorem Bx.set3 {w : World} {g : Nat} {t : TypeId} {x y z : Value} (h : Bx w g t #[x, y, z]) (u v s : Value) : Bx (((w.setCell ⟨g, 0, none⟩ u).setCell ⟨g, 1, none⟩ v).setCell ⟨g, 2, none⟩ s) g t #[u, v, s] := ((h.set 0 u).set 1 v).set 2 s
theorem cell_far1 {w : World} {b o g i : Nat} {v : Value} (h : w.cell? ⟨b, o, none⟩ = some v) (hne : b ≠ g) (x : Value) : (w.setCell ⟨g, i, none⟩ x).cell? ⟨b, o, none⟩ = some v :=
  (World.cell?_of_block (a := ⟨b, o, none⟩) (Below.heap_setCell w ⟨g, i, none⟩ x b hne)).trans h
theorem cell_far2 {w : World} {b o g i j : Nat} {v : Value} (h : w.cell? ⟨b, o, none⟩ = some v) (hne : b ≠ g) (x y : Value) : ((w.setCell ⟨g, i, none⟩ x).setCell ⟨g, j, none⟩ y).cell? ⟨b, o, none⟩ = some v := cell_far1 (cell_far1 h hne x) hne y
theorem cell_far3 {w : World} {b o g i j k : Nat} {v : Value} (h : w.cell? ⟨b, o, none⟩ = some v) (hne : b ≠ g) (x y z : Value) : (((w.setCell ⟨g, i, none⟩ x).setCell ⟨g, j, none⟩ y).setCell ⟨g, k, none⟩ z).cell? ⟨b, o, none⟩ = some v := cell_far1 (cell_far2 h hne x y) hne z
theorem cell_swap {w : World} {b o : Nat} {cs cs' : Array Value} {t t' : TypeId} {v : Value} (h : (w.alloc (.cells cs t)).cell? ⟨b, o, none⟩ = some v) (hne : b ≠ w.heap.size) : (w.alloc (.cells cs' t')).cell? ⟨b, o, none⟩ = some v := by
  have h1 := cell_lt h
  have h2 : b < w.heap.size := by simp at h1; omega
  rw [World.cell?_alloc_lt w _ ⟨b, o, none⟩ h2] at h ⊢
  exact h
theorem undrew {w w' : World} (h : Below w.drew.heap.size w.drew w') : Below w.heap.size w w' := ⟨h.os, h.tape, h.output, h.size, h.block⟩
theorem nxt {a w1 w2 : World} (h : Below a.heap.size a w1) (hb : Below w1.heap.size w1 w2) : Below a.heap.size a w2 := below_bel h hb h.size
theorem nxtA {a w1 : World} (h : Below a.heap.size a w1) (o : Obj) : Below a.heap.size a (w1.alloc o) := h.alloc h.size o
theorem b1 (w : World) (o : Obj) : Below w.heap.size w (w.alloc o) := nxtA (Below.refl _ _) o
theorem b2 (w : World) (o p : Obj) : Below w.heap.size w ((w.alloc o).alloc p) := nxtA (b1 w o) p
theorem b3 (w : World) (o p q : Obj) : Below w.heap.size w (((w.alloc o).alloc p).alloc q) := nxtA (b2 w o p) q
theorem b4 (w : World) (o p q r : Obj) : Below w.heap.size w ((((w.alloc o).alloc p).alloc q).alloc r) := nxtA (b3 w o p q) r
theorem st2 {B : Nat} {a w : World} (h : Below B a w) {g : Nat} (hg : B ≤ g) (u v : Value) : Below B a ((w.setCell ⟨g, 0, none⟩ u).setCell ⟨g, 1, none⟩ v) := (h.setCell hg u).setCell hg v
theorem st3 {B : Nat} {a w : World} (h : Below B a w) {g : Nat} (hg : B ≤ g) (u v s : Value) : Below B a (((w.setCell ⟨g, 0, none⟩ u).setCell ⟨g, 1, none⟩ v).setCell ⟨g, 2, none⟩ s) := ((h.setCell hg u).setCell hg v).setCell hg s
/-- What the walk wants of a later world. -/
theorem bcell {W w1 : World} (hb : Below W.heap.size W w1) : (∀ b o, b < W.heap.size → w1.cell? ⟨b, o, none⟩ = W.cell? ⟨b, o, none⟩) ∧ (∀ b o, b < W.heap.size → w1.frozen? ⟨b, o, none⟩ = W.frozen? ⟨b, o, none⟩) :=
  ⟨fun b o h => hb.cell (p := ⟨b, o, none⟩) h, fun b o h => hb.frozen (p := ⟨b, o, none⟩) h⟩
end Go.Proofs.YtmnmfidcldmhdaaDoor
