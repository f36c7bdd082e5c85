/- The walks and plain laws beneath the statements. -/
import Derived.Test.YtchfglbkiebfpaaGreatDoorPR1
namespace Go.Proofs.YtchfglbkiebfpaaGreatDoor
open Go Go.RowKit

def upd {α : Type} (f : Nat → α) (i : Nat) (x : α) (k : Nat) : α := if k = i then x else f k
end Go.Proofs.YtchfglbkiebfpaaGreatDoor

namespace Go.Proofs.YtchfglbkiebfpaaGreatDoor
open Go Go.RowKit

/-- A value that is worked with: known outright; pointing into a block of the call's own; made of such; handed over. -/
inductive SV where
  | val (y : Value)
  | ptr (b o : Nat)
  | sli (b o n c : Nat)
  | clo (fn : Fn) (l m : List SV)
  | agg (l : List SV)
  | tup (l : List SV)
  | han (i : Nat)
/-- Where the blocks lie; what the values handed over are, and which blocks are theirs. -/
structure Env where
  b : Nat → Nat
  x : Nat → Value
  S : Nat → Nat → Prop
mutual
def SV.den (r : Env) : SV → Value
  | .val y => y
  | .ptr b o => .pointer (some ⟨r.b b, o, none⟩)
  | .sli b o n c => .slice (some ⟨r.b b, o, none⟩) n c
  | .clo fn l m => .func fn (denL r l).toArray (denL r m).toArray
  | .agg l => .agg (denL r l).toArray
  | .tup l => .tuple (denL r l).toArray
  | .han i => r.x i
def denL (r : Env) : List SV → List Value
  | [] => []
  | s :: l => s.den r :: denL r l
end
mutual
/-- It points to such blocks, and such values handed over, alone. -/
def SV.ok (β ξ : Nat → Bool) : SV → Bool
  | .val _ => true
  | .ptr b _ => β b
  | .sli b _ _ _ => β b
  | .clo _ l m => okL β ξ l && okL β ξ m
  | .agg l => okL β ξ l
  | .tup l => okL β ξ l
  | .han i => ξ i
def okL (β ξ : Nat → Bool) : List SV → Bool
  | [] => true
  | s :: l => s.ok β ξ && okL β ξ l
end
theorem blt_lt {a b : Nat} (h : Nat.blt a b = true) : a < b := Nat.le_of_ble_eq_true h
def look {α : Type} (k : Nat) : List (Nat × α) → Option α
  | [] => none
  | (j, s) :: l => bif Nat.beq j k then some s else look k l
def nth {α : Type} : List (Option α) → Nat → Option α
  | [], _ => none
  | x :: _, 0 => x
  | _ :: l, n + 1 => nth l n
/-- Memory that is handed over: v, its blocks, what is known of them. -/
structure Res where
  φ : Value → (Nat → Prop) → World → Prop
  one : ∀ v S w, φ v S w → v.oneCell' = true
  loc : ∀ v S w w', (∀ b, S b → w'.heap[b]? = w.heap[b]?) → φ v S w → φ v S w'
/-- What is known: how many slots there are, of some what they hold; the blocks; what was handed over. -/
structure St where
  n : Nat
  ts : List (Nat × SV)
  bs : List (Option (TypeId × List SV))
  rs : List (Option Res)
def St.lt (σ : St) (s : SV) : Bool := s.ok (fun i => Nat.blt i σ.bs.length) (fun i => Nat.blt i σ.rs.length)
def St.ltL (σ : St) (l : List SV) : Bool := okL (fun i => Nat.blt i σ.bs.length) (fun i => Nat.blt i σ.rs.length) l
structure See (w0 : World) (σ : St) (r : Env) (a : Act) (w : World) : Prop where
  low : Below w0.heap.size w0 w
  size : a.tmps.size = σ.n
  ts : ∀ k s, look k σ.ts = some s → a.tmps.getD k undef = s.den r ∧ σ.lt s = true
  bs : ∀ i t cs, nth σ.bs i = some (t, cs) → Bx w (r.b i) t (denL r cs).toArray ∧ σ.ltL cs = true
  rs : ∀ i R, nth σ.rs i = some R → R.φ (r.x i) (r.S i) w ∧ ∀ b, r.S i b → b < w.heap.size
  one : ∀ i, i < σ.rs.length → (r.x i).oneCell' = true
structure Sep (w0 : World) (σ : St) (r : Env) : Prop where
  own : ∀ i p, nth σ.bs i = some p → w0.heap.size ≤ r.b i
  inj : ∀ i j p q, nth σ.bs i = some p → nth σ.bs j = some q → i ≠ j → r.b i ≠ r.b j
  ownS : ∀ i R, nth σ.rs i = some R → ∀ b, r.S i b → w0.heap.size ≤ b
  disj : ∀ i j R R', nth σ.rs i = some R → nth σ.rs j = some R' → i ≠ j → ∀ b, r.S i b → ¬ r.S j b
  apart : ∀ i j p R, nth σ.bs i = some p → nth σ.rs j = some R → ¬ r.S j (r.b i)
structure Sat (w0 : World) (σ : St) (r : Env) (a : Act) (w : World) : Prop where
  see : See w0 σ r a w
  sep : Sep w0 σ r
  defers : a.defers = []
theorem See.later {w0 : World} {σ : St} {r : Env} {a : Act} {w w' : World} (h : See w0 σ r a w) (hb : Below w.heap.size w w') : See w0 σ r a w' :=
  ⟨nxt h.low hb, h.size, h.ts, fun i t cs hi => ⟨(h.bs i t cs hi).1.later hb, (h.bs i t cs hi).2⟩, fun i R hi => ⟨R.loc _ _ _ _ (fun b hS => hb.block b ((h.rs i R hi).2 b hS)) (h.rs i R hi).1, fun b hS => Nat.lt_of_lt_of_le ((h.rs i R hi).2 b hS) hb.size⟩, h.one⟩

/-- What an operation yields, and what it makes. -/
structure Out where
  s : SV
  b : Option (TypeId × List SV) := none
  r : Option Res := none
structure Gh where
  b : Nat
  x : Value
  S : Nat → Prop
def Env.add (r : Env) (nb nx : Nat) (γ : Gh) : Env := ⟨upd r.b nb γ.b, upd r.x nx γ.x, upd r.S nx γ.S⟩
def snoc {α : Type} : List α → α → List α
  | [], y => [y]
  | x :: l, y => x :: snoc l y
def St.push (σ : St) (d : Option Tmp) (s : SV) : St := match d with | some d => { σ with ts := (d, s) :: σ.ts } | none => σ
section
variable {w0 : World} {σ : St} {r : Env} {a : Act} {w w' : World} {o : Out} {γ : Gh}
theorem See.push (h : See w0 σ r a w) {d : Option Tmp} {s : SV} (hd : ∀ k, d = some k → k < σ.n) (hs : σ.lt s = true) : See w0 (σ.push d s) r (a.put d (s.den r)) w := by
  cases d with
  | none => exact h
  | some d =>
    have hsz : d < a.tmps.size := by rw [h.size]; exact hd d rfl
    refine ⟨h.low, by simpa [Act.put, St.push] using h.size, fun k u hk => ?_, h.bs, h.rs, h.one⟩
    simp only [St.push, look] at hk
    cases e : Nat.beq d k with
    | true =>
      have : d = k := Nat.eq_of_beq_eq_true e
      subst this
      rw [e] at hk
      obtain rfl := Option.some.inj hk
      exact ⟨by simp [Act.put, hsz], hs⟩
    | false =>
      have hne : d ≠ k := Nat.ne_of_beq_eq_false e
      rw [e] at hk
      obtain ⟨h1, h2⟩ := h.ts k u hk
      refine ⟨?_, h2⟩
      rw [← h1]
      show (a.tmps.setIfInBounds d _).getD k undef = a.tmps.getD k undef
      simp [hne]
end
end Go.Proofs.YtchfglbkiebfpaaGreatDoor

namespace Go.Proofs.YtchfglbkiebfpaaGreatDoor
open Go Go.RowKit

/-! The types. -/
inductive TK where
  | struct (fs : List (Nat × Nat × Option Bool))
  | array (n e sz : Nat) (ag : Option Bool)
  | slice (e sz : Nat) (ag : Option Bool)
  | ptr (e : Nat)
  | str
  | int (k : IntKind)
  | bool
  | other
structure TI where
  size : Nat
  zero : List Value
  k : TK
def TK.agg : TK → Bool
  | .struct _ => true
  | .array .. => true
  | _ => false
/-! Cells. -/
def SV.cells : SV → List SV
  | .val y => y.cells.toList.map SV.val
  | .agg l => l
  | z => [z]

/-! What an operation yields. -/
def evS (σ : St) : Operand → Option SV
  | .tmp k => look k σ.ts
  | .const v => some (.val v)
  | .global g => some (.val (.pointer (some ⟨g, 0, none⟩)))
  | .func f => some (.clo (.func f) [] [])
def evK (σ : St) (x : Operand) (K : SV → Prop) : Prop := match evS σ x with | some s => K s | none => False
end Go.Proofs.YtchfglbkiebfpaaGreatDoor

namespace Go.Proofs.YtchfglbkiebfpaaGreatDoor
open Go Go.RowKit

def one (s : SV) : Out := ⟨s, none, none⟩
def lit (b : Bool) : Out := ⟨.val (.bool b), none, none⟩
end Go.Proofs.YtchfglbkiebfpaaGreatDoor

namespace Go.Proofs.YtchfglbkiebfpaaGreatDoor
open Go Go.RowKit

def e0 : Env := ⟨fun _ => 0, fun _ => undef, fun _ _ => False⟩
def SV.plain (s : SV) : Bool := s.ok (fun _ => false) (fun _ => false)
def v1 (σ : St) (x : Operand) (K : Value → Prop) : Prop := evK σ x fun s => bif s.plain then K (s.den e0) else False
/-- A call of it is entered. -/
def Enters (P : Program) (f : FuncId) : Prop := ∀ (args : Array Value) (w : World), (callFunc f args).run P w = .ok (.enter f args) w
/-- **A contract**: in every later world it returns R, and turns nothing that was. -/
def RetAt (P : Program) (w0 : World) (f : FuncId) (args : Array Value) (R : Value) : Prop := Enters P f ∧ ∀ W, Below w0.heap.size w0 W → Calls P f args W fun e w' => e = .returned R ∧ Below W.heap.size W w'
end Go.Proofs.YtchfglbkiebfpaaGreatDoor

namespace Go.Proofs.YtchfglbkiebfpaaGreatDoor
open Go Go.RowKit

def dstB (d : Option Tmp) (n : Nat) : Bool := match d with
  | none => true
  | some k => Nat.blt k n
section
variable {P : Program} {tt : List (Nat × TI)} {w0 : World} {σ : St}
theorem dstB_lt {d : Option Tmp} {n : Nat} (h : dstB d n = true) : ∀ k, d = some k → k < n := by
  rintro k rfl; exact blt_lt h
theorem Sat.put {r : Env} {a : Act} {w : World} (h : Sat w0 σ r a w) {d : Option Tmp} {s : SV} (hd : dstB d σ.n = true) (hs : σ.lt s = true) : Sat w0 (σ.push d s) r (a.put d (s.den r)) w := by
  refine ⟨h.see.push (dstB_lt hd) hs, ?_, ?_⟩
  · obtain ⟨h1, h2, h3, h4, h5⟩ := h.sep
    cases d <;> exact ⟨h1, h2, h3, h4, h5⟩
  · have := h.defers
    cases d <;> exact this
end
end Go.Proofs.YtchfglbkiebfpaaGreatDoor

namespace Go.Proofs.YtchfglbkiebfpaaGreatDoor
open Go Go.RowKit

theorem RetAt.at {P : Program} {w0 : World} {f : FuncId} {args : Array Value} {R : Value} (h : RetAt P w0 f args R) : Calls P f args w0 fun e w' => e = .returned R ∧ Below w0.heap.size w0 w' := h.2 w0 (Below.refl _ _)
/-! Which way. -/
theorem wz {k : Int} (x : Int) (h : IntKind.i64.wrap 0 = k) : IntKind.i64.wrap (x - x) = k := by rw [Int.sub_self]; exact h
theorem wn {p n : Int} (h : IntKind.i64.wrap (-p) = n) : IntKind.i64.wrap (0 - p) = n := by rw [Int.zero_sub]; exact h
end Go.Proofs.YtchfglbkiebfpaaGreatDoor

