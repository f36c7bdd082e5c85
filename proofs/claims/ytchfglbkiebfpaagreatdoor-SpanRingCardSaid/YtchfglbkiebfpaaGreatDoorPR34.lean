/- The walks and plain laws beneath the statements. -/
import Derived.Test.YtchfglbkiebfpaaGreatDoorPR33
import Derived.Test.YtchfglbkiebfpaaGreatDoorPR20
namespace Go.Proofs.YtchfglbkiebfpaaGreatDoor
open Go.RowKit Go.WideShapes Go.ChangeShapes Go.Deep
section
variable {H : Type} {enc : TypeId × Value → H} {w : World} {base : Nat} {spare : Nat → Bool} {held : Bool}
theorem cells_Num : Tryz.prog.cellsOf 25 = 3 := by kernel_rfl
theorem cells_Span : Tryz.prog.cellsOf 27 = 6 := by kernel_rfl
theorem cells_bool : Tryz.prog.cellsOf 4 = 1 := by kernel_rfl
theorem cells_string : Tryz.prog.cellsOf 9 = 1 := by kernel_rfl
theorem cells_int : Tryz.prog.cellsOf 3 = 1 := by kernel_rfl
theorem list2 {α : Type} {l : List α} (h : l.length = 2) : ∃ a b, l = [a, b] := by
  match l, h with | [a, b], _ => exact ⟨a, b, rfl⟩
theorem list3 {α : Type} {l : List α} (h : l.length = 3) : ∃ a b c, l = [a, b, c] := by
  match l, h with | [a, b, c], _ => exact ⟨a, b, c, rfl⟩
theorem list6 {α : Type} {l : List α} (h : l.length = 6) : ∃ a b c d e f, l = [a, b, c, d, e, f] := by
  match l, h with | [a, b, c, d, e, f], _ => exact ⟨a, b, c, d, e, f, rfl⟩
set_option maxRecDepth 100000 in
theorem trod_Int {fuel : Nat} {cs : List Value} {x : DataW H × List MemPlace} (h : DataW.trod enc Tryz.prog w base spare held fuel 23 cs = some x) : ∃ (b : Bool) (s : ByteArray), cs = [.bool b, .string s] ∧ s.size ≤ maxLen := by
  obtain ⟨y0, y1, n, _, hl, h0, h1⟩ := trod_struct2 Tryz.underlying23 h
  rw [cells_Int] at hl
  obtain ⟨c0, c1, rfl⟩ := list2 hl
  dsimp only at h0 h1
  rw [cells_bool] at h0
  rw [cells_string] at h1
  obtain ⟨b, hb, _⟩ := DataW.trod_bool Tryz.underlying4 h0
  obtain ⟨s, hs, _, hz⟩ := DataW.trod_string Tryz.underlying9 h1
  simp at hb hs
  subst hb hs
  exact ⟨b, s, rfl, hz⟩
set_option maxRecDepth 100000 in
theorem trod_Num {fuel : Nat} {cs : List Value} {x : DataW H × List MemPlace} (h : DataW.trod enc Tryz.prog w base spare held fuel 25 cs = some x) : ∃ (b : Bool) (s : ByteArray) (e : Int), cs = [.bool b, .string s, .int .i64 e] ∧ s.size ≤ maxLen := by
  obtain ⟨y0, y1, n, _, hl, h0, h1⟩ := trod_struct2 Tryz.underlying25 h
  rw [cells_Num] at hl
  obtain ⟨c0, c1, c2, rfl⟩ := list3 hl
  dsimp only at h0 h1
  rw [cells_Int] at h0
  rw [cells_int] at h1
  obtain ⟨b, s, hb, hz⟩ := trod_Int h0
  obtain ⟨e, he, _⟩ := DataW.trod_int Tryz.underlying3 h1
  simp at hb he
  obtain ⟨rfl, rfl⟩ := hb
  subst he
  exact ⟨b, s, e, rfl, hz⟩
set_option maxRecDepth 100000 in
theorem trod_Span {fuel : Nat} {cs : List Value} {x : DataW H × List MemPlace} (h : DataW.trod enc Tryz.prog w base spare held fuel 27 cs = some x) :
    ∃ (b : Bool) (s : ByteArray) (e : Int) (c : Bool) (t : ByteArray) (f : Int), cs = [.bool b, .string s, .int .i64 e, .bool c, .string t, .int .i64 f] := by
  obtain ⟨y0, y1, n, _, hl, h0, h1⟩ := trod_struct2 Tryz.underlying27 h
  rw [cells_Span] at hl
  obtain ⟨c0, c1, c2, c3, c4, c5, rfl⟩ := list6 hl
  dsimp only at h0 h1
  rw [cells_Num] at h0 h1
  obtain ⟨b, s, e, hb, _⟩ := trod_Num h0
  obtain ⟨c, t, f, hc, _⟩ := trod_Num h1
  simp at hb hc
  obtain ⟨rfl, rfl, rfl⟩ := hb
  obtain ⟨rfl, rfl, rfl⟩ := hc
  exact ⟨b, s, e, c, t, f, rfl⟩
end
section
variable {H : Type} {enc : TypeId × Value → H} {w : World}
set_option maxRecDepth 100000 in
/-- An api.Span that came in. -/
theorem open_Span {r : Reach} {b0 : Nat} {v : Value} {d : DataW H} {ps : List MemPlace} (hval : Value.okWide Tryz.prog w r b0 27 v) (h : DataW.Trod enc Tryz.prog w 0 (fun _ => true) true 27 v d ps) :
    ∃ (b : Bool) (s : ByteArray) (e : Int) (c : Bool) (t : ByteArray) (f : Int), v = .agg #[.bool b, .string s, .int .i64 e, .bool c, .string t, .int .i64 f] := by
  obtain ⟨cs, rfl, hsz⟩ := okWide_struct Tryz.underlying27 hval
  obtain ⟨fuel, hf⟩ := h
  obtain ⟨b, s, e, c, t, f, he⟩ := trod_Span hf
  exact ⟨b, s, e, c, t, f, congrArg Value.agg (Array.toList_inj.1 he)⟩
theorem addr_plain {a : Addr} {b : Bool} (h00 : w.cell? (a.add 0) = some (.bool b)) : ∃ blk off, a = ⟨blk, off, none⟩ := by
  obtain ⟨blk, off, sp⟩ := a
  cases sp with
  | none => exact ⟨blk, off, rfl⟩
  | some x =>
    exfalso
    simp only [Addr.add, if_true, World.cell?] at h00
    split at h00
    · simp at h00
    · cases h00
theorem choose6 {α β γ δ ε ζ : Type} [Inhabited α] [Inhabited β] [Inhabited γ] [Inhabited δ] [Inhabited ε] [Inhabited ζ] {p : Nat → Prop} {q : Nat → α → β → γ → δ → ε → ζ → Prop} (h : ∀ i, p i → ∃ a b c d e f, q i a b c d e f) :
    ∃ (f : Nat → α) (g : Nat → β) (k : Nat → γ) (l : Nat → δ) (m : Nat → ε) (n : Nat → ζ), ∀ i, p i → q i (f i) (g i) (k i) (l i) (m i) (n i) := by
  have key : ∀ i, ∃ x : α × β × γ × δ × ε × ζ, p i → q i x.1 x.2.1 x.2.2.1 x.2.2.2.1 x.2.2.2.2.1 x.2.2.2.2.2 := fun i => by
    by_cases hp : p i
    · obtain ⟨a, b, c, d, e, f, hq⟩ := h i hp
      exact ⟨(a, b, c, d, e, f), fun _ => hq⟩
    · exact ⟨default, fun h => absurd h hp⟩
  exact ⟨fun i => (Classical.choose (key i)).1, fun i => (Classical.choose (key i)).2.1, fun i => (Classical.choose (key i)).2.2.1, fun i => (Classical.choose (key i)).2.2.2.1, fun i => (Classical.choose (key i)).2.2.2.2.1, fun i => (Classical.choose (key i)).2.2.2.2.2, fun i hi => Classical.choose_spec (key i) hi⟩
set_option maxRecDepth 100000 in
/-- A []api.Span that came in. -/
theorem open_Spans {r : Reach} {b0 : Nat} {v : Value} {d : DataW H} {ps : List MemPlace} (hval : Value.okWide Tryz.prog w r b0 28 v) (h : DataW.Trod enc Tryz.prog w 0 (fun _ => true) true 28 v d ps) :
    ∃ (A : Option Addr) (n c : Nat) (bs : Nat → Bool) (ss : Nat → ByteArray) (es : Nat → Int) (cs : Nat → Bool) (ts : Nat → ByteArray) (fs : Nat → Int), v = .slice A n c ∧ (A = none → n = 0 ∧ c = 0) ∧ n ≤ c ∧ c ≤ maxLen ∧ RdS w A n bs ss es cs ts fs := by
  obtain ⟨A, n, c, rfl⟩ := okWide_slice Tryz.underlying28 hval
  obtain ⟨fuel, hf⟩ := h
  have hcs : (Value.slice A n c).cells.toList = [.slice A n c] := by simp [Value.cells]
  rw [hcs] at hf
  rcases open_slice Tryz.underlying28 hf with ⟨e1, _⟩ | ⟨a, len, cap, m, k, D, Pl, e1, _, hl, hm, hmm, _, hi⟩
  · simp at e1
    obtain ⟨rfl, rfl, rfl⟩ := e1
    exact ⟨none, 0, 0, fun _ => false, fun _ => ⟨#[]⟩, fun _ => 0, fun _ => false, fun _ => ⟨#[]⟩, fun _ => 0, rfl, fun _ => ⟨rfl, rfl⟩, Nat.le_refl _, Nat.zero_le _, fun h => absurd h (by decide)⟩
  · simp at e1
    obtain ⟨rfl, rfl, rfl⟩ := e1
    simp only [if_true] at hmm
    rw [cells_Span] at hi
    obtain ⟨bs, ss, es, cs, ts, fs, hk⟩ := choose6 (p := fun i => i < n) (q := fun i b s e c t f => w.cell? ((a.add (i * 6)).add 0) = some (.bool b) ∧ w.cell? ((a.add (i * 6)).add 1) = some (.string s) ∧ w.cell? ((a.add (i * 6)).add 2) = some (.int .i64 e) ∧
      w.cell? ((a.add (i * 6)).add 3) = some (.bool c) ∧ w.cell? ((a.add (i * 6)).add 4) = some (.string t) ∧ w.cell? ((a.add (i * 6)).add 5) = some (.int .i64 f)) (fun i hin => by
      obtain ⟨cs', h1, h2⟩ := hi i (by omega)
      obtain ⟨b, s, e, c, t, f, rfl⟩ := trod_Span h2
      obtain ⟨_, _, hat⟩ := World.cells?_some h1
      exact ⟨b, s, e, c, t, f, hat 0 (by decide), hat 1 (by decide), hat 2 (by decide), hat 3 (by decide), hat 4 (by decide), hat 5 (by decide)⟩)
    refine ⟨some a, n, c, bs, ss, es, cs, ts, fs, rfl, (fun h => by cases h), hl, hm, fun h0 => ?_⟩
    have h00 := (hk 0 h0).1
    rw [Nat.zero_mul, add_add] at h00
    obtain ⟨blk, off, rfl⟩ := addr_plain h00
    exact ⟨blk, off, rfl, fun j hj => by
      obtain ⟨h1, h2, h3, h4, h5, h6⟩ := hk j hj
      rw [add_add, add_plain] at h1 h2 h3 h4 h5 h6
      exact ⟨h1, by rw [Nat.add_assoc]; exact h2, by rw [Nat.add_assoc]; exact h3, by rw [Nat.add_assoc]; exact h4, by rw [Nat.add_assoc]; exact h5, by rw [Nat.add_assoc]; exact h6⟩⟩
end
end Go.Proofs.YtchfglbkiebfpaaGreatDoor

