/- The walks and plain laws beneath the statements. -/
import Derived.Test.YtibbhpgpleeglaaGreatDoorPA43
import Derived.Test.YtibbhpgpleeglaaGreatDoorPA23
namespace Go.Proofs.YtibbhpgpleeglaaGreatDoor
open Go.RowKit Go.WideShapes Go.ChangeShapes Go.Deep
section
variable {H : Type} {enc : TypeId × Value → H} {w : World} {base : Nat} {spare : Nat → Bool} {held : Bool}
theorem cells_Num : Tryz.prog.cellsOf 29 = 3 := by kernel_rfl
theorem cells_bool : Tryz.prog.cellsOf 4 = 1 := by kernel_rfl
theorem cells_string : Tryz.prog.cellsOf 9 = 1 := by kernel_rfl
theorem cells_int : Tryz.prog.cellsOf 3 = 1 := by kernel_rfl
theorem list2 {α : Type} {l : List α} (h : l.length = 2) : ∃ a b, l = [a, b] := by
  match l, h with | [a, b], _ => exact ⟨a, b, rfl⟩
theorem list3 {α : Type} {l : List α} (h : l.length = 3) : ∃ a b c, l = [a, b, c] := by
  match l, h with | [a, b, c], _ => exact ⟨a, b, c, rfl⟩
set_option maxRecDepth 100000 in
theorem trod_Int {fuel : Nat} {cs : List Value} {x : DataW H × List MemPlace} (h : DataW.trod enc Tryz.prog w base spare held fuel 27 cs = some x) : ∃ (b : Bool) (s : ByteArray), cs = [.bool b, .string s] ∧ s.size ≤ maxLen := by
  obtain ⟨y0, y1, n, _, hl, h0, h1⟩ := trod_struct2 Tryz.underlying27 h
  rw [cells_Int] at hl
  obtain ⟨c0, c1, rfl⟩ := list2 hl
  dsimp only at h0 h1
  rw [cells_bool] at h0
  rw [cells_string] at h1
  obtain ⟨b, hb, _⟩ := DataW.trod_bool Tryz.underlying4 h0
  obtain ⟨s, hs, _, hz⟩ := DataW.trod_string Tryz.underlying9 h1
  simp at hb hs
  subst hb hs
  exact ⟨b, s, rfl, hz⟩
set_option maxRecDepth 100000 in
theorem trod_Num {fuel : Nat} {cs : List Value} {x : DataW H × List MemPlace} (h : DataW.trod enc Tryz.prog w base spare held fuel 29 cs = some x) : ∃ (b : Bool) (s : ByteArray) (e : Int), cs = [.bool b, .string s, .int .i64 e] ∧ s.size ≤ maxLen := by
  obtain ⟨y0, y1, n, _, hl, h0, h1⟩ := trod_struct2 Tryz.underlying29 h
  rw [cells_Num] at hl
  obtain ⟨c0, c1, c2, rfl⟩ := list3 hl
  dsimp only at h0 h1
  rw [cells_Int] at h0
  rw [cells_int] at h1
  obtain ⟨b, s, hb, hz⟩ := trod_Int h0
  obtain ⟨e, he, _⟩ := DataW.trod_int Tryz.underlying3 h1
  simp at hb he
  obtain ⟨rfl, rfl⟩ := hb
  subst he
  exact ⟨b, s, e, rfl, hz⟩
end
section
variable {H : Type} {enc : TypeId × Value → H} {w : World}
theorem choose3 {α β γ : Type} [Inhabited α] [Inhabited β] [Inhabited γ] {p : Nat → Prop} {q : Nat → α → β → γ → Prop} (h : ∀ i, p i → ∃ a b c, q i a b c) : ∃ (f : Nat → α) (g : Nat → β) (k : Nat → γ), ∀ i, p i → q i (f i) (g i) (k i) := by
  have key : ∀ i, ∃ x : α × β × γ, p i → q i x.1 x.2.1 x.2.2 := fun i => by
    by_cases hp : p i
    · obtain ⟨a, b, c, hq⟩ := h i hp
      exact ⟨(a, b, c), fun _ => hq⟩
    · exact ⟨default, fun h => absurd h hp⟩
  exact ⟨fun i => (Classical.choose (key i)).1, fun i => (Classical.choose (key i)).2.1, fun i => (Classical.choose (key i)).2.2, fun i hi => Classical.choose_spec (key i) hi⟩
theorem addr_plain {a : Addr} {b : Bool} (h00 : w.cell? (a.add 0) = some (.bool b)) : ∃ blk off, a = ⟨blk, off, none⟩ := by
  obtain ⟨blk, off, sp⟩ := a
  cases sp with
  | none => exact ⟨blk, off, rfl⟩
  | some x =>
    exfalso
    simp only [Addr.add, if_true, World.cell?] at h00
    split at h00
    · simp at h00
    · cases h00
set_option maxRecDepth 100000 in
/-- A []api.Num that came in. -/
theorem open_Nums {r : Reach} {b0 : Nat} {v : Value} {d : DataW H} {ps : List MemPlace} (hval : Value.okWide Tryz.prog w r b0 38 v) (h : DataW.Trod enc Tryz.prog w 0 (fun _ => true) true 38 v d ps) :
    ∃ (A : Option Addr) (n c : Nat) (bs : Nat → Bool) (ss : Nat → ByteArray) (es : Nat → Int), v = .slice A n c ∧ (A = none → n = 0 ∧ c = 0) ∧ n ≤ c ∧ c ≤ maxLen ∧ RdN w A n bs ss es := by
  obtain ⟨A, n, c, rfl⟩ := okWide_slice Tryz.underlying38 hval
  obtain ⟨fuel, hf⟩ := h
  have hcs : (Value.slice A n c).cells.toList = [.slice A n c] := by simp [Value.cells]
  rw [hcs] at hf
  rcases open_slice Tryz.underlying38 hf with ⟨e1, _⟩ | ⟨a, len, cap, m, k, D, Pl, e1, _, hl, hm, hmm, _, hi⟩
  · simp at e1
    obtain ⟨rfl, rfl, rfl⟩ := e1
    exact ⟨none, 0, 0, fun _ => false, fun _ => ⟨#[]⟩, fun _ => 0, rfl, fun _ => ⟨rfl, rfl⟩, Nat.le_refl _, Nat.zero_le _, fun h => absurd h (by decide)⟩
  · simp at e1
    obtain ⟨rfl, rfl, rfl⟩ := e1
    simp only [if_true] at hmm
    rw [cells_Num] at hi
    obtain ⟨bs, ss, es, hk⟩ := choose3 (p := fun i => i < n) (q := fun i b s e => w.cell? ((a.add (i * 3)).add 0) = some (.bool b) ∧ w.cell? ((a.add (i * 3)).add 1) = some (.string s) ∧ w.cell? ((a.add (i * 3)).add 2) = some (.int .i64 e)) (fun i hin => by
      obtain ⟨cs', h1, h2⟩ := hi i (by omega)
      obtain ⟨b, s, e, rfl, _⟩ := trod_Num h2
      obtain ⟨_, _, hat⟩ := World.cells?_some h1
      exact ⟨b, s, e, hat 0 (by decide), hat 1 (by decide), hat 2 (by decide)⟩)
    refine ⟨some a, n, c, bs, ss, es, rfl, (fun h => by cases h), hl, hm, fun h0 => ?_⟩
    have h00 := (hk 0 h0).1
    rw [Nat.zero_mul, add_add] at h00
    obtain ⟨blk, off, rfl⟩ := addr_plain h00
    exact ⟨blk, off, rfl, fun j hj => by
      obtain ⟨h1, h2, h3⟩ := hk j hj
      rw [add_add, add_plain] at h1 h2 h3
      exact ⟨h1, by rw [Nat.add_assoc]; exact h2, by rw [Nat.add_assoc]; exact h3⟩⟩
end
end Go.Proofs.YtibbhpgpleeglaaGreatDoor

