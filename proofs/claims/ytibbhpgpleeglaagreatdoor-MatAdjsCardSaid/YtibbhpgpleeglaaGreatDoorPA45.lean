/- The walks and plain laws beneath the statements. -/
import Derived.Test.YtibbhpgpleeglaaGreatDoorPA44
import Derived.Test.YtibbhpgpleeglaaGreatDoorPA24
namespace Go.Proofs.YtibbhpgpleeglaaGreatDoor
open Go.RowKit Go.WideShapes Go.ChangeShapes Go.Deep
section
variable {H : Type} {enc : TypeId × Value → H} {w : World}
set_option maxRecDepth 100000 in
/-- A row of numbers that came in. -/
theorem trod_Nums {fuel : Nat} {cs : List Value} {x : DataW H × List MemPlace} (h : DataW.trod enc Tryz.prog w 0 (fun _ => true) true fuel 38 cs = some x) :
    ∃ (A : Option Addr) (n c : Nat) (bs : Nat → Bool) (ss : Nat → ByteArray) (es : Nat → Int), cs = [.slice A n c] ∧ (A = none → n = 0 ∧ c = 0) ∧ n ≤ c ∧ c ≤ maxLen ∧ RdN w A n bs ss es := by
  rcases open_slice Tryz.underlying38 h with ⟨e1, _⟩ | ⟨a, n, c, m, k, D, Pl, e1, _, hl, hm, hmm, _, hi⟩
  · exact ⟨none, 0, 0, fun _ => false, fun _ => ⟨#[]⟩, fun _ => 0, e1, fun _ => ⟨rfl, rfl⟩, Nat.le_refl _, Nat.zero_le _, fun h => absurd h (by decide)⟩
  · simp only [if_true] at hmm
    rw [cells_Num] at hi
    obtain ⟨bs, ss, es, hk⟩ := choose3 (p := fun i => i < n) (q := fun i b s e => w.cell? ((a.add (i * 3)).add 0) = some (.bool b) ∧ w.cell? ((a.add (i * 3)).add 1) = some (.string s) ∧ w.cell? ((a.add (i * 3)).add 2) = some (.int .i64 e)) (fun i hin => by
      obtain ⟨cs', h1, h2⟩ := hi i (by omega)
      obtain ⟨b, s, e, rfl, _⟩ := trod_Num h2
      obtain ⟨_, _, hat⟩ := World.cells?_some h1
      exact ⟨b, s, e, hat 0 (by decide), hat 1 (by decide), hat 2 (by decide)⟩)
    refine ⟨some a, n, c, bs, ss, es, e1, (fun h => by cases h), hl, hm, fun h0 => ?_⟩
    have h00 := (hk 0 h0).1
    rw [Nat.zero_mul, add_add] at h00
    obtain ⟨blk, off, rfl⟩ := addr_plain h00
    exact ⟨blk, off, rfl, fun j hj => by
      obtain ⟨h1, h2, h3⟩ := hk j hj
      rw [add_add, add_plain] at h1 h2 h3
      exact ⟨h1, by rw [Nat.add_assoc]; exact h2, by rw [Nat.add_assoc]; exact h3⟩⟩
theorem cells_Nums : Tryz.prog.cellsOf 38 = 1 := by kernel_rfl
theorem addr_plain' {a : Addr} {A : Option Addr} {n c : Nat} (h00 : w.cell? (a.add 0) = some (.slice A n c)) : ∃ blk off, a = ⟨blk, off, none⟩ := by
  obtain ⟨blk, off, sp⟩ := a
  cases sp with
  | none => exact ⟨blk, off, rfl⟩
  | some x =>
    exfalso
    simp only [Addr.add, if_true, World.cell?] at h00
    split at h00
    · simp at h00
    · cases h00
set_option maxRecDepth 100000 in
/-- A [][]api.Num that came in. -/
theorem open_Numss {r : Reach} {b0 : Nat} {v : Value} {d : DataW H} {ps : List MemPlace} (hval : Value.okWide Tryz.prog w r b0 22 v) (h : DataW.Trod enc Tryz.prog w 0 (fun _ => true) true 22 v d ps) :
    ∃ (A : Option Addr) (n c : Nat) (ms : Nat → Nat) (bs : Nat → Nat → Bool) (ss : Nat → Nat → ByteArray) (es : Nat → Nat → Int), v = .slice A n c ∧ (A = none → n = 0 ∧ c = 0) ∧ n ≤ c ∧ c ≤ maxLen ∧ (∀ i, i < n → ms i ≤ maxLen) ∧ RdM w A n ms bs ss es := by
  obtain ⟨A, n, c, rfl⟩ := okWide_slice Tryz.underlying22 hval
  obtain ⟨fuel, hf⟩ := h
  have hcs : (Value.slice A n c).cells.toList = [.slice A n c] := by simp [Value.cells]
  rw [hcs] at hf
  rcases open_slice Tryz.underlying22 hf with ⟨e1, _⟩ | ⟨a, len, cap, m, k, D, Pl, e1, _, hl, hm, hmm, _, hi⟩
  · simp at e1
    obtain ⟨rfl, rfl, rfl⟩ := e1
    exact ⟨none, 0, 0, fun _ => 0, fun _ _ => false, fun _ _ => ⟨#[]⟩, fun _ _ => 0, rfl, fun _ => ⟨rfl, rfl⟩, Nat.le_refl _, Nat.zero_le _, fun i hi => absurd hi (by omega), fun h => absurd h (by decide)⟩
  · simp at e1
    obtain ⟨rfl, rfl, rfl⟩ := e1
    simp only [if_true] at hmm
    rw [cells_Nums] at hi
    have key : ∀ i, ∃ x : (Option Addr × Nat × Nat) × (Nat → Bool) × (Nat → ByteArray) × (Nat → Int), i < n → w.cell? ((a.add (i * 1)).add 0) = some (.slice x.1.1 x.1.2.1 x.1.2.2) ∧ (x.1.1 = none → x.1.2.1 = 0 ∧ x.1.2.2 = 0) ∧ x.1.2.1 ≤ x.1.2.2 ∧ x.1.2.2 ≤ maxLen ∧ RdN w x.1.1 x.1.2.1 x.2.1 x.2.2.1 x.2.2.2 := fun i => by
      by_cases hin : i < n
      · obtain ⟨cs', h1, h2⟩ := hi i (by omega)
        obtain ⟨Ai, ni, ci, bs, ss, es, rfl, q1, q2, q3, q4⟩ := trod_Nums h2
        obtain ⟨_, _, hat⟩ := World.cells?_some h1
        exact ⟨⟨⟨Ai, ni, ci⟩, bs, ss, es⟩, fun _ => ⟨hat 0 (by decide), q1, q2, q3, q4⟩⟩
      · exact ⟨⟨⟨none, 0, 0⟩, fun _ => false, fun _ => ⟨#[]⟩, fun _ => 0⟩, fun h => absurd h hin⟩
    obtain ⟨X, hX⟩ : ∃ X : Nat → (Option Addr × Nat × Nat) × (Nat → Bool) × (Nat → ByteArray) × (Nat → Int), ∀ i, i < n → w.cell? ((a.add (i * 1)).add 0) = some (.slice (X i).1.1 (X i).1.2.1 (X i).1.2.2) ∧ ((X i).1.1 = none → (X i).1.2.1 = 0 ∧ (X i).1.2.2 = 0) ∧ (X i).1.2.1 ≤ (X i).1.2.2 ∧ (X i).1.2.2 ≤ maxLen ∧ RdN w (X i).1.1 (X i).1.2.1 (X i).2.1 (X i).2.2.1 (X i).2.2.2 :=
      ⟨fun i => Classical.choose (key i), fun i hi => Classical.choose_spec (key i) hi⟩
    refine ⟨some a, n, c, fun i => (X i).1.2.1, fun i => (X i).2.1, fun i => (X i).2.2.1, fun i => (X i).2.2.2, rfl, (fun h => by cases h), hl, hm, fun i hi => Nat.le_trans (hX i hi).2.2.1 (hX i hi).2.2.2.1, fun h0 => ?_⟩
    have h00 := (hX 0 h0).1
    rw [Nat.zero_mul, add_add] at h00
    obtain ⟨blk, off, rfl⟩ := addr_plain' h00
    exact ⟨blk, off, rfl, fun i hi => by
      obtain ⟨h1, h2, h3, h4, h5⟩ := hX i hi
      rw [add_add, add_plain, Nat.mul_one, Nat.add_zero] at h1
      exact ⟨(X i).1.1, (X i).1.2.2, h3, h2, h1, RdN.cel h5⟩⟩
end
end Go.Proofs.YtibbhpgpleeglaaGreatDoor

