/- Arguments of the type api.Int, []api.Int, opened. -/
import Derived.Test.YtmnmfidcldmhdaaDoorRowB
import Derived.Test.YtmnmfidcldmhdaaDoorWholeD
import Derived.Deep.Slices
import Derived.Deep.Fields
import Derived.ChangeSame
import Derived.Lib.SmallJoins
namespace Go.Proofs.YtmnmfidcldmhdaaDoor
open Go.RowKit Go.WideShapes Go.ChangeShapes Go.Deep
section
variable {H : Type} {enc : TypeId × Value → H} {P : Program} {w : World} {base : Nat} {spare : Nat → Bool} {held : Bool}
theorem open_slice_fields {t e : TypeId} {fs : Array Field} {fuel : Nat} {cs : List Value} {x : DataW H × List MemPlace} (ht : P.underlying t = some (.slice e)) (he : P.underlying e = some (.struct fs))
    (hone : oneCellFields P fs = true) (hC : P.cellsOf e = fs.size) (h : DataW.trod enc P w base spare held fuel t cs = some x) :
    (cs = [.slice none 0 0] ∧ x = (.nil, [])) ∨
    ∃ (a : Addr) (len cap m : Nat) (D : Nat → DataW H) (Pl : Nat → List MemPlace), cs = [.slice (some a) len cap] ∧ base ≤ a.block ∧ len ≤ cap ∧ cap ≤ maxLen ∧ m = (if spare a.block then cap else len) ∧
      x = (.slice ((List.range len).map D) ((List.range (m - len)).map fun j => D (len + j)), MemPlace.row a (m * fs.size) ++ (List.range m).flatMap Pl) ∧
      ∀ i, i < m → ∃ (ys : List (DataW H × List MemPlace)) (n : Nat), D i = .agg (ys.map (·.1)) ∧ Pl i = ys.flatMap (·.2) ∧ ys.length = fs.size ∧
        ∀ (j : Nat) (f : Field), fs[j]? = some f → ∃ (v : Value) (y : DataW H × List MemPlace), w.cell? (a.add (i * fs.size + j)) = some v ∧ ys[j]? = some y ∧ DataW.trod enc P w base spare held n f.type [v] = some y := by
  rcases open_slice ht h with h0 | ⟨a, len, cap, m, n, D, Pl, hcs, hb, hl, hm, hmm, hx, hi⟩
  · exact .inl h0
  · refine .inr ⟨a, len, cap, m, D, Pl, hcs, hb, hl, hm, hmm, by rw [hC] at hx; exact hx, fun i him => ?_⟩
    obtain ⟨cs', hc, ht'⟩ := hi i him
    rw [hC] at hc
    obtain ⟨ys, n', hn', hy, hlen, hyl, hf⟩ := DataW.trod_struct he ht'
    obtain ⟨_, hcl, hat⟩ := World.cells?_some hc
    simp only [Prod.mk.injEq] at hy
    refine ⟨ys, n', hy.1, hy.2, hyl, fun j f hj => ?_⟩
    obtain ⟨ho, hk⟩ := hone_of hone j f hj
    have hjl : j < fs.size := (Array.getElem?_eq_some_iff.1 hj).1
    have hcell := hat j hjl
    have hv : cs'[j]? = some (cs'[j]'(by omega)) := List.getElem?_eq_getElem (by omega)
    have h1 := hf j f hj
    rw [ho, hk] at h1
    have hone' : (cs'.drop j).take 1 = [cs'[j]'(by omega)] := by
      rw [List.drop_eq_getElem_cons (by omega)]
      rfl
    rw [hone'] at h1
    have hys : ys[j]? = some (ys[j]'(by omega)) := List.getElem?_eq_getElem (by omega)
    refine ⟨_, _, ?_, hys, h1.trans hys⟩
    rw [← Go.Deep.add_add, hcell, hv]
end
section
variable {H : Type} {enc : TypeId × Value → H} {w : World}
theorem cells_Int : Tryd.prog.cellsOf 26 = 2 := by kernel_rfl
set_option maxRecDepth 100000 in
/-- An api.Int that came in. -/
theorem open_Int {r : Reach} {b0 : Nat} {v : Value} {d : DataW H} {ps : List MemPlace} (hval : Value.okWide Tryd.prog w r b0 26 v) (h : DataW.Trod enc Tryd.prog w 0 (fun _ => true) true 26 v d ps) :
    ∃ (b : Bool) (s : ByteArray), v = .agg #[.bool b, .string s] ∧ s.size ≤ maxLen := by
  obtain ⟨v0, v1, y0, y1, n, rfl, _, _, h0, h1⟩ := Go.Joins.open_agg2 Tryd.underlying26 (by kernel_rfl) cells_Int hval h
  obtain ⟨b, hb, _⟩ := DataW.trod_bool Tryd.underlying4 h0
  obtain ⟨s, hs, _, hz⟩ := DataW.trod_string Tryd.underlying9 h1
  simp at hb hs
  subst hb hs
  exact ⟨b, s, rfl, hz⟩
set_option maxRecDepth 100000 in
/-- A []api.Int that came in. -/
theorem open_Ints {r : Reach} {b0 : Nat} {v : Value} {d : DataW H} {ps : List MemPlace} (hval : Value.okWide Tryd.prog w r b0 22 v) (h : DataW.Trod enc Tryd.prog w 0 (fun _ => true) true 22 v d ps) :
    ∃ (A : Option Addr) (n c : Nat) (bs : Nat → Bool) (ss : Nat → ByteArray), v = .slice A n c ∧ (A = none → n = 0 ∧ c = 0) ∧ n ≤ c ∧ c ≤ maxLen ∧ RdI w A n bs ss := by
  obtain ⟨A, n, c, rfl⟩ := okWide_slice Tryd.underlying22 hval
  obtain ⟨fuel, hf⟩ := h
  have hcs : (Value.slice A n c).cells.toList = [.slice A n c] := by simp [Value.cells]
  rw [hcs] at hf
  rcases open_slice_fields Tryd.underlying22 Tryd.underlying26 (by kernel_rfl) cells_Int hf with ⟨e1, _⟩ | ⟨a, len, cap, m, D, Pl, e1, _, hl, hm, hmm, _, hi⟩
  · simp at e1
    obtain ⟨rfl, rfl, rfl⟩ := e1
    exact ⟨none, 0, 0, fun _ => false, fun _ => ⟨#[]⟩, rfl, fun _ => ⟨rfl, rfl⟩, Nat.le_refl _, Nat.zero_le _, fun h => absurd h (by decide)⟩
  · simp at e1
    obtain ⟨rfl, rfl, rfl⟩ := e1
    simp only [if_true] at hmm
    have key : ∀ i, ∃ (b : Bool) (s : ByteArray), i < n → w.cell? (a.add (i * 2)) = some (.bool b) ∧ w.cell? (a.add (i * 2 + 1)) = some (.string s) := fun i => by
      by_cases hin : i < n
      · obtain ⟨ys, k, _, _, _, hf⟩ := hi i (by omega)
        obtain ⟨v0, y0, c0, _, t0⟩ := hf 0 _ rfl
        obtain ⟨v1, y1, c1, _, t1⟩ := hf 1 _ rfl
        obtain ⟨b, hb, _⟩ := DataW.trod_bool Tryd.underlying4 t0
        obtain ⟨s, hs, _⟩ := DataW.trod_string Tryd.underlying9 t1
        simp at hb hs
        subst hb hs
        exact ⟨b, s, fun _ => ⟨c0, c1⟩⟩
      · exact ⟨false, ⟨#[]⟩, fun h => absurd h hin⟩
    obtain ⟨bs, key2⟩ : ∃ bs : Nat → Bool, ∀ i, ∃ s : ByteArray, i < n → w.cell? (a.add (i * 2)) = some (.bool (bs i)) ∧ w.cell? (a.add (i * 2 + 1)) = some (.string s) := ⟨fun i => Classical.choose (key i), fun i => Classical.choose_spec (key i)⟩
    obtain ⟨ss, hk⟩ : ∃ ss : Nat → ByteArray, ∀ i, i < n → w.cell? (a.add (i * 2)) = some (.bool (bs i)) ∧ w.cell? (a.add (i * 2 + 1)) = some (.string (ss i)) := ⟨fun i => Classical.choose (key2 i), fun i => Classical.choose_spec (key2 i)⟩
    refine ⟨some a, n, c, bs, ss, rfl, (fun h => by cases h), hl, hm, fun h0 => ?_⟩
    obtain ⟨b, off, sp⟩ := a
    have h00 := (hk 0 h0).1
    obtain rfl : sp = none := by
      cases sp with
      | none => rfl
      | some x =>
        exfalso
        simp only [Addr.add, Nat.zero_mul, if_true, World.cell?] at h00
        split at h00
        · simp at h00
        · cases h00
    exact ⟨b, off, rfl, fun j hj => by
      have h1 := (hk j hj).1
      have h2 := (hk j hj).2
      rw [add_plain] at h1 h2
      exact ⟨h1, by rw [Nat.add_assoc]; exact h2⟩⟩
end
end Go.Proofs.YtmnmfidcldmhdaaDoor
