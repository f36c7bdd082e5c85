/- The walks and plain laws beneath the statements. -/
import Derived.Test.YtchfglbkiebfpaaGreatDoorPX35
import Derived.Test.YtchfglbkiebfpaaGreatDoorPX23
namespace Go.Proofs.YtchfglbkiebfpaaGreatDoor
open Go.RowKit Go.WideShapes Go.ChangeShapes Go.Deep
section
variable {H : Type} {enc : TypeId × Value → H} {w : World} {base : Nat} {spare : Nat → Bool} {held : Bool}
theorem cells_Num : Tryz.prog.cellsOf 25 = 3 := by kernel_rfl
theorem cells_Span : Tryz.prog.cellsOf 27 = 6 := by kernel_rfl
theorem cells_bool : Tryz.prog.cellsOf 4 = 1 := by kernel_rfl
theorem cells_string : Tryz.prog.cellsOf 9 = 1 := by kernel_rfl
theorem cells_int : Tryz.prog.cellsOf 3 = 1 := by kernel_rfl
theorem list2 {α : Type} {l : List α} (h : l.length = 2) : ∃ a b, l = [a, b] := by
  match l, h with | [a, b], _ => exact ⟨a, b, rfl⟩
theorem list3 {α : Type} {l : List α} (h : l.length = 3) : ∃ a b c, l = [a, b, c] := by
  match l, h with | [a, b, c], _ => exact ⟨a, b, c, rfl⟩
theorem list6 {α : Type} {l : List α} (h : l.length = 6) : ∃ a b c d e f, l = [a, b, c, d, e, f] := by
  match l, h with | [a, b, c, d, e, f], _ => exact ⟨a, b, c, d, e, f, rfl⟩
set_option maxRecDepth 100000 in
theorem trod_Int {fuel : Nat} {cs : List Value} {x : DataW H × List MemPlace} (h : DataW.trod enc Tryz.prog w base spare held fuel 23 cs = some x) : ∃ (b : Bool) (s : ByteArray), cs = [.bool b, .string s] ∧ s.size ≤ maxLen := by
  obtain ⟨y0, y1, n, _, hl, h0, h1⟩ := trod_struct2 Tryz.underlying23 h
  rw [cells_Int] at hl
  obtain ⟨c0, c1, rfl⟩ := list2 hl
  dsimp only at h0 h1
  rw [cells_bool] at h0
  rw [cells_string] at h1
  obtain ⟨b, hb, _⟩ := DataW.trod_bool Tryz.underlying4 h0
  obtain ⟨s, hs, _, hz⟩ := DataW.trod_string Tryz.underlying9 h1
  simp at hb hs
  subst hb hs
  exact ⟨b, s, rfl, hz⟩
set_option maxRecDepth 100000 in
theorem trod_Num {fuel : Nat} {cs : List Value} {x : DataW H × List MemPlace} (h : DataW.trod enc Tryz.prog w base spare held fuel 25 cs = some x) : ∃ (b : Bool) (s : ByteArray) (e : Int), cs = [.bool b, .string s, .int .i64 e] ∧ s.size ≤ maxLen := by
  obtain ⟨y0, y1, n, _, hl, h0, h1⟩ := trod_struct2 Tryz.underlying25 h
  rw [cells_Num] at hl
  obtain ⟨c0, c1, c2, rfl⟩ := list3 hl
  dsimp only at h0 h1
  rw [cells_Int] at h0
  rw [cells_int] at h1
  obtain ⟨b, s, hb, hz⟩ := trod_Int h0
  obtain ⟨e, he, _⟩ := DataW.trod_int Tryz.underlying3 h1
  simp at hb he
  obtain ⟨rfl, rfl⟩ := hb
  subst he
  exact ⟨b, s, e, rfl, hz⟩
set_option maxRecDepth 100000 in
theorem trod_Span {fuel : Nat} {cs : List Value} {x : DataW H × List MemPlace} (h : DataW.trod enc Tryz.prog w base spare held fuel 27 cs = some x) :
    ∃ (b : Bool) (s : ByteArray) (e : Int) (c : Bool) (t : ByteArray) (f : Int), cs = [.bool b, .string s, .int .i64 e, .bool c, .string t, .int .i64 f] := by
  obtain ⟨y0, y1, n, _, hl, h0, h1⟩ := trod_struct2 Tryz.underlying27 h
  rw [cells_Span] at hl
  obtain ⟨c0, c1, c2, c3, c4, c5, rfl⟩ := list6 hl
  dsimp only at h0 h1
  rw [cells_Num] at h0 h1
  obtain ⟨b, s, e, hb, _⟩ := trod_Num h0
  obtain ⟨c, t, f, hc, _⟩ := trod_Num h1
  simp at hb hc
  obtain ⟨rfl, rfl, rfl⟩ := hb
  obtain ⟨rfl, rfl, rfl⟩ := hc
  exact ⟨b, s, e, c, t, f, rfl⟩
end
section
variable {H : Type} {enc : TypeId × Value → H} {w : World}
set_option maxRecDepth 100000 in
/-- An api.Num that came in. -/
theorem open_Num {r : Reach} {b0 : Nat} {v : Value} {d : DataW H} {ps : List MemPlace} (hval : Value.okWide Tryz.prog w r b0 25 v) (h : DataW.Trod enc Tryz.prog w 0 (fun _ => true) true 25 v d ps) :
    ∃ (b : Bool) (s : ByteArray) (e : Int), v = .agg #[.bool b, .string s, .int .i64 e] := by
  obtain ⟨cs, rfl, hsz⟩ := okWide_struct Tryz.underlying25 hval
  obtain ⟨fuel, hf⟩ := h
  obtain ⟨b, s, e, he, _⟩ := trod_Num hf
  exact ⟨b, s, e, congrArg Value.agg (Array.toList_inj.1 he)⟩
set_option maxRecDepth 100000 in
/-- An api.Span that came in. -/
theorem open_Span {r : Reach} {b0 : Nat} {v : Value} {d : DataW H} {ps : List MemPlace} (hval : Value.okWide Tryz.prog w r b0 27 v) (h : DataW.Trod enc Tryz.prog w 0 (fun _ => true) true 27 v d ps) :
    ∃ (b : Bool) (s : ByteArray) (e : Int) (c : Bool) (t : ByteArray) (f : Int), v = .agg #[.bool b, .string s, .int .i64 e, .bool c, .string t, .int .i64 f] := by
  obtain ⟨cs, rfl, hsz⟩ := okWide_struct Tryz.underlying27 hval
  obtain ⟨fuel, hf⟩ := h
  obtain ⟨b, s, e, c, t, f, he⟩ := trod_Span hf
  exact ⟨b, s, e, c, t, f, congrArg Value.agg (Array.toList_inj.1 he)⟩
end
end Go.Proofs.YtchfglbkiebfpaaGreatDoor

