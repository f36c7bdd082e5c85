/- The walks and plain laws beneath the statements. -/
import Derived.Test.YtkgogbmeehiloaaDoorPB27
import Derived.Test.YtkgogbmeehiloaaDoorPB14
import Derived.Deep.Slices
import Derived.Deep.Fields
import Derived.ChangeSame
import Derived.Lib.SmallJoins
namespace Go.Proofs.YtkgogbmeehiloaaDoor
open Go.RowKit Go.WideShapes Go.ChangeShapes Go.Deep
section
variable {H : Type} {enc : TypeId × Value → H} {w : World}
theorem cells_Int : Tryd.prog.cellsOf 23 = 2 := by kernel_rfl
set_option maxRecDepth 100000 in
/-- An api.Int that came in. -/
theorem open_Int {r : Reach} {b0 : Nat} {v : Value} {d : DataW H} {ps : List MemPlace} (hval : Value.okWide Tryd.prog w r b0 23 v) (h : DataW.Trod enc Tryd.prog w 0 (fun _ => true) true 23 v d ps) :
    ∃ (b : Bool) (s : ByteArray), v = .agg #[.bool b, .string s] ∧ s.size ≤ maxLen := by
  obtain ⟨v0, v1, y0, y1, n, rfl, _, _, h0, h1⟩ := Go.Joins.open_agg2 Tryd.underlying23 (by kernel_rfl) cells_Int hval h
  obtain ⟨b, hb, _⟩ := DataW.trod_bool Tryd.underlying4 h0
  obtain ⟨s, hs, _, hz⟩ := DataW.trod_string Tryd.underlying9 h1
  simp at hb hs
  subst hb hs
  exact ⟨b, s, rfl, hz⟩
end
end Go.Proofs.YtkgogbmeehiloaaDoor

