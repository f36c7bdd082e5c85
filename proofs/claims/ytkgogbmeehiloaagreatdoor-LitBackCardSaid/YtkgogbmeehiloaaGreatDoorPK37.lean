/- The walks and plain laws beneath the statements. -/
import Derived.Test.YtkgogbmeehiloaaGreatDoorPK36
namespace Go.Proofs.YtkgogbmeehiloaaGreatDoor
open Go Go.RowKit Go.Lib

theorem isL (t : ByteArray) (x : Dyadic) (W : World) (hs : t.size ≤ 60000) (hl : litV t.data.toList = (x, 0, 0)) (hT : Tab0 W) : Calls Tryz.prog 23 #[.string t, .agg #[.bool (neg (dm x)), .string (mag (dm x)), .int .i64 (de x)]] W fun r w' => r = .returned (.bool true) ∧ Below W.heap.size W w' := (is_r hs hl W hT).at
end Go.Proofs.YtkgogbmeehiloaaGreatDoor

