/- The walks and plain laws beneath the statements. -/
import Derived.Test.YtkgogbmeehiloaaDoorProg
import Derived.Test.YtkgogbmeehiloaaDoorPB3
namespace Go.Proofs.YtkgogbmeehiloaaDoor
open Go
def tt : List (Nat × TI) := [(23, ⟨2, [.bool false, .string ⟨#[]⟩], .struct [(0, 1, some false), (1, 1, some false)]⟩), (3, ⟨1, [.int .i64 0], .int .i64⟩), (2, ⟨1, [.int .i64 0], .int .i64⟩), (4, ⟨1, [.bool false], .bool⟩), (9, ⟨1, [.string ⟨#[]⟩], .str⟩), (5, ⟨1, [.int .u8 0], .int .u8⟩), (44, ⟨2, [.string ⟨#[]⟩, .bool false], .struct [(0, 1, some false), (1, 1, some false)]⟩), (42, ⟨1, [.string ⟨#[]⟩], .str⟩), (51, ⟨1, [.int .u64 0], .int .u64⟩), (52, ⟨1, [.slice none 0 0], .slice 9 1 (some false)⟩), (21, ⟨1, [.int .i32 0], .int .i32⟩), (33, ⟨1, [.slice none 0 0], .slice 5 1 (some false)⟩), (26, ⟨1, [.int .i64 0], .int .i64⟩), (27, ⟨1, [.tuple { toList := [.agg { toList := [.bool false, .string ⟨#[]⟩] }, .int .i64 0, .int .i64 0] }], .other⟩), (39, ⟨1, [.tuple { toList := [.string ⟨#[]⟩, .bool false] }], .other⟩), (48, ⟨1, [.slice none 0 0], .slice 23 2 (some true)⟩), (53, ⟨1, [.tuple { toList := [.string ⟨#[]⟩, .string ⟨#[]⟩, .bool false] }], .other⟩)]
set_option maxRecDepth 100000 in
theorem ttOk : TTOk Tryd.prog tt := tt_ok (by kernel_rfl)
theorem mixed : Tryd.prog.follows .mixedOrders = true := by kernel_rfl
end Go.Proofs.YtkgogbmeehiloaaDoor

