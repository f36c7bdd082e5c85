/- The walks and plain laws beneath the statements. -/
import Derived.Test.YtkgogbmeehiloaaGreatDoorProg
import Derived.Test.YtkgogbmeehiloaaGreatDoorPK3
namespace Go.Proofs.YtkgogbmeehiloaaGreatDoor
open Go
def tt : List (Nat × TI) := [(38, ⟨3, [.bool false, .string ⟨#[]⟩, .int .i64 0], .struct [(0, 2, some true), (2, 1, some false)]⟩), (24, ⟨2, [.bool false, .string ⟨#[]⟩], .struct [(0, 1, some false), (1, 1, some false)]⟩), (3, ⟨1, [.int .i64 0], .int .i64⟩), (2, ⟨1, [.int .i64 0], .int .i64⟩), (4, ⟨1, [.bool false], .bool⟩), (9, ⟨1, [.string ⟨#[]⟩], .str⟩), (35, ⟨1, [.slice none 0 0], .slice 38 3 (some true)⟩), (5, ⟨1, [.int .u8 0], .int .u8⟩), (83, ⟨2, [.string ⟨#[]⟩, .bool false], .struct [(0, 1, some false), (1, 1, some false)]⟩), (81, ⟨1, [.string ⟨#[]⟩], .str⟩), (65, ⟨1, [.int .u64 0], .int .u64⟩), (66, ⟨1, [.slice none 0 0], .slice 9 1 (some false)⟩), (21, ⟨1, [.int .i32 0], .int .i32⟩), (69, ⟨1, [.slice none 0 0], .slice 5 1 (some false)⟩), (25, ⟨1, [.int .i64 0], .int .i64⟩), (26, ⟨1, [.tuple { toList := [.agg { toList := [.bool false, .string ⟨#[]⟩] }, .int .i64 0, .int .i64 0] }], .other⟩), (48, ⟨1, [.tuple { toList := [.agg { toList := [.bool false, .string ⟨#[]⟩, .int .i64 0] }, .int .i64 0, .int .i64 0] }], .other⟩), (58, ⟨1, [.tuple { toList := [.string ⟨#[]⟩, .bool false] }], .other⟩), (28, ⟨1, [.tuple { toList := [.agg { toList := [.bool false, .string ⟨#[]⟩] }, .int .i64 0] }], .other⟩), (156, ⟨1, [.slice none 0 0], .slice 24 2 (some true)⟩), (67, ⟨1, [.tuple { toList := [.string ⟨#[]⟩, .string ⟨#[]⟩, .bool false] }], .other⟩)]
set_option maxRecDepth 100000 in
theorem ttOk : TTOk Tryz.prog tt := tt_ok (by kernel_rfl)
theorem mixed : Tryz.prog.follows .mixedOrders = true := by kernel_rfl
end Go.Proofs.YtkgogbmeehiloaaGreatDoor

