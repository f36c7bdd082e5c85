/- The walks and plain laws beneath the statements. -/
import Derived.Test.YtibbhpgpleeglaaGreatDoorProg
import Derived.Test.YtibbhpgpleeglaaGreatDoorPA11
namespace Go.Proofs.YtibbhpgpleeglaaGreatDoor
open Go
def tt : List (Nat × TI) := [(29, ⟨3, [.bool false, .string ⟨#[]⟩, .int .i64 0], .struct [(0, 2, some true), (2, 1, some false)]⟩), (27, ⟨2, [.bool false, .string ⟨#[]⟩], .struct [(0, 1, some false), (1, 1, some false)]⟩), (3, ⟨1, [.int .i64 0], .int .i64⟩), (2, ⟨1, [.int .i64 0], .int .i64⟩), (4, ⟨1, [.bool false], .bool⟩), (9, ⟨1, [.string ⟨#[]⟩], .str⟩), (38, ⟨1, [.slice none 0 0], .slice 29 3 (some true)⟩), (5, ⟨1, [.int .u8 0], .int .u8⟩), (106, ⟨5, [.int .i64 0, .bool false, .string ⟨#[]⟩, .bool false, .string ⟨#[]⟩], .struct [(0, 1, some false), (1, 2, some true), (3, 2, some true)]⟩), (83, ⟨2, [.string ⟨#[]⟩, .bool false], .struct [(0, 1, some false), (1, 1, some false)]⟩), (81, ⟨1, [.string ⟨#[]⟩], .str⟩), (88, ⟨1, [.int .u64 0], .int .u64⟩), (98, ⟨1, [.slice none 0 0], .slice 9 1 (some false)⟩), (21, ⟨1, [.int .i32 0], .int .i32⟩), (101, ⟨1, [.slice none 0 0], .slice 5 1 (some false)⟩), (30, ⟨1, [.int .i64 0], .int .i64⟩), (99, ⟨1, [.tuple { toList := [.string ⟨#[]⟩, .bool false] }], .other⟩), (68, ⟨1, [.slice none 0 0], .slice 27 2 (some true)⟩), (22, ⟨1, [.slice none 0 0], .slice 38 1 (some false)⟩), (53, ⟨1, [.slice none 0 0], .slice 68 1 (some false)⟩), (94, ⟨1, [.tuple { toList := [.string ⟨#[]⟩, .string ⟨#[]⟩, .bool false] }], .other⟩)]
set_option maxRecDepth 100000 in
theorem ttOk : TTOk Tryz.prog tt := tt_ok (by kernel_rfl)
theorem mixed : Tryz.prog.follows .mixedOrders = true := by kernel_rfl
end Go.Proofs.YtibbhpgpleeglaaGreatDoor

