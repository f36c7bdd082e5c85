/- The walks and plain laws beneath the statements. -/
import Derived.Test.YtchfglbkiebfpaaGreatDoorProg
import Derived.Test.YtchfglbkiebfpaaGreatDoorPX2
namespace Go.Proofs.YtchfglbkiebfpaaGreatDoor
open Go
def tt : List (Nat × TI) := [(25, ⟨3, [.bool false, .string ⟨#[]⟩, .int .i64 0], .struct [(0, 2, some true), (2, 1, some false)]⟩), (27, ⟨6, [.bool false, .string ⟨#[]⟩, .int .i64 0, .bool false, .string ⟨#[]⟩, .int .i64 0], .struct [(0, 3, some true), (3, 3, some true)]⟩), (23, ⟨2, [.bool false, .string ⟨#[]⟩], .struct [(0, 1, some false), (1, 1, some false)]⟩), (3, ⟨1, [.int .i64 0], .int .i64⟩), (2, ⟨1, [.int .i64 0], .int .i64⟩), (4, ⟨1, [.bool false], .bool⟩), (9, ⟨1, [.string ⟨#[]⟩], .str⟩), (55, ⟨1, [.slice none 0 0], .slice 25 3 (some true)⟩), (5, ⟨1, [.int .u8 0], .int .u8⟩), (28, ⟨1, [.slice none 0 0], .slice 27 6 (some true)⟩), (88, ⟨6, [.bool false, .string ⟨#[]⟩, .int .i64 0, .bool false, .string ⟨#[]⟩, .int .i64 0], .struct [(0, 6, some true)]⟩), (104, ⟨5, [.int .i64 0, .bool false, .string ⟨#[]⟩, .bool false, .string ⟨#[]⟩], .struct [(0, 1, some false), (1, 2, some true), (3, 2, some true)]⟩), (137, ⟨2, [.string ⟨#[]⟩, .bool false], .struct [(0, 1, some false), (1, 1, some false)]⟩), (135, ⟨1, [.string ⟨#[]⟩], .str⟩), (91, ⟨12, [.bool false, .string ⟨#[]⟩, .int .i64 0, .bool false, .string ⟨#[]⟩, .int .i64 0, .bool false, .string ⟨#[]⟩, .int .i64 0, .bool false, .string ⟨#[]⟩, .int .i64 0], .array 4 25 3 (some true)⟩)]
set_option maxRecDepth 100000 in
theorem ttOk : TTOk Tryz.prog tt := tt_ok (by kernel_rfl)
theorem mixed : Tryz.prog.follows .mixedOrders = true := by kernel_rfl
end Go.Proofs.YtchfglbkiebfpaaGreatDoor

