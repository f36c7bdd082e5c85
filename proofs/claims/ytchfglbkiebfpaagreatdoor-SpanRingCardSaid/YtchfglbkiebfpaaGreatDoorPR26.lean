/- The walks and plain laws beneath the statements. -/
import Derived.Test.YtchfglbkiebfpaaGreatDoorProg
import Derived.Test.YtchfglbkiebfpaaGreatDoorPR25
namespace Go.Proofs.YtchfglbkiebfpaaGreatDoor
open Go
def tt : List (Nat × TI) := [(25, ⟨3, [.bool false, .string ⟨#[]⟩, .int .i64 0], .struct [(0, 2, some true), (2, 1, some false)]⟩), (27, ⟨6, [.bool false, .string ⟨#[]⟩, .int .i64 0, .bool false, .string ⟨#[]⟩, .int .i64 0], .struct [(0, 3, some true), (3, 3, some true)]⟩), (23, ⟨2, [.bool false, .string ⟨#[]⟩], .struct [(0, 1, some false), (1, 1, some false)]⟩), (3, ⟨1, [.int .i64 0], .int .i64⟩), (2, ⟨1, [.int .i64 0], .int .i64⟩), (4, ⟨1, [.bool false], .bool⟩), (9, ⟨1, [.string ⟨#[]⟩], .str⟩), (55, ⟨1, [.slice none 0 0], .slice 25 3 (some true)⟩), (5, ⟨1, [.int .u8 0], .int .u8⟩), (28, ⟨1, [.slice none 0 0], .slice 27 6 (some true)⟩)]
theorem mixed : Tryz.prog.follows .mixedOrders = true := by kernel_rfl
end Go.Proofs.YtchfglbkiebfpaaGreatDoor

