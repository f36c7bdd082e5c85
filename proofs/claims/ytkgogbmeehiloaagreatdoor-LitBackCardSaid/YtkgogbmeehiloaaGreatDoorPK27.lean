/- The walks and plain laws beneath the statements. -/
import Derived.Test.YtkgogbmeehiloaaGreatDoorPK16
import Derived.Shelf.Strings.Builder1
import Derived.Test.YtkgogbmeehiloaaGreatDoorPK2
namespace Go.Proofs.YtkgogbmeehiloaaGreatDoor
open Go Go.Shelf Go.RowKit

def renW : Ren := ⟨fun | 166 => 70 | 240 => 106 | 276 => 126 | n => n, fun | 0 => 0 | 3 => 3 | 4 => 4 | 5 => 5 | 9 => 9 | 20 => 20 | 37 => 69 | 70 => 93 | 72 => 95 | 75 => 97 | 80 => 100 | 164 => 144 | n => n, fun | n => n⟩
def aggD : TypeDesc → Bool
  | .struct _ => true
  | .array _ _ => true
  | _ => false
theorem ag_of {P : Program} {t : TypeId} {b : Bool} (h : (P.underlying t).map aggD = some b) (w : World) : (isAgg t).run P w = .ok b w := by
  cases e : P.underlying t with
  | none => rw [e] at h; cases h
  | some d =>
    rw [e] at h
    obtain rfl : aggD d = b := Option.some.inj h
    unfold isAgg
    rw [Sem.run_bind, und_run e]
    cases d <;> rfl
theorem sz_of {P : Program} {t : TypeId} {n : Nat} (h : (P.info? t).map (·.size) = some n) (w : World) : (Go.sizeOf t).run P w = .ok n w := by
  cases e : P.info? t with
  | none => rw [e] at h; cases h
  | some i =>
    rw [e] at h
    obtain rfl := Option.some.inj h
    simp [Go.sizeOf, typeInfo, e]
theorem zv_of {P : Program} {t : TypeId} {z : Value} (h : (P.info? t).bind (·.zero) = some z) (w : World) : (zeroValue t).run P w = .ok z w := by
  cases e : P.info? t with
  | none => rw [e] at h; cases h
  | some i =>
    rw [e] at h
    have h2 : i.zero = some z := h
    simp [zeroValue, typeInfo, e, h2]
theorem laysW : Go.Proofs.Lays.n166 Tryz.prog renW := {
  mixed := by kernel_rfl
  f166 := by kernel_rfl
  f240 := by kernel_rfl
  f276 := by kernel_rfl
  t0 := by kernel_rfl
  a0 := ag_of (by kernel_rfl)
  z0 := sz_of (by kernel_rfl)
  v0 := zv_of (by kernel_rfl)
  t3 := by kernel_rfl
  a3 := ag_of (by kernel_rfl)
  z3 := sz_of (by kernel_rfl)
  v3 := zv_of (by kernel_rfl)
  t4 := by kernel_rfl
  a4 := ag_of (by kernel_rfl)
  z4 := sz_of (by kernel_rfl)
  v4 := zv_of (by kernel_rfl)
  t9 := by kernel_rfl
  a9 := ag_of (by kernel_rfl)
  z9 := sz_of (by kernel_rfl)
  v9 := zv_of (by kernel_rfl)
  t20 := by kernel_rfl
  a20 := ag_of (by kernel_rfl)
  z20 := sz_of (by kernel_rfl)
  v20 := zv_of (by kernel_rfl)
  t37 := by kernel_rfl
  a37 := ag_of (by kernel_rfl)
  z37 := sz_of (by kernel_rfl)
  v37 := zv_of (by kernel_rfl)
  t70 := by kernel_rfl
  a70 := ag_of (by kernel_rfl)
  z70 := sz_of (by kernel_rfl)
  v70 := zv_of (by kernel_rfl)
  t72 := by kernel_rfl
  a72 := ag_of (by kernel_rfl)
  z72 := sz_of (by kernel_rfl)
  v72 := zv_of (by kernel_rfl)
  t75 := by kernel_rfl
  a75 := ag_of (by kernel_rfl)
  z75 := sz_of (by kernel_rfl)
  v75 := zv_of (by kernel_rfl)
  t164 := by kernel_rfl
  a164 := ag_of (by kernel_rfl)
  z164 := sz_of (by kernel_rfl)
  v164 := zv_of (by kernel_rfl) }
theorem extraW : Builder.Extra Tryz.prog renW := {
  sizeBuilder := by kernel_rfl
  liesBuilder := by kernel_rfl
  t5 := by kernel_rfl
  a5 := ag_of (by kernel_rfl)
  z5 := sz_of (by kernel_rfl)
  v5 := zv_of (by kernel_rfl)
  infoByte := by kernel_rfl
  cellsByte := by kernel_rfl
  sizeByte := by kernel_rfl
  neB5 := by decide }
/-- WriteString. -/
theorem bldWrite (B b : Nat) (bs : List Value) (s : ByteArray) (w : World) (h : Lib.IsBuilder 95 5 B b bs w) (hlen : bs.length + s.size ≤ 140737488355328) (hBw : B ≤ w.heap.size) :
    Calls Tryz.prog 70 #[.pointer (some ⟨b, 0, none⟩), .string s] w fun e w' => e = .returned (.tuple #[.int .i64 s.size, .nilIface]) ∧ (Lib.BuilderAt 95 5 B b (.pointer (some ⟨b, 0, none⟩)) (bs ++ Lib.strCells s) w' ∧ Below B w w') := Any.Builder_WriteString laysW extraW B b bs s w h hlen hBw
end Go.Proofs.YtkgogbmeehiloaaGreatDoor

