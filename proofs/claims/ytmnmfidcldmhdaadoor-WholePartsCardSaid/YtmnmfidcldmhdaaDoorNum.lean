/- The program's whole numbers by their values: contracts that name the result as the caller does. -/
import Derived.Test.YtmnmfidcldmhdaaDoorWLawE
namespace Go.Proofs.YtmnmfidcldmhdaaDoor
open Go.RowKit

/-- These cells are this number; not too long. -/
def Num (b : Bool) (s : ByteArray) (z : Int) : Prop := ival b (sval s) = z ∧ s.size ≤ 100000
theorem num_mk {z : Int} {n : Nat} (h : bsz z ≤ n) (hn : n ≤ 100000) : Num (neg z) (mag z) z := ⟨ival_mk z, by rw [mag_size]; exact Nat.le_trans h hn⟩
theorem num_raw (b : Bool) (s : ByteArray) (h : s.size ≤ 100000) : Num b s (ival b (sval s)) := ⟨rfl, h⟩
theorem bsz_up {z : Int} {n m : Nat} (h : bsz z ≤ n) (hn : n ≤ m) : bsz z ≤ m := Nat.le_trans h hn
abbrev vI (z : Int) : Value := .agg #[.bool (neg z), .string (mag z)]
section
variable {b b' b'' : Bool} {s t u : ByteArray} {x y z r : Int} {g : Nat} {W : World}
theorem wAdd2N (h1 : Num b s x) (h2 : Num b' t y) (e : x + y = r) (hx : Bx W g 26 #[.bool b, .string s, .bool b', .string t]) :
    Calls Tryd.prog 15 #[.slice (some ⟨g, 0, none⟩) 2 2] W fun e w' => e = .returned (.agg #[.bool (neg r), .string (mag r)]) ∧ Below W.heap.size W w' := by
  have h := wAdd2B s t b b' g W (Nat.le_trans h1.2 (by decide)) (Nat.le_trans h2.2 (by decide)) hx
  rwa [h1.1, h2.1, e] at h
theorem wAdd3N (h1 : Num b s x) (h2 : Num b' t y) (h3 : Num b'' u z) (e : x + y + z = r) (hx : Bx W g 26 #[.bool b, .string s, .bool b', .string t, .bool b'', .string u]) :
    Calls Tryd.prog 15 #[.slice (some ⟨g, 0, none⟩) 3 3] W fun e w' => e = .returned (.agg #[.bool (neg r), .string (mag r)]) ∧ Below W.heap.size W w' := by
  have h := wAdd3B s t u b b' b'' g W (Nat.le_trans h1.2 (by decide)) (Nat.le_trans h2.2 (by decide)) (Nat.le_trans h3.2 (by decide)) hx
  rwa [h1.1, h2.1, h3.1, e] at h
theorem wMul2N (h1 : Num b s x) (h2 : Num b' t y) (e : x * y = r) (hx : Bx W g 26 #[.bool b, .string s, .bool b', .string t]) :
    Calls Tryd.prog 21 #[.slice (some ⟨g, 0, none⟩) 2 2] W fun e w' => e = .returned (.agg #[.bool (neg r), .string (mag r)]) ∧ Below W.heap.size W w' := by
  have h := wMul2B s t b b' g W (Nat.le_trans h1.2 (by decide)) (Nat.le_trans h2.2 (by decide)) hx
  rwa [h1.1, h2.1, e] at h
theorem wMul3N (h1 : Num b s x) (h2 : Num b' t y) (h3 : Num b'' u z) (e : x * y * z = r) (hx : Bx W g 26 #[.bool b, .string s, .bool b', .string t, .bool b'', .string u]) :
    Calls Tryd.prog 21 #[.slice (some ⟨g, 0, none⟩) 3 3] W fun e w' => e = .returned (.agg #[.bool (neg r), .string (mag r)]) ∧ Below W.heap.size W w' := by
  have h := wMul3B s t u b b' b'' g W (Nat.le_trans h1.2 (by decide)) (Nat.le_trans h2.2 (by decide)) (Nat.le_trans h3.2 (by decide)) hx
  rwa [h1.1, h2.1, h3.1, e] at h
theorem wSubN (h1 : Num b s x) (h2 : Num b' t y) (e : x - y = r) :
    Calls Tryd.prog 17 #[.agg #[.bool b, .string s], .agg #[.bool b', .string t]] W fun e w' => e = .returned (.agg #[.bool (neg r), .string (mag r)]) ∧ Below W.heap.size W w' := by
  have h := wSub_any s t b b' W (Nat.le_trans h1.2 (by decide)) (Nat.le_trans h2.2 (by decide))
  rwa [h1.1, h2.1, e] at h
theorem wCmpN (h1 : Num b s x) (h2 : Num b' t y) (e : sgn (x - y) = r) :
    Calls Tryd.prog 19 #[.agg #[.bool b, .string s], .agg #[.bool b', .string t]] W fun e w' => e = .returned (.int .i64 r) ∧ Below W.heap.size W w' := by
  have h := wCmp_any s t b b' W (Nat.le_trans h1.2 (by decide)) (Nat.le_trans h2.2 (by decide))
  rwa [h1.1, h2.1, e] at h
theorem wSignN (h1 : Num b s x) (e : sgn x = r) :
    Calls Tryd.prog 31 #[.agg #[.bool b, .string s]] W fun e w' => e = .returned (.int .i64 r) ∧ Below W.heap.size W w' := by
  have h := wSign_any s b W
  rwa [h1.1, e] at h
theorem wFormN (h1 : Num b s x) :
    Calls Tryd.prog 30 #[.agg #[.bool b, .string s]] W fun e w' => e = .returned (.agg #[.bool (neg x), .string (mag x)]) ∧ Below W.heap.size W w' := by
  have h := wForm_any s b W
  rwa [h1.1] at h
theorem wNegN (h1 : Num b s x) (e : -x = r) :
    Calls Tryd.prog 29 #[.agg #[.bool b, .string s]] W fun e w' => e = .returned (.agg #[.bool (neg r), .string (mag r)]) ∧ Below W.heap.size W w' := by
  have h := wNeg_any s b W
  rwa [h1.1, e] at h
theorem wPowN {n : Int} (h1 : Num b s x) (hn : n ≤ 1000) (e : x ^ n.toNat = r) :
    Calls Tryd.prog 23 #[.agg #[.bool b, .string s], .int .i64 n] W fun e w' => e = .returned (.agg #[.bool (neg r), .string (mag r)]) ∧ Below W.heap.size W w' := by
  have h := wPow_any s b n W (Nat.le_trans (Nat.mul_le_mul h1.2 (show n.toNat ≤ 1000 by omega)) (by decide)) (Nat.le_trans h1.2 (by decide)) (by omega)
  rwa [h1.1, e] at h
theorem wDivN {q m : Int} (h1 : Num b s x) (h2 : Num b' t y) (h0 : y ≠ 0) (e1 : x / y = q) (e2 : x % y = m) :
    Calls Tryd.prog 25 #[.agg #[.bool b, .string s], .agg #[.bool b', .string t]] W fun e w' => e = .returned (.tuple #[.agg #[.bool (neg q), .string (mag q)], .agg #[.bool (neg m), .string (mag m)], .bool true]) ∧ Below W.heap.size W w' := by
  have h := wDiv_any s t b b' W (Nat.le_trans h1.2 (by decide)) (Nat.le_trans h2.2 (by decide))
  have h0' : sval t ≠ 0 := fun h3 => h0 (by rw [← h2.1, h3, ival_zero])
  rwa [if_neg h0', h1.1, h2.1, e1, e2] at h
theorem wDivZ (h1 : Num b s x) (h2 : Num b' t y) (h0 : y = 0) :
    Calls Tryd.prog 25 #[.agg #[.bool b, .string s], .agg #[.bool b', .string t]] W fun e w' => e = .returned (.tuple #[.agg #[.bool false, .string ⟨#[]⟩], .agg #[.bool false, .string ⟨#[]⟩], .bool false]) ∧ Below W.heap.size W w' := by
  have h := wDiv_any s t b b' W (Nat.le_trans h1.2 (by decide)) (Nat.le_trans h2.2 (by decide))
  have h0' : sval t = 0 := by
    have h3 := ival_natAbs b' (sval t)
    rw [h2.1, h0] at h3; exact h3.symm
  rwa [if_pos h0'] at h
theorem wShiftN {n : Int} (h1 : Num b s x) (hn : n ≤ 1000) (hn2 : -1000 ≤ n) (e : shiftI x n = r) (hT : TabAt 0 Lib.deBruijn64tab W) :
    Calls Tryd.prog 27 #[.agg #[.bool b, .string s], .int .i64 n] W fun e w' => e = .returned (.agg #[.bool (neg r), .string (mag r)]) ∧ Below W.heap.size W w' := by
  have h := wShift_any s b n W (Nat.le_trans h1.2 (by decide)) (by omega) (by omega) hT
  rwa [h1.1, e] at h
end
end Go.Proofs.YtmnmfidcldmhdaaDoor
