/- The walks and plain laws beneath the statements. -/
import Derived.Test.YtchfglbkiebfpaaGreatDoorPX21
import Derived.Test.YtchfglbkiebfpaaGreatDoorPX22
import Derived.Test.YtchfglbkiebfpaaGreatDoorPX7
import Derived.Test.YtchfglbkiebfpaaGreatDoorPX1
import Derived.Test.YtchfglbkiebfpaaGreatDoorPX3
namespace Go.Proofs.YtchfglbkiebfpaaGreatDoor
open Go.RowKit

/-- The quotient as two whole numbers: x / y times 2^p. -/
def quoM (x y : Dyadic) (p : Int) : Int := if 0 ≤ de x - de y + p then dm x * 2 ^ (de x - de y + p).toNat else dm x
def quoN (x y : Dyadic) (p : Int) : Int := if 0 ≤ de x - de y + p then dm y else dm y * 2 ^ (-(de x - de y + p)).toNat
def quoD (x y : Dyadic) (p : Int) : Dyadic := if quoN x y p < 0 then dy (-quoM x y p / -quoN x y p) (-p) else dy (quoM x y p / quoN x y p) (-p)
theorem quoN_ne {x y : Dyadic} {p : Int} (hy : y ≠ 0) : quoN x y p ≠ 0 := by
  have h : dm y ≠ 0 := fun h => hy (dm_zero.1 h)
  unfold quoN; split
  · exact h
  · exact Int.mul_ne_zero h (Int.ne_of_gt (Int.pow_pos (by decide)))
theorem div_I {m d : Int} (hm : bsz m ≤ 536870912) (hd : bsz d ≤ 536870912) (h0 : d ≠ 0) :
    Hid (∀ W : World, Calls Tryz.prog 123 #[.agg #[.bool (neg m), .string (mag m)], .agg #[.bool (neg d), .string (mag d)]] W fun r w' => r = .returned (.tuple #[.agg #[.bool (neg (m / d)), .string (mag (m / d))], .agg #[.bool (neg (m % d)), .string (mag (m % d))], .bool true]) ∧ Below W.heap.size W w') := by
  have h := Lib.hid (fun W => wDiv_any (mag m) (mag d) (neg m) (neg d) W (by rw [mag_size]; exact hm) (by rw [mag_size]; exact hd))
  rw [if_neg (by rw [sval_mag]; omega), ival_mk, ival_mk] at h
  exact h
theorem neg_I {m : Int} :
    Hid (∀ W : World, Calls Tryz.prog 117 #[.agg #[.bool (neg m), .string (mag m)]] W fun r w' => r = .returned (.agg #[.bool (neg (-m)), .string (mag (-m))]) ∧ Below W.heap.size W w') := by
  have h := Lib.hid (fun W => wNeg_any (mag m) (neg m) W)
  rw [ival_mk] at h
  exact h
theorem sign_I {m : Int} :
    Hid (∀ W : World, Calls Tryz.prog 106 #[.agg #[.bool (neg m), .string (mag m)]] W fun r w' => r = .returned (.int .i64 (sgn m)) ∧ Below W.heap.size W w') := by
  have h := Lib.hid (fun W => wSign_any (mag m) (neg m) W)
  rw [ival_mk] at h
  exact h
theorem make_I {q e : Int} (hq : bsz q ≤ 536870912) (he1 : -4611686018427387904 ≤ e) (he2 : e ≤ 4611686018427387904) :
    Hid (∀ W : World, TabAt 0 Lib.deBruijn64tab W → Calls Tryz.prog 101 #[.agg #[.bool (neg q), .string (mag q)], .int .i64 e] W fun r w' => r = .returned (.agg #[.bool (neg (dm (dy q e))), .string (mag (dm (dy q e))), .int .i64 (de (dy q e))]) ∧ Below W.heap.size W w') := by
  have h := Lib.hid (fun W h => dMake_any (mag q) (neg q) e W (by rw [mag_size]; exact hq) he1 he2 h)
  rw [ival_mk] at h
  exact h

theorem sBelow_any {x y : Dyadic} {L T0 : Nat} (p : Int) (w : World) (d1 : DB L T0 x) (d2 : DB L T0 y) (hy : y ≠ 0) (hLT : L + T0 ≤ 4000000) (hp1 : -4000000 ≤ p) (hp2 : p ≤ 4000000) (hT : TabAt 0 Lib.deBruijn64tab w) :
    Calls Tryz.prog 80 #[.agg #[.bool (neg (dm (x))), .string (mag (dm (x))), .int .i64 (de (x))], .agg #[.bool (neg (dm (y))), .string (mag (dm (y))), .int .i64 (de (y))], .int .i64 p] w fun r w' => r = .returned (.agg #[.bool (neg (dm (quoD x y p))), .string (mag (dm (quoD x y p))), .int .i64 (de (quoD x y p))]) ∧ Below w.heap.size w w' := by
  have f1 := db_form d1
  have f2 := db_form d2
  have s1 := db_size d1
  have s2 := db_size d2
  have b1 : bsz (dm x) ≤ 600000 := by rw [mag_size] at s1; omega
  have b2 : bsz (dm y) ≤ 600000 := by rw [mag_size] at s2; omega
  have hN := quoN_ne (x := x) (p := p) hy
  obtain ⟨n, hn⟩ : ∃ n, n = de x - de y + p := ⟨_, rfl⟩
  have w1 : IntKind.i64.wrap (de x - de y) = de x - de y := IntWalk.i64_in _ (by omega)
  have w2 : IntKind.i64.wrap (de x - de y + p) = n := by rw [IntWalk.i64_in _ (by omega), hn]
  have w3 : IntKind.i64.wrap (-p) = -p := IntWalk.i64_in _ (by omega)
  have w4 : IntKind.i64.wrap (-n) = -n := IntWalk.i64_in _ (by omega)
  unfold quoD
  by_cases h : 0 ≤ n
  · have eM : quoM x y p = dm x * 2 ^ n.toNat := by unfold quoM; rw [← hn, if_pos h]
    have eN : quoN x y p = dm y := by unfold quoN; rw [← hn, if_pos h]
    rw [eN] at hN
    rw [eM, eN]
    have bM : bsz (dm x * 2 ^ n.toNat) ≤ 3000000 := Nat.le_trans (bsz_shl_le b1) (by omega)
    have cH := Lib.hid (fun W h => wShift_any (mag (dm x)) (neg (dm x)) n W (by rw [mag_size]; omega) (by omega) (by omega) h)
    rw [ival_mk, show shiftI (dm x) n = dm x * 2 ^ n.toNat by unfold shiftI; rw [if_pos h]] at cH
    by_cases hg : dm y < 0
    · rw [if_pos hg]
      have bq : bsz (-(dm x * 2 ^ n.toNat) / -(dm y)) ≤ 3000000 := Nat.le_trans (bsz_natAbs_le (Int.natAbs_ediv_le_natAbs _ _)) (by rw [bsz_neg]; exact bM)
      exact sBelow_upn x y _ p n _ _ _ _ _ _ _ w w1 w2 w3 h (sgn_lt.2 hg) hT cH sign_I neg_I neg_I (div_I (by rw [bsz_neg]; omega) (by rw [bsz_neg]; omega) (by omega)) (make_I (by omega) (by omega) (by omega))
    · rw [if_neg hg]
      have bq : bsz (dm x * 2 ^ n.toNat / dm y) ≤ 3000000 := Nat.le_trans (bsz_natAbs_le (Int.natAbs_ediv_le_natAbs _ _)) bM
      exact sBelow_up x y _ p n _ _ _ _ _ w w1 w2 w3 h (Int.not_lt.1 fun h3 => hg (sgn_lt.1 h3)) hT cH sign_I (div_I (by omega) (by omega) hN) (make_I (by omega) (by omega) (by omega))
  · have eM : quoM x y p = dm x := by unfold quoM; rw [← hn, if_neg h]
    have eN : quoN x y p = dm y * 2 ^ (-n).toNat := by unfold quoN; rw [← hn, if_neg h]
    rw [eN] at hN
    rw [eM, eN]
    have bM : bsz (dm y * 2 ^ (-n).toNat) ≤ 3000000 := Nat.le_trans (bsz_shl_le b2) (by omega)
    have cH := Lib.hid (fun W h => wShift_any (mag (dm y)) (neg (dm y)) (-n) W (by rw [mag_size]; omega) (by omega) (by omega) h)
    rw [ival_mk, show shiftI (dm y) (-n) = dm y * 2 ^ (-n).toNat by unfold shiftI; rw [if_pos (by omega)]] at cH
    by_cases hg : dm y * 2 ^ (-n).toNat < 0
    · rw [if_pos hg]
      have bq : bsz (-dm x / -(dm y * 2 ^ (-n).toNat)) ≤ 600000 := Nat.le_trans (bsz_natAbs_le (Int.natAbs_ediv_le_natAbs _ _)) (by rw [bsz_neg]; exact b1)
      exact sBelow_dnn x y _ p n _ _ _ _ _ _ _ w w1 w2 w3 w4 (by omega) (sgn_lt.2 hg) hT cH sign_I neg_I neg_I (div_I (by rw [bsz_neg]; omega) (by rw [bsz_neg]; omega) (by omega)) (make_I (by omega) (by omega) (by omega))
    · rw [if_neg hg]
      have bq : bsz (dm x / (dm y * 2 ^ (-n).toNat)) ≤ 600000 := Nat.le_trans (bsz_natAbs_le (Int.natAbs_ediv_le_natAbs _ _)) b1
      exact sBelow_dn x y _ p n _ _ _ _ _ w w1 w2 w3 w4 (by omega) (Int.not_lt.1 fun h3 => hg (sgn_lt.1 h3)) hT cH sign_I (div_I (by omega) (by omega) hN) (make_I (by omega) (by omega) (by omega))

end Go.Proofs.YtchfglbkiebfpaaGreatDoor

namespace Go.Proofs.YtchfglbkiebfpaaGreatDoor
open Go.RowKit

set_option maxRecDepth 100000 in
theorem sQuo_zero (s t : ByteArray) (b c : Bool) (e f p g : Int) (x y : Dyadic) (w : World) (hg : g = 0) (hT : TabAt 0 Lib.deBruijn64tab w)
    (cF : Hid (∀ W : World, TabAt 0 Lib.deBruijn64tab W → Calls Tryz.prog 79 #[.agg #[.bool b, .string s, .int .i64 e]] W fun r w' => r = .returned (.agg #[.bool (neg (dm (x))), .string (mag (dm (x))), .int .i64 (de (x))]) ∧ Below W.heap.size W w'))
    (cG : Hid (∀ W : World, TabAt 0 Lib.deBruijn64tab W → Calls Tryz.prog 79 #[.agg #[.bool c, .string t, .int .i64 f]] W fun r w' => r = .returned (.agg #[.bool (neg (dm (y))), .string (mag (dm (y))), .int .i64 (de (y))]) ∧ Below W.heap.size W w'))
    (cS : Hid (∀ W : World, Calls Tryz.prog 50 #[.agg #[.bool (neg (dm (y))), .string (mag (dm (y))), .int .i64 (de (y))]] W fun r w' => r = .returned (.int .i64 g) ∧ Below W.heap.size W w'))
    :
    Calls Tryz.prog 23 #[.agg #[.bool b, .string s, .int .i64 e], .agg #[.bool c, .string t, .int .i64 f], .int .i64 p] w fun r w' => r = .returned (.tuple #[.agg #[.bool false, .string ⟨#[]⟩, .int .i64 0, .bool false, .string ⟨#[]⟩, .int .i64 0], .int .i64 1]) ∧ Below w.heap.size w w' :=
  RetAt.at <| ret_sk ttOk mixed (fun a w => Tryz.call23 a w) Tryz.func23 Tryz.ntmps23 Tryz.results23 _ rfl _ [.reg 4 [], .o 1 1 (.ret (.val (vN (x)))), .o 1 3 (.ret (.val (vN (y)))), .o 2 1 (.ret (.val (.int .i64 g))), .br true] (fun W hW hR => (fun (hT : Tab0 W) => ai (rt hT Tryz.call79 fun W h => cF.out W h) <| ai (rt hT Tryz.call79 fun W h => cG.out W h) <| ai (rc W Tryz.call50 fun W => cS.out W) <| ai (eq_y hg) <| hR) (tab_keep hT hW)) fun W => by kernel_rfl

set_option maxRecDepth 100000 in
theorem sQuo_some (s t : ByteArray) (b c : Bool) (e f p g : Int) (x y x' z1 z2 z3 : Dyadic) (w : World) (hg : ¬ g = 0) (hT : TabAt 0 Lib.deBruijn64tab w)
    (cF : Hid (∀ W : World, TabAt 0 Lib.deBruijn64tab W → Calls Tryz.prog 79 #[.agg #[.bool b, .string s, .int .i64 e]] W fun r w' => r = .returned (.agg #[.bool (neg (dm (x))), .string (mag (dm (x))), .int .i64 (de (x))]) ∧ Below W.heap.size W w'))
    (cG : Hid (∀ W : World, TabAt 0 Lib.deBruijn64tab W → Calls Tryz.prog 79 #[.agg #[.bool c, .string t, .int .i64 f]] W fun r w' => r = .returned (.agg #[.bool (neg (dm (y))), .string (mag (dm (y))), .int .i64 (de (y))]) ∧ Below W.heap.size W w'))
    (cS : Hid (∀ W : World, Calls Tryz.prog 50 #[.agg #[.bool (neg (dm (y))), .string (mag (dm (y))), .int .i64 (de (y))]] W fun r w' => r = .returned (.int .i64 g) ∧ Below W.heap.size W w'))
    (c1 : Hid (∀ W : World, TabAt 0 Lib.deBruijn64tab W → Calls Tryz.prog 80 #[.agg #[.bool (neg (dm (x))), .string (mag (dm (x))), .int .i64 (de (x))], .agg #[.bool (neg (dm (y))), .string (mag (dm (y))), .int .i64 (de (y))], .int .i64 p] W fun r w' => r = .returned (.agg #[.bool (neg (dm (z1))), .string (mag (dm (z1))), .int .i64 (de (z1))]) ∧ Below W.heap.size W w'))
    (c2 : Hid (∀ W : World, TabAt 0 Lib.deBruijn64tab W → Calls Tryz.prog 63 #[.agg #[.bool (neg (dm (x))), .string (mag (dm (x))), .int .i64 (de (x))]] W fun r w' => r = .returned (.agg #[.bool (neg (dm (x'))), .string (mag (dm (x'))), .int .i64 (de (x'))]) ∧ Below W.heap.size W w'))
    (c3 : Hid (∀ W : World, TabAt 0 Lib.deBruijn64tab W → Calls Tryz.prog 80 #[.agg #[.bool (neg (dm (x'))), .string (mag (dm (x'))), .int .i64 (de (x'))], .agg #[.bool (neg (dm (y))), .string (mag (dm (y))), .int .i64 (de (y))], .int .i64 p] W fun r w' => r = .returned (.agg #[.bool (neg (dm (z2))), .string (mag (dm (z2))), .int .i64 (de (z2))]) ∧ Below W.heap.size W w'))
    (c4 : Hid (∀ W : World, TabAt 0 Lib.deBruijn64tab W → Calls Tryz.prog 63 #[.agg #[.bool (neg (dm (z2))), .string (mag (dm (z2))), .int .i64 (de (z2))]] W fun r w' => r = .returned (.agg #[.bool (neg (dm (z3))), .string (mag (dm (z3))), .int .i64 (de (z3))]) ∧ Below W.heap.size W w'))
    :
    Calls Tryz.prog 23 #[.agg #[.bool b, .string s, .int .i64 e], .agg #[.bool c, .string t, .int .i64 f], .int .i64 p] w fun r w' => r = .returned (.tuple #[.agg #[.bool (neg (dm (z1))), .string (mag (dm (z1))), .int .i64 (de (z1)), .bool (neg (dm (z3))), .string (mag (dm (z3))), .int .i64 (de (z3))], .int .i64 0]) ∧ Below w.heap.size w w' :=
  RetAt.at <| ret_sk ttOk mixed (fun a w => Tryz.call23 a w) Tryz.func23 Tryz.ntmps23 Tryz.results23 _ rfl _ [.reg 4 [], .o 1 1 (.ret (.val (vN (x)))), .o 1 3 (.ret (.val (vN (y)))), .o 2 1 (.ret (.val (.int .i64 g))), .br false, .reg 11 [], .o 4 3 (.ret (.val (vN (z1)))), .o 4 5 (.ret (.val (vN (x')))), .o 4 8 (.ret (.val (vN (z2)))), .o 4 9 (.ret (.val (vN (z3))))] (fun W hW hR => (fun (hT : Tab0 W) => ai (rt hT Tryz.call79 fun W h => cF.out W h) <| ai (rt hT Tryz.call79 fun W h => cG.out W h) <| ai (rc W Tryz.call50 fun W => cS.out W) <| ai (eq_n hg) <| ai (rt hT Tryz.call80 fun W h => c1.out W h) <| ai (rt hT Tryz.call63 fun W h => c2.out W h) <| ai (rt hT Tryz.call80 fun W h => c3.out W h) <| ai (rt hT Tryz.call63 fun W h => c4.out W h) <| hR) (tab_keep hT hW)) fun W => by kernel_rfl

end Go.Proofs.YtchfglbkiebfpaaGreatDoor

namespace Go.Proofs.YtchfglbkiebfpaaGreatDoor
open Go.RowKit

theorem quoM_lt {L T0 P : Nat} {x y : Dyadic} {p : Int} (d1 : DB L T0 x) (d2 : DB L T0 y) (hp : p ≤ P) : (quoM x y p).natAbs < 2 ^ (2 * (L + T0) + P) := by
  have f1 := db_form d1
  have f2 := db_form d2
  unfold quoM
  split
  · rw [Int.natAbs_mul, Int.natAbs_pow]
    show (dm x).natAbs * 2 ^ (de x - de y + p).toNat < _
    have h1 : (dm x).natAbs * 2 ^ (de x - de y + p).toNat < 2 ^ (L + T0) * 2 ^ (de x - de y + p).toNat := Nat.mul_lt_mul_of_pos_right f1.2.2 (Nat.two_pow_pos _)
    rw [← Nat.pow_add] at h1
    exact Nat.lt_of_lt_of_le h1 (Nat.pow_le_pow_right (by decide) (by omega))
  · exact Nat.lt_of_lt_of_le f1.2.2 (Nat.pow_le_pow_right (by decide) (by omega))
theorem db_quo {L T0 P : Nat} {x y : Dyadic} {p : Int} (d1 : DB L T0 x) (d2 : DB L T0 y) (hp1 : -(P : Int) ≤ p) (hp2 : p ≤ P) : DB P (2 * (L + T0) + 2 * P) (quoD x y p) := by
  have h := quoM_lt (P := P) d1 d2 hp2
  unfold quoD
  split
  · exact db_raw (S := 2 * (L + T0) + P) (Nat.lt_of_le_of_lt (Int.natAbs_ediv_le_natAbs _ _) (by rw [Int.natAbs_neg]; exact h)) (by omega) (by omega)
  · exact db_raw (S := 2 * (L + T0) + P) (Nat.lt_of_le_of_lt (Int.natAbs_ediv_le_natAbs _ _) h) (by omega) (by omega)
theorem sQuo_any {b c : Bool} {s t : ByteArray} {e f : Int} {x y : Dyadic} {L T0 P : Nat} (p : Int) (w : World) (n1 : ND b s e x) (n2 : ND c t f y) (d1 : DB L T0 x) (d2 : DB L T0 y) (hLT : 2 * (L + T0) + 3 * P ≤ 3000000) (hp1 : -(P : Int) ≤ p) (hp2 : p ≤ P) (hT : TabAt 0 Lib.deBruijn64tab w) :
    Calls Tryz.prog 23 #[.agg #[.bool b, .string s, .int .i64 e], .agg #[.bool c, .string t, .int .i64 f], .int .i64 p] w fun r w' => r = .returned (if y = 0 then .tuple #[.agg #[.bool false, .string ⟨#[]⟩, .int .i64 0, .bool false, .string ⟨#[]⟩, .int .i64 0], .int .i64 1] else .tuple #[.agg #[.bool (neg (dm (quoD x y p))), .string (mag (dm (quoD x y p))), .int .i64 (de (quoD x y p)), .bool (neg (dm (-quoD (-x) y p))), .string (mag (dm (-quoD (-x) y p))), .int .i64 (de (-quoD (-x) y p))], .int .i64 0]) ∧ Below w.heap.size w w' := by
  have cF := Lib.hid (fun W (hT : TabAt 0 Lib.deBruijn64tab W) => dForm_any s b e W (Nat.le_trans n1.size (by decide)) (by have := n1.lo; omega) (by have := n1.hi; omega) hT)
  have cG := Lib.hid (fun W (hT : TabAt 0 Lib.deBruijn64tab W) => dForm_any t c f W (Nat.le_trans n2.size (by decide)) (by have := n2.lo; omega) (by have := n2.hi; omega) hT)
  rw [n1.val] at cF
  rw [n2.val] at cG
  have cS := Lib.hid (fun W => dSign_any (mag (dm y)) (neg (dm y)) (de y) W)
  rw [ival_mk, dy_dm] at cS
  by_cases hy : y = 0
  · rw [if_pos hy]
    exact sQuo_zero s t b c e f p _ x y w (dsgn_eq.2 hy) hT cF cG cS
  · rw [if_neg hy]
    have dq := db_quo (P := P) (db_neg d1) d2 hp1 hp2
    exact sQuo_some s t b c e f p _ x y _ _ _ _ w (fun h => hy (dsgn_eq.1 h)) hT cF cG cS (Lib.hid fun W h => sBelow_any p W d1 d2 hy (by omega) (by omega) (by omega) h) (dNeg_vn d1 (by omega))
      (Lib.hid fun W h => sBelow_any p W (db_neg d1) d2 hy (by omega) (by omega) (by omega) h) (dNeg_vn dq (by omega))

end Go.Proofs.YtchfglbkiebfpaaGreatDoor

namespace Go.Proofs.YtchfglbkiebfpaaGreatDoor
open Go.RowKit

/-- A []api.Span's first n elements. -/
def RdS (w : World) (A : Option Addr) (n : Nat) (bs : Nat → Bool) (ss : Nat → ByteArray) (es : Nat → Int) (cs : Nat → Bool) (ts : Nat → ByteArray) (fs : Nat → Int) : Prop :=
  0 < n → ∃ b off, A = some ⟨b, off, none⟩ ∧ ∀ j, j < n → w.cell? ⟨b, off + j * 6, none⟩ = some (.bool (bs j)) ∧ w.cell? ⟨b, off + j * 6 + 1, none⟩ = some (.string (ss j)) ∧ w.cell? ⟨b, off + j * 6 + 2, none⟩ = some (.int .i64 (es j)) ∧
    w.cell? ⟨b, off + j * 6 + 3, none⟩ = some (.bool (cs j)) ∧ w.cell? ⟨b, off + j * 6 + 4, none⟩ = some (.string (ts j)) ∧ w.cell? ⟨b, off + j * 6 + 5, none⟩ = some (.int .i64 (fs j))
theorem Bx.far6 {w : World} {g g' : Nat} {t : TypeId} {cs : Array Value} (h : Bx w g t cs) (hp : g ≠ g') (x0 x1 x2 x3 x4 x5 : Value) : Bx ((((((w.setCell ⟨g', 0, none⟩ x0).setCell ⟨g', 1, none⟩ x1).setCell ⟨g', 2, none⟩ x2).setCell ⟨g', 3, none⟩ x3).setCell ⟨g', 4, none⟩ x4).setCell ⟨g', 5, none⟩ x5) g t cs :=
  ((h.far3 (i := 0) (j := 1) (k := 2) hp x0 x1 x2).far3 (i := 3) (j := 4) (k := 5) hp x3 x4 x5)

set_option maxRecDepth 100000 in
set_option maxHeartbeats 1000000 in
theorem sAdd_any (A : Option Addr) (n c : Nat) (bs cs : Nat → Bool) (ss ts : Nat → ByteArray) (es fs : Nat → Int) (xs ys : Nat → Dyadic) (L0 T0 : Nat) (w : World) (hn : n ≤ 1000000) (hx : ∀ j, ND (bs j) (ss j) (es j) (xs j)) (hy : ∀ j, ND (cs j) (ts j) (fs j) (ys j)) (hdx : ∀ j, DB L0 T0 (xs j)) (hdy : ∀ j, DB L0 T0 (ys j)) (hLT : L0 + T0 + n ≤ 3000000) (hr : RdS w A n bs ss es cs ts fs) (hT : TabAt 0 Lib.deBruijn64tab w) :
    Calls Tryz.prog 16 #[.slice A n c] w fun r w' => r = .returned (.agg #[.bool (neg (dm (sumD (fun j => dmin (xs j) (ys j)) n))), .string (mag (dm (sumD (fun j => dmin (xs j) (ys j)) n))), .int .i64 (de (sumD (fun j => dmin (xs j) (ys j)) n)), .bool (neg (dm (sumD (fun j => dmax (xs j) (ys j)) n))), .string (mag (dm (sumD (fun j => dmax (xs j) (ys j)) n))), .int .i64 (de (sumD (fun j => dmax (xs j) (ys j)) n))]) ∧ Below w.heap.size w w' := by
  have HT := Lib.hid hT
  have HX := Lib.hid hx
  have HY := Lib.hid hy
  have HDL := Lib.hid (fun j => db_dmin (hdx j) (hdy j))
  have HDH := Lib.hid (fun j => db_dmax (hdx j) (hdy j))
  clear hT hx hy hdx hdy
  go_enter Tryz.func16, Tryz.ntmps16
  have X1 := (Bx.new w 27 #[.bool false, .string ⟨#[]⟩, .int .i64 0, .bool false, .string ⟨#[]⟩, .int .i64 0]).alloc (.cells #[.bool false, .string ⟨#[]⟩, .int .i64 0, .bool false, .string ⟨#[]⟩, .int .i64 0] 27)
  have X2 := Bx.at1 w (.cells #[.bool false, .string ⟨#[]⟩, .int .i64 0, .bool false, .string ⟨#[]⟩, .int .i64 0] 27) 27 #[.bool false, .string ⟨#[]⟩, .int .i64 0, .bool false, .string ⟨#[]⟩, .int .i64 0]
  have hB := b2 w (.cells #[.bool false, .string ⟨#[]⟩, .int .i64 0, .bool false, .string ⟨#[]⟩, .int .i64 0] 27) (.cells #[.bool false, .string ⟨#[]⟩, .int .i64 0, .bool false, .string ⟨#[]⟩, .int .i64 0] 27)
  go_wp2_with fail
  generalize (w.alloc (.cells #[.bool false, .string ⟨#[]⟩, .int .i64 0, .bool false, .string ⟨#[]⟩, .int .i64 0] 27)).alloc (.cells #[.bool false, .string ⟨#[]⟩, .int .i64 0, .bool false, .string ⟨#[]⟩, .int .i64 0] 27) = w0 at *
  go_loopw [9] (fun i wr => ∃ k : Nat, k ≤ n ∧ i = .int .i64 (k : Nat) ∧ Bx wr w.heap.size 27 #[.bool false, .string ⟨#[]⟩, .int .i64 0, .bool false, .string ⟨#[]⟩, .int .i64 0] ∧ Bx wr (w.heap.size + 1) 27 #[.bool (neg (dm (sumD (fun j => dmin (xs j) (ys j)) k))), .string (mag (dm (sumD (fun j => dmin (xs j) (ys j)) k))), .int .i64 (de (sumD (fun j => dmin (xs j) (ys j)) k)), .bool (neg (dm (sumD (fun j => dmax (xs j) (ys j)) k))), .string (mag (dm (sumD (fun j => dmax (xs j) (ys j)) k))), .int .i64 (de (sumD (fun j => dmax (xs j) (ys j)) k))] ∧ Below w.heap.size w wr) (fun i _ => n - (intOf i).toNat)
  case atStart => exact ⟨0, Nat.zero_le _, rfl, X1, X2, hB⟩
  case round =>
    obtain ⟨k, hk, rfl, Y1, Y2, hB2⟩ := hrel
    by_cases hlt : k < n
    · obtain ⟨b, off, rfl, hc⟩ := hr (by omega)
      obtain ⟨c1, c2, c3, c4, c5, c6⟩ := hc k hlt
      have g1 := cell_later hB2 c1
      have g2 := cell_later hB2 c2
      have g3 := cell_later hB2 c3
      have g4 := cell_later hB2 c4
      have g5 := cell_later hB2 c5
      have g7 := cell_later hB2 c6
      clear hc hr c1 c2 c3 c4 c5 c6 X1 X2 hB
      have cO := Lib.hid (fun W h => sof_any W (HX.out k) (HY.out k) h)
      have dl := db_sum HDL.out k
      have dh := db_sum HDH.out k
      have dl' := db_up (L' := L0) (T' := T0 + k) (HDL.out k) (Nat.le_refl _) (by omega)
      have dh' := db_up (L' := L0) (T' := T0 + k) (HDH.out k) (Nat.le_refl _) (by omega)
      have cA1 := Lib.hid (fun g W h (hx : Bx W g 25 #[.bool (neg (dm (sumD (fun j => dmin (xs j) (ys j)) k))), .string (mag (dm (sumD (fun j => dmin (xs j) (ys j)) k))), .int .i64 (de (sumD (fun j => dmin (xs j) (ys j)) k)), .bool (neg (dm (dmin (xs k) (ys k)))), .string (mag (dm (dmin (xs k) (ys k)))), .int .i64 (de (dmin (xs k) (ys k)))]) => dAdd2N (nd_db dl (by omega)) (nd_db dl' (by omega)) dl dl' (by omega) h hx)
      have cA2 := Lib.hid (fun g W h (hx : Bx W g 25 #[.bool (neg (dm (sumD (fun j => dmax (xs j) (ys j)) k))), .string (mag (dm (sumD (fun j => dmax (xs j) (ys j)) k))), .int .i64 (de (sumD (fun j => dmax (xs j) (ys j)) k)), .bool (neg (dm (dmax (xs k) (ys k)))), .string (mag (dm (dmax (xs k) (ys k)))), .int .i64 (de (dmax (xs k) (ys k)))]) => dAdd2N (nd_db dh (by omega)) (nd_db dh' (by omega)) dh dh' (by omega) h hx)
      obtain ⟨lo1, hlo⟩ : ∃ z, z = sumD (fun j => dmin (xs j) (ys j)) k + dmin (xs k) (ys k) := ⟨_, rfl⟩
      obtain ⟨hi1, hhi⟩ : ∃ z, z = sumD (fun j => dmax (xs j) (ys j)) k + dmax (xs k) (ys k) := ⟨_, rfl⟩
      rw [← hlo] at cA1
      rw [← hhi] at cA2
      have HL := Lib.hid (show sumD (fun j => dmin (xs j) (ys j)) (k + 1) = lo1 from hlo.symm)
      have HH := Lib.hid (show sumD (fun j => dmax (xs j) (ys j)) (k + 1) = hi1 from hhi.symm)
      clear dl dh dl' dh' hlo hhi
      have Z3 := Bx.new wr 27 #[.bool (bs k), .string (ss k), .int .i64 (es k), .bool (cs k), .string (ts k), .int .i64 (fs k)]
      have Z1 := Y1.alloc (.cells #[.bool (bs k), .string (ss k), .int .i64 (es k), .bool (cs k), .string (ts k), .int .i64 (fs k)] 27)
      have Z2 := Y2.alloc (.cells #[.bool (bs k), .string (ss k), .int .i64 (es k), .bool (cs k), .string (ts k), .int .i64 (fs k)] 27)
      have hB3 := nxtA hB2 (.cells #[.bool (bs k), .string (ss k), .int .i64 (es k), .bool (cs k), .string (ts k), .int .i64 (fs k)] 27)
      obtain ⟨r1, r2, r3, r4, r5, r6, _, _, _, _, _, _⟩ := Z3.six
      clear Y1 Y2 hB2
      go_wp2_with fail
      generalize wr.alloc (.cells #[.bool (bs k), .string (ss k), .int .i64 (es k), .bool (cs k), .string (ts k), .int .i64 (fs k)] 27) = w4 at *
      refine (cO.out _ (tab_keep HT.out hB3)).mono ?_
      rintro e w5 ⟨rfl, hb⟩
      replace Z1 := Z1.later hb
      replace Z2 := Z2.later hb
      replace hB3 := nxt hB3 hb
      clear hb r1 r2 r3 r4 r5 r6 Z3 g1 g2 g3 g4 g5 g7
      have Z4 := Bx.new w5 88 #[.bool (neg (dm (dmin (xs k) (ys k)))), .string (mag (dm (dmin (xs k) (ys k)))), .int .i64 (de (dmin (xs k) (ys k))), .bool (neg (dm (dmax (xs k) (ys k)))), .string (mag (dm (dmax (xs k) (ys k)))), .int .i64 (de (dmax (xs k) (ys k)))]
      replace Z1 := Z1.alloc (.cells #[.bool (neg (dm (dmin (xs k) (ys k)))), .string (mag (dm (dmin (xs k) (ys k)))), .int .i64 (de (dmin (xs k) (ys k))), .bool (neg (dm (dmax (xs k) (ys k)))), .string (mag (dm (dmax (xs k) (ys k)))), .int .i64 (de (dmax (xs k) (ys k)))] 88)
      replace Z2 := Z2.alloc (.cells #[.bool (neg (dm (dmin (xs k) (ys k)))), .string (mag (dm (dmin (xs k) (ys k)))), .int .i64 (de (dmin (xs k) (ys k))), .bool (neg (dm (dmax (xs k) (ys k)))), .string (mag (dm (dmax (xs k) (ys k)))), .int .i64 (de (dmax (xs k) (ys k)))] 88)
      replace hB3 := nxtA hB3 (.cells #[.bool (neg (dm (dmin (xs k) (ys k)))), .string (mag (dm (dmin (xs k) (ys k)))), .int .i64 (de (dmin (xs k) (ys k))), .bool (neg (dm (dmax (xs k) (ys k)))), .string (mag (dm (dmax (xs k) (ys k)))), .int .i64 (de (dmax (xs k) (ys k)))] 88)
      have HK := Lib.hid (And.intro Z1 (And.intro Z2 (And.intro Z4 hB3)))
      clear Z1 Z2 Z4 hB3
      go_upto_region 6 with (fail)
      obtain ⟨Z1, Z2, Z4, hB3⟩ := HK.out
      clear HK
      generalize w5.alloc (.cells #[.bool (neg (dm (dmin (xs k) (ys k)))), .string (mag (dm (dmin (xs k) (ys k)))), .int .i64 (de (dmin (xs k) (ys k))), .bool (neg (dm (dmax (xs k) (ys k)))), .string (mag (dm (dmax (xs k) (ys k)))), .int .i64 (de (dmax (xs k) (ys k)))] 88) = w6 at *
      generalize w5.heap.size = g6 at *
      refine wp_region_k [15, 16, 17, 18, 19, 20, 21, 22, 23, 24, 25, 26, 27, 28, 29] [.eq (.pointer (some ⟨w.heap.size + 1, 0, none⟩)), .eq (.agg #[.bool (neg (dm (sumD (fun j => dmin (xs j) (ys j)) k))), .string (mag (dm (sumD (fun j => dmin (xs j) (ys j)) k))), .int .i64 (de (sumD (fun j => dmin (xs j) (ys j)) k))]), .eq (.pointer (some ⟨g6, 0, none⟩)), .eq (.pointer (some ⟨g6, 0, none⟩)), .eq (.agg #[.bool (neg (dm (dmin (xs k) (ys k)))), .string (mag (dm (dmin (xs k) (ys k)))), .int .i64 (de (dmin (xs k) (ys k)))]), .sli w6.heap.size 25 2 #[.bool (neg (dm (sumD (fun j => dmin (xs j) (ys j)) k))), .string (mag (dm (sumD (fun j => dmin (xs j) (ys j)) k))), .int .i64 (de (sumD (fun j => dmin (xs j) (ys j)) k)), .bool (neg (dm (dmin (xs k) (ys k)))), .string (mag (dm (dmin (xs k) (ys k)))), .int .i64 (de (dmin (xs k) (ys k)))], .eq (.agg #[.bool (neg (dm (lo1))), .string (mag (dm (lo1))), .int .i64 (de (lo1))]), .eq (.pointer (some ⟨w.heap.size + 1, 3, none⟩)), .eq (.agg #[.bool (neg (dm (sumD (fun j => dmax (xs j) (ys j)) k))), .string (mag (dm (sumD (fun j => dmax (xs j) (ys j)) k))), .int .i64 (de (sumD (fun j => dmax (xs j) (ys j)) k))]), .eq (.pointer (some ⟨g6, 0, none⟩)), .eq (.pointer (some ⟨g6, 3, none⟩)), .eq (.agg #[.bool (neg (dm (dmax (xs k) (ys k)))), .string (mag (dm (dmax (xs k) (ys k)))), .int .i64 (de (dmax (xs k) (ys k)))]), .sli w6.heap.size 25 2 #[.bool (neg (dm (sumD (fun j => dmax (xs j) (ys j)) k))), .string (mag (dm (sumD (fun j => dmax (xs j) (ys j)) k))), .int .i64 (de (sumD (fun j => dmax (xs j) (ys j)) k)), .bool (neg (dm (dmax (xs k) (ys k)))), .string (mag (dm (dmax (xs k) (ys k)))), .int .i64 (de (dmax (xs k) (ys k)))], .eq (.agg #[.bool (neg (dm (hi1))), .string (mag (dm (hi1))), .int .i64 (de (hi1))]), .eq (.agg #[.bool (neg (dm (lo1))), .string (mag (dm (lo1))), .int .i64 (de (lo1)), .bool (neg (dm (hi1))), .string (mag (dm (hi1))), .int .i64 (de (hi1))])] 32 (by kernel_rfl) (by exact fun _ _ _ _ _ h => h) (by kernel_rfl) (by rfl) ?hop ?htail
      case hop =>
        intro A hA
        have hN : A.tmps.size = 32 := by rw [hA]; rfl
        have q3 : A.tmps.getD 3 undef = .pointer (some ⟨w.heap.size + 1, 0, none⟩) := by rw [hA]; rfl
        have q6 : A.tmps.getD 6 undef = .pointer (some ⟨g6, 0, none⟩) := by rw [hA]; rfl
        clear hA
        refine ⟨?_, ?_, ?_, ?_, ?_, ?_, ?_, ?_, ?_, ?_, ?_, ?_, ?_, ?_, ?_, trivial⟩
        · refine kok hN fun u W ev ec ef E B hG hf => ?_
          exact k_val _ rfl rfl hG (by simp [go_sem, B 3 rfl rfl q3]) rfl
        · refine kok hN fun u W ev ec ef E B hG hf => ?_
          exact k_val _ rfl rfl hG (by simp [go_sem, E 15 0 rfl rfl (hf 0 rfl), (Z2.later hG).cel]) rfl
        · refine kok hN fun u W ev ec ef E B hG hf => ?_
          exact k_val _ rfl rfl hG (by simp [go_sem, B 6 rfl rfl q6]) rfl
        · refine kok hN fun u W ev ec ef E B hG hf => ?_
          exact k_val _ rfl rfl hG (by simp [go_sem, E 17 2 rfl rfl (hf 2 rfl)]) rfl
        · refine kok hN fun u W ev ec ef E B hG hf => ?_
          exact k_val _ rfl rfl hG (by simp [go_sem, E 18 3 rfl rfl (hf 3 rfl), (Z4.later hG).cel]) rfl
        · refine kok hN fun u W ev ec ef E B hG hf => ?_
          exact k_new _ _ rfl (by simp [go_sem, E 16 1 rfl rfl (hf 1 rfl), E 19 4 rfl rfl (hf 4 rfl)]) (nxtA hG _) ⟨_, rfl, below_le hG, Bx.new _ _ _⟩ rfl
        · refine kok hN fun u W ev ec ef E B hG hf => ?_
          obtain ⟨g20, f20, hb20, hx20⟩ := hf 5 rfl
          exact k_cl rfl rfl (by simp [go_sem, ef, E 20 5 rfl rfl f20]) (cA1.out _ W (tab_keep HT.out (nxt hB3 hG)) hx20) hG (fun _ _ => rfl)
        · refine kok hN fun u W ev ec ef E B hG hf => ?_
          exact k_val _ rfl rfl hG (by simp [go_sem, B 3 rfl rfl q3]) rfl
        · refine kok hN fun u W ev ec ef E B hG hf => ?_
          exact k_val _ rfl rfl hG (by simp [go_sem, E 22 7 rfl rfl (hf 7 rfl), (Z2.later hG).cel]) rfl
        · refine kok hN fun u W ev ec ef E B hG hf => ?_
          exact k_val _ rfl rfl hG (by simp [go_sem, B 6 rfl rfl q6]) rfl
        · refine kok hN fun u W ev ec ef E B hG hf => ?_
          exact k_val _ rfl rfl hG (by simp [go_sem, E 24 9 rfl rfl (hf 9 rfl)]) rfl
        · refine kok hN fun u W ev ec ef E B hG hf => ?_
          exact k_val _ rfl rfl hG (by simp [go_sem, E 25 10 rfl rfl (hf 10 rfl), (Z4.later hG).cel]) rfl
        · refine kok hN fun u W ev ec ef E B hG hf => ?_
          exact k_new _ _ rfl (by simp [go_sem, E 23 8 rfl rfl (hf 8 rfl), E 26 11 rfl rfl (hf 11 rfl)]) (nxtA hG _) ⟨_, rfl, below_le hG, Bx.new _ _ _⟩ rfl
        · refine kok hN fun u W ev ec ef E B hG hf => ?_
          obtain ⟨g27, f27, hb27, hx27⟩ := hf 12 rfl
          exact k_cl rfl rfl (by simp [go_sem, ef, E 27 12 rfl rfl f27]) (cA2.out _ W (tab_keep HT.out (nxt hB3 hG)) hx27) hG (fun _ _ => rfl)
        · refine kok hN fun u W ev ec ef E B hG hf => ?_
          exact k_val _ rfl rfl hG (by simp [go_sem, E 21 6 rfl rfl (hf 6 rfl), E 28 13 rfl rfl (hf 13 rfl)]) rfl
      case htail =>
        intro u w7 hG hP hD
        have f29 : u 14 = .agg #[.bool (neg (dm (lo1))), .string (mag (dm (lo1))), .int .i64 (de (lo1)), .bool (neg (dm (hi1))), .string (mag (dm (hi1))), .int .i64 (de (hi1))] := hP 14 (by decide)
        simp only [putAll, Act.put, List.setIfInBounds_toArray, List.set_cons_zero, List.set_cons_succ, List.length_cons, List.length_nil, Nat.reduceAdd, List.drop_succ_cons, List.drop_zero, f29]
        replace hB3 := nxt hB3 hG
        replace Z1 := Z1.later hG
        replace Z2 := Z2.later hG
        have HZ := Lib.hid (And.intro Z1 (And.intro Z2 hB3))
        obtain ⟨r1, r2, r3, r4, r5, r6, r7, r8, r9, r10, r11, r12⟩ := Z2.six
        clear hP hD hG f29 Z1 Z2 Z4 hB3
        go_wp2
        obtain ⟨Z1, Z2, hB3⟩ := HZ.out
        exact ⟨⟨k + 1, hlt, by go_num, Bx.far6 Z1 (by simp) _ _ _ _ _ _, by rw [HL.out, HH.out]; exact Z2.set6 _ _ _ _ _ _, st6 hB3 (Nat.le_add_right _ 1) _ _ _ _ _ _⟩, by simp [intOf]; omega⟩
    · obtain rfl : k = n := by omega
      obtain ⟨p1, p2, p3, p4, p5, p6, p7, p8, p9, p10, p11, p12⟩ := Y1.six
      obtain ⟨r1, r2, r3, r4, r5, r6, _, _, _, _, _, _⟩ := Y2.six
      have HY1 := Lib.hid Y1
      clear Y1 Y2 X1 X2 hB
      go_wp2_with fail
      exact bodyPost_ret (v := .agg #[.bool (neg (dm (sumD (fun j => dmin (xs j) (ys j)) k))), .string (mag (dm (sumD (fun j => dmin (xs j) (ys j)) k))), .int .i64 (de (sumD (fun j => dmin (xs j) (ys j)) k)), .bool (neg (dm (sumD (fun j => dmax (xs j) (ys j)) k))), .string (mag (dm (sumD (fun j => dmax (xs j) (ys j)) k))), .int .i64 (de (sumD (fun j => dmax (xs j) (ys j)) k))]) (by simp [results, Tryz.results16, go_sem, (HY1.out.set6 _ _ _ _ _ _).cel]) rfl ⟨rfl, st6 hB2 (Nat.le_refl _) _ _ _ _ _ _⟩

end Go.Proofs.YtchfglbkiebfpaaGreatDoor

namespace Go.Proofs.YtchfglbkiebfpaaGreatDoor
open Go.RowKit

theorem dMin2N {b c : Bool} {s t : ByteArray} {e f : Int} {x y : Dyadic} {g : Nat} {w : World} (n1 : ND b s e x) (n2 : ND c t f y) (hT : TabAt 0 Lib.deBruijn64tab w) (h : Bx w g 25 #[.bool b, .string s, .int .i64 e, .bool c, .string t, .int .i64 f]) :
    Calls Tryz.prog 91 #[.slice (some ⟨g, 0, none⟩) 2 2] w fun r w' => r = .returned (.agg #[.bool (neg (dm (dmin x y))), .string (mag (dm (dmin x y))), .int .i64 (de (dmin x y))]) ∧ Below w.heap.size w w' := by
  have h := dMin_any _ 2 2 _ _ _ (fun j => if j = 0 then x else y) w (by decide) (fun j => by by_cases h0 : j = 0 <;> simp only [h0, if_true, if_false] <;> assumption) (rdN2B h) hT
  rwa [min2] at h
theorem dMax2N {b c : Bool} {s t : ByteArray} {e f : Int} {x y : Dyadic} {g : Nat} {w : World} (n1 : ND b s e x) (n2 : ND c t f y) (hT : TabAt 0 Lib.deBruijn64tab w) (h : Bx w g 25 #[.bool b, .string s, .int .i64 e, .bool c, .string t, .int .i64 f]) :
    Calls Tryz.prog 92 #[.slice (some ⟨g, 0, none⟩) 2 2] w fun r w' => r = .returned (.agg #[.bool (neg (dm (dmax x y))), .string (mag (dm (dmax x y))), .int .i64 (de (dmax x y))]) ∧ Below w.heap.size w w' := by
  have h := dMax_any _ 2 2 _ _ _ (fun j => if j = 0 then x else y) w (by decide) (fun j => by by_cases h0 : j = 0 <;> simp only [h0, if_true, if_false] <;> assumption) (rdN2B h) hT
  rwa [max2] at h

set_option maxRecDepth 100000 in
theorem sMeet_none (s t s' t' : ByteArray) (b c b' c' : Bool) (e f e' f' z : Int) (x y x' y' lo hi : Dyadic) (w : World) (hz : 0 < z) (hT : TabAt 0 Lib.deBruijn64tab w)
    (c1 : Hid (∀ W : World, TabAt 0 Lib.deBruijn64tab W → Calls Tryz.prog 72 #[.agg #[.bool b, .string s, .int .i64 e, .bool c, .string t, .int .i64 f]] W fun r w' => r = .returned (.agg #[.bool (neg (dm (x))), .string (mag (dm (x))), .int .i64 (de (x)), .bool (neg (dm (y))), .string (mag (dm (y))), .int .i64 (de (y))]) ∧ Below W.heap.size W w'))
    (c2 : Hid (∀ W : World, TabAt 0 Lib.deBruijn64tab W → Calls Tryz.prog 72 #[.agg #[.bool b', .string s', .int .i64 e', .bool c', .string t', .int .i64 f']] W fun r w' => r = .returned (.agg #[.bool (neg (dm (x'))), .string (mag (dm (x'))), .int .i64 (de (x')), .bool (neg (dm (y'))), .string (mag (dm (y'))), .int .i64 (de (y'))]) ∧ Below W.heap.size W w'))
    (c3 : Hid (∀ (g : Nat) (W : World), TabAt 0 Lib.deBruijn64tab W → Bx W g 25 #[.bool (neg (dm (x))), .string (mag (dm (x))), .int .i64 (de (x)), .bool (neg (dm (x'))), .string (mag (dm (x'))), .int .i64 (de (x'))] → Calls Tryz.prog 92 #[.slice (some ⟨g, 0, none⟩) 2 2] W fun r w' => r = .returned (.agg #[.bool (neg (dm (lo))), .string (mag (dm (lo))), .int .i64 (de (lo))]) ∧ Below W.heap.size W w'))
    (c4 : Hid (∀ (g : Nat) (W : World), TabAt 0 Lib.deBruijn64tab W → Bx W g 25 #[.bool (neg (dm (y))), .string (mag (dm (y))), .int .i64 (de (y)), .bool (neg (dm (y'))), .string (mag (dm (y'))), .int .i64 (de (y'))] → Calls Tryz.prog 91 #[.slice (some ⟨g, 0, none⟩) 2 2] W fun r w' => r = .returned (.agg #[.bool (neg (dm (hi))), .string (mag (dm (hi))), .int .i64 (de (hi))]) ∧ Below W.heap.size W w'))
    (c5 : Hid (∀ W : World, TabAt 0 Lib.deBruijn64tab W → Calls Tryz.prog 51 #[.agg #[.bool (neg (dm (lo))), .string (mag (dm (lo))), .int .i64 (de (lo))], .agg #[.bool (neg (dm (hi))), .string (mag (dm (hi))), .int .i64 (de (hi))]] W fun r w' => r = .returned (.int .i64 z) ∧ Below W.heap.size W w'))
    :
    Calls Tryz.prog 30 #[.agg #[.bool b, .string s, .int .i64 e, .bool c, .string t, .int .i64 f], .agg #[.bool b', .string s', .int .i64 e', .bool c', .string t', .int .i64 f']] w fun r w' => r = .returned (.tuple #[.agg #[.bool false, .string ⟨#[]⟩, .int .i64 0, .bool false, .string ⟨#[]⟩, .int .i64 0], .int .i64 4]) ∧ Below w.heap.size w w' :=
  RetAt.at <| ret_sk ttOk mixed (fun a w => Tryz.call30 a w) Tryz.func30 Tryz.ntmps30 Tryz.results30 _ rfl _ [.reg 6 [], .o 1 1 (.ret (.val (vS (x) (y)))), .o 1 3 (.ret (.val (vS (x') (y')))), .reg 18 [], .o 2 7 (.ret (.val (vN (lo)))), .o 2 15 (.ret (.val (vN (hi)))), .o 3 2 (.ret (.val (.int .i64 z))), .br true] (fun W hW hR => (fun (hT : Tab0 W) => ai (rt hT Tryz.call72 fun W h => c1.out W h) <| ai (rt hT Tryz.call72 fun W h => c2.out W h) <| ai (rg1 hT Tryz.call92 fun W g h hx => c3.out g W h hx) <| ai (rg1 hT Tryz.call91 fun W g h hx => c4.out g W h hx) <| ai (rt hT Tryz.call51 fun W h => c5.out W h) <| ai (gt_y hz) <| hR) (tab_keep hT hW)) fun W => by kernel_rfl

set_option maxRecDepth 100000 in
theorem sMeet_some (s t s' t' : ByteArray) (b c b' c' : Bool) (e f e' f' z : Int) (x y x' y' lo hi : Dyadic) (w : World) (hz : ¬ 0 < z) (hT : TabAt 0 Lib.deBruijn64tab w)
    (c1 : Hid (∀ W : World, TabAt 0 Lib.deBruijn64tab W → Calls Tryz.prog 72 #[.agg #[.bool b, .string s, .int .i64 e, .bool c, .string t, .int .i64 f]] W fun r w' => r = .returned (.agg #[.bool (neg (dm (x))), .string (mag (dm (x))), .int .i64 (de (x)), .bool (neg (dm (y))), .string (mag (dm (y))), .int .i64 (de (y))]) ∧ Below W.heap.size W w'))
    (c2 : Hid (∀ W : World, TabAt 0 Lib.deBruijn64tab W → Calls Tryz.prog 72 #[.agg #[.bool b', .string s', .int .i64 e', .bool c', .string t', .int .i64 f']] W fun r w' => r = .returned (.agg #[.bool (neg (dm (x'))), .string (mag (dm (x'))), .int .i64 (de (x')), .bool (neg (dm (y'))), .string (mag (dm (y'))), .int .i64 (de (y'))]) ∧ Below W.heap.size W w'))
    (c3 : Hid (∀ (g : Nat) (W : World), TabAt 0 Lib.deBruijn64tab W → Bx W g 25 #[.bool (neg (dm (x))), .string (mag (dm (x))), .int .i64 (de (x)), .bool (neg (dm (x'))), .string (mag (dm (x'))), .int .i64 (de (x'))] → Calls Tryz.prog 92 #[.slice (some ⟨g, 0, none⟩) 2 2] W fun r w' => r = .returned (.agg #[.bool (neg (dm (lo))), .string (mag (dm (lo))), .int .i64 (de (lo))]) ∧ Below W.heap.size W w'))
    (c4 : Hid (∀ (g : Nat) (W : World), TabAt 0 Lib.deBruijn64tab W → Bx W g 25 #[.bool (neg (dm (y))), .string (mag (dm (y))), .int .i64 (de (y)), .bool (neg (dm (y'))), .string (mag (dm (y'))), .int .i64 (de (y'))] → Calls Tryz.prog 91 #[.slice (some ⟨g, 0, none⟩) 2 2] W fun r w' => r = .returned (.agg #[.bool (neg (dm (hi))), .string (mag (dm (hi))), .int .i64 (de (hi))]) ∧ Below W.heap.size W w'))
    (c5 : Hid (∀ W : World, TabAt 0 Lib.deBruijn64tab W → Calls Tryz.prog 51 #[.agg #[.bool (neg (dm (lo))), .string (mag (dm (lo))), .int .i64 (de (lo))], .agg #[.bool (neg (dm (hi))), .string (mag (dm (hi))), .int .i64 (de (hi))]] W fun r w' => r = .returned (.int .i64 z) ∧ Below W.heap.size W w'))
    :
    Calls Tryz.prog 30 #[.agg #[.bool b, .string s, .int .i64 e, .bool c, .string t, .int .i64 f], .agg #[.bool b', .string s', .int .i64 e', .bool c', .string t', .int .i64 f']] w fun r w' => r = .returned (.tuple #[.agg #[.bool (neg (dm (lo))), .string (mag (dm (lo))), .int .i64 (de (lo)), .bool (neg (dm (hi))), .string (mag (dm (hi))), .int .i64 (de (hi))], .int .i64 0]) ∧ Below w.heap.size w w' :=
  RetAt.at <| ret_sk ttOk mixed (fun a w => Tryz.call30 a w) Tryz.func30 Tryz.ntmps30 Tryz.results30 _ rfl _ [.reg 6 [], .o 1 1 (.ret (.val (vS (x) (y)))), .o 1 3 (.ret (.val (vS (x') (y')))), .reg 18 [], .o 2 7 (.ret (.val (vN (lo)))), .o 2 15 (.ret (.val (vN (hi)))), .o 3 2 (.ret (.val (.int .i64 z))), .br false] (fun W hW hR => (fun (hT : Tab0 W) => ai (rt hT Tryz.call72 fun W h => c1.out W h) <| ai (rt hT Tryz.call72 fun W h => c2.out W h) <| ai (rg1 hT Tryz.call92 fun W g h hx => c3.out g W h hx) <| ai (rg1 hT Tryz.call91 fun W g h hx => c4.out g W h hx) <| ai (rt hT Tryz.call51 fun W h => c5.out W h) <| ai (gt_n hz) <| hR) (tab_keep hT hW)) fun W => by kernel_rfl

end Go.Proofs.YtchfglbkiebfpaaGreatDoor

namespace Go.Proofs.YtchfglbkiebfpaaGreatDoor
open Go.RowKit

set_option maxRecDepth 100000 in
theorem rsForm_le (aM bM xM yM : Bool) (aS bS xS yS : ByteArray) (aE bE xE yE : Int) (z : Int) (hz : ¬ 0 < z) (w : World)
    (c1 : Hid (∀ (W : World), Calls Tryz.prog 99 #[.agg #[.bool aM, .string aS, .int .i64 aE], .agg #[.bool bM, .string bS, .int .i64 bE]] W fun r w' => r = .returned (.int .i64 z) ∧ Below W.heap.size W w'))
    (c2 : Hid (∀ (W : World), Calls Tryz.prog 82 #[.agg #[.bool aM, .string aS, .int .i64 aE]] W fun r w' => r = .returned (.agg #[.bool xM, .string xS, .int .i64 xE]) ∧ Below W.heap.size W w'))
    (c3 : Hid (∀ (W : World), Calls Tryz.prog 82 #[.agg #[.bool bM, .string bS, .int .i64 bE]] W fun r w' => r = .returned (.agg #[.bool yM, .string yS, .int .i64 yE]) ∧ Below W.heap.size W w'))
    :
    Calls Tryz.prog 41 #[.agg #[.bool aM, .string aS, .int .i64 aE, .bool bM, .string bS, .int .i64 bE]] w fun r w' => r = .returned (.agg #[.bool xM, .string xS, .int .i64 xE, .bool yM, .string yS, .int .i64 yE]) ∧ Below w.heap.size w w' :=
  RetAt.at <| ret_sk ttOk mixed (fun a w => Tryz.call41 a w) Tryz.func41 Tryz.ntmps41 Tryz.results41 _ rfl _ [.o 1 4 (.ret (.val (.int .i64 z))), .br false, .reg 7 [], .o 3 2 (.ret (.val (rN xM xS xE))), .o 3 5 (.ret (.val (rN yM yS yE)))] (fun W hW hR => ai (rc W Tryz.call99 fun W => c1.out W) <| ai (gt_n hz) <| ai (rc W Tryz.call82 fun W => c2.out W) <| ai (rc W Tryz.call82 fun W => c3.out W) <| hR) fun W => by kernel_rfl

set_option maxRecDepth 100000 in
theorem rsForm_gt (aM bM xM yM : Bool) (aS bS xS yS : ByteArray) (aE bE xE yE : Int) (z : Int) (hz : 0 < z) (w : World)
    (c1 : Hid (∀ (W : World), Calls Tryz.prog 99 #[.agg #[.bool aM, .string aS, .int .i64 aE], .agg #[.bool bM, .string bS, .int .i64 bE]] W fun r w' => r = .returned (.int .i64 z) ∧ Below W.heap.size W w'))
    (c2 : Hid (∀ (W : World), Calls Tryz.prog 82 #[.agg #[.bool aM, .string aS, .int .i64 aE]] W fun r w' => r = .returned (.agg #[.bool xM, .string xS, .int .i64 xE]) ∧ Below W.heap.size W w'))
    (c3 : Hid (∀ (W : World), Calls Tryz.prog 82 #[.agg #[.bool bM, .string bS, .int .i64 bE]] W fun r w' => r = .returned (.agg #[.bool yM, .string yS, .int .i64 yE]) ∧ Below W.heap.size W w'))
    :
    Calls Tryz.prog 41 #[.agg #[.bool aM, .string aS, .int .i64 aE, .bool bM, .string bS, .int .i64 bE]] w fun r w' => r = .returned (.agg #[.bool yM, .string yS, .int .i64 yE, .bool xM, .string xS, .int .i64 xE]) ∧ Below w.heap.size w w' :=
  RetAt.at <| ret_sk ttOk mixed (fun a w => Tryz.call41 a w) Tryz.func41 Tryz.ntmps41 Tryz.results41 _ rfl _ [.o 1 4 (.ret (.val (.int .i64 z))), .br true, .reg 7 [], .o 3 2 (.ret (.val (rN yM yS yE))), .o 3 5 (.ret (.val (rN xM xS xE)))] (fun W hW hR => ai (rc W Tryz.call99 fun W => c1.out W) <| ai (gt_y hz) <| ai (rc W Tryz.call82 fun W => c3.out W) <| ai (rc W Tryz.call82 fun W => c2.out W) <| hR) fun W => by kernel_rfl

set_option maxRecDepth 100000 in
theorem rsHas_no (aM bM cM xM yM : Bool) (aS bS cS xS yS : ByteArray) (aE bE cE xE yE : Int) (p : Int) (hp : ¬ p ≤ 0) (w : World)
    (cF : Hid (∀ (W : World), Calls Tryz.prog 41 #[.agg #[.bool aM, .string aS, .int .i64 aE, .bool bM, .string bS, .int .i64 bE]] W fun r w' => r = .returned (.agg #[.bool xM, .string xS, .int .i64 xE, .bool yM, .string yS, .int .i64 yE]) ∧ Below W.heap.size W w'))
    (c1 : Hid (∀ (W : World), Calls Tryz.prog 99 #[.agg #[.bool xM, .string xS, .int .i64 xE], .agg #[.bool cM, .string cS, .int .i64 cE]] W fun r w' => r = .returned (.int .i64 p) ∧ Below W.heap.size W w'))
    :
    Calls Tryz.prog 32 #[.agg #[.bool aM, .string aS, .int .i64 aE, .bool bM, .string bS, .int .i64 bE], .agg #[.bool cM, .string cS, .int .i64 cE]] w fun r w' => r = .returned (.bool false) ∧ Below w.heap.size w w' :=
  RetAt.at <| ret_sk ttOk mixed (fun a w => Tryz.call32 a w) Tryz.func32 Tryz.ntmps32 Tryz.results32 _ rfl _ [.o 1 1 (.ret (.val (rS xM xS xE yM yS yE))), .o 2 3 (.ret (.val (.int .i64 p))), .g 2 6 false, .g 2 7 false, .g 2 8 false, .g 2 9 false, .g 2 10 false, .o 2 11 (.pk false)] (fun W hW hR => ai (rc W Tryz.call41 fun W => cF.out W) <| ai (rc W Tryz.call99 fun W => c1.out W) <| ai (le_n hp) <| ai (le_n hp) <| ai (le_n hp) <| ai (le_n hp) <| ai (le_n hp) <| ai (le_n hp) <| hR) fun W => by kernel_rfl

set_option maxRecDepth 100000 in
theorem rsHas_yes (aM bM cM xM yM : Bool) (aS bS cS xS yS : ByteArray) (aE bE cE xE yE : Int) (p q : Int) (hp : p ≤ 0) (w : World)
    (cF : Hid (∀ (W : World), Calls Tryz.prog 41 #[.agg #[.bool aM, .string aS, .int .i64 aE, .bool bM, .string bS, .int .i64 bE]] W fun r w' => r = .returned (.agg #[.bool xM, .string xS, .int .i64 xE, .bool yM, .string yS, .int .i64 yE]) ∧ Below W.heap.size W w'))
    (c1 : Hid (∀ (W : World), Calls Tryz.prog 99 #[.agg #[.bool xM, .string xS, .int .i64 xE], .agg #[.bool cM, .string cS, .int .i64 cE]] W fun r w' => r = .returned (.int .i64 p) ∧ Below W.heap.size W w'))
    (c2 : Hid (∀ (W : World), Calls Tryz.prog 99 #[.agg #[.bool yM, .string yS, .int .i64 yE], .agg #[.bool cM, .string cS, .int .i64 cE]] W fun r w' => r = .returned (.int .i64 q) ∧ Below W.heap.size W w'))
    :
    Calls Tryz.prog 32 #[.agg #[.bool aM, .string aS, .int .i64 aE, .bool bM, .string bS, .int .i64 bE], .agg #[.bool cM, .string cS, .int .i64 cE]] w fun r w' => r = .returned (.bool (decide (0 ≤ q))) ∧ Below w.heap.size w w' :=
  RetAt.at <| ret_sk ttOk mixed (fun a w => Tryz.call32 a w) Tryz.func32 Tryz.ntmps32 Tryz.results32 _ rfl _ [.o 1 1 (.ret (.val (rS xM xS xE yM yS yE))), .o 2 3 (.ret (.val (.int .i64 p))), .g 2 6 true, .g 2 7 true, .g 2 8 true, .g 2 9 true, .o 2 9 (.ret (.val (.int .i64 q))), .g 2 10 true, .o 2 11 (.pk true)] (fun W hW hR => ai (rc W Tryz.call41 fun W => cF.out W) <| ai (rc W Tryz.call99 fun W => c1.out W) <| ai (le_y hp) <| ai (le_y hp) <| ai (le_y hp) <| ai (le_y hp) <| ai (rc W Tryz.call99 fun W => c2.out W) <| ai (le_y hp) <| ai (le_y hp) <| hR) fun W => by kernel_rfl

set_option maxRecDepth 100000 in
theorem rsOut_x (aM bM xM yM uM vM : Bool) (aS bS xS yS uS vS : ByteArray) (aE bE xE yE uE vE : Int) (p : Int) (w : World)
    (c1 : Hid (∀ (W : World), Calls Tryz.prog 41 #[.agg #[.bool aM, .string aS, .int .i64 aE, .bool bM, .string bS, .int .i64 bE]] W fun r w' => r = .returned (.agg #[.bool xM, .string xS, .int .i64 xE, .bool yM, .string yS, .int .i64 yE]) ∧ Below W.heap.size W w'))
    (c2 : Hid (∀ (W : World), Calls Tryz.prog 95 #[.agg #[.bool xM, .string xS, .int .i64 xE], .int .i64 p] W fun r w' => r = .returned (.agg #[.bool uM, .string uS, .int .i64 uE]) ∧ Below W.heap.size W w'))
    (c3 : Hid (∀ (W : World), Calls Tryz.prog 96 #[.agg #[.bool yM, .string yS, .int .i64 yE], .int .i64 p] W fun r w' => r = .returned (.agg #[.bool vM, .string vS, .int .i64 vE]) ∧ Below W.heap.size W w'))
    :
    Calls Tryz.prog 29 #[.agg #[.bool aM, .string aS, .int .i64 aE, .bool bM, .string bS, .int .i64 bE], .int .i64 p] w fun r w' => r = .returned (.agg #[.bool uM, .string uS, .int .i64 uE, .bool vM, .string vS, .int .i64 vE]) ∧ Below w.heap.size w w' :=
  RetAt.at <| ret_sk ttOk mixed (fun a w => Tryz.call29 a w) Tryz.func29 Tryz.ntmps29 Tryz.results29 _ rfl _ [.o 1 1 (.ret (.val (rS xM xS xE yM yS yE))), .reg 9 [], .o 2 3 (.ret (.val (rN uM uS uE))), .o 2 7 (.ret (.val (rN vM vS vE)))] (fun W hW hR => ai (rc W Tryz.call41 fun W => c1.out W) <| ai (rc W Tryz.call95 fun W => c2.out W) <| ai (rc W Tryz.call96 fun W => c3.out W) <| hR) fun W => by kernel_rfl

set_option maxRecDepth 100000 in
set_option maxHeartbeats 1000000 in
theorem rsOf_x (A : Option Addr) (n c : Nat) (xM yM : Bool) (xS yS : ByteArray) (xE yE : Int) (w : World)
    (c1 : Hid (∀ W : World, Below w.heap.size w W → Calls Tryz.prog 98 #[.slice A n c] W fun r w' => r = .returned (.agg #[.bool xM, .string xS, .int .i64 xE]) ∧ Below W.heap.size W w'))
    (c2 : Hid (∀ W : World, Below w.heap.size w W → Calls Tryz.prog 97 #[.slice A n c] W fun r w' => r = .returned (.agg #[.bool yM, .string yS, .int .i64 yE]) ∧ Below W.heap.size W w'))
    :
    Calls Tryz.prog 47 #[.slice A n c] w fun r w' => r = .returned (.agg #[.bool xM, .string xS, .int .i64 xE, .bool yM, .string yS, .int .i64 yE]) ∧ Below w.heap.size w w' := by
  go_enter Tryz.func47, Tryz.ntmps47
  go_upto_region 1 with (fail)
  have X1 := Bx.new w 27 #[.bool false, .string ⟨#[]⟩, .int .i64 0, .bool false, .string ⟨#[]⟩, .int .i64 0]
  have hB := b1 w (.cells #[.bool false, .string ⟨#[]⟩, .int .i64 0, .bool false, .string ⟨#[]⟩, .int .i64 0] 27)
  generalize w.alloc (.cells #[.bool false, .string ⟨#[]⟩, .int .i64 0, .bool false, .string ⟨#[]⟩, .int .i64 0] 27) = w0 at *
  go_wp2_with fail
  refine (c1.out _ hB).mono ?_
  rintro e w1 ⟨rfl, hb⟩
  replace X1 := X1.later hb
  replace hB := nxt hB hb
  clear hb
  go_wp2_with fail
  refine (c2.out _ hB).mono ?_
  rintro e w2 ⟨rfl, hb⟩
  replace X1 := X1.later hb
  replace hB := nxt hB hb
  clear hb
  obtain ⟨c1_0, c1_1, c1_2, c1_3, c1_4, c1_5, c1_6, c1_7, c1_8, c1_9, c1_10, c1_11⟩ := X1.k6
  replace X1 := Bx.stores [.bool xM, .string xS, .int .i64 xE, .bool yM, .string yS, .int .i64 yE] 0 X1
  replace hB := stN (Nat.le_refl _) [.bool xM, .string xS, .int .i64 xE, .bool yM, .string yS, .int .i64 yE] 0 hB
  simp only [setN, Nat.reduceAdd] at  hB
  simp only [setN, putN, Nat.reduceAdd, List.setIfInBounds_toArray, List.set_cons_zero, List.set_cons_succ] at X1
  obtain ⟨c2_0, c2_1, c2_2, c2_3, c2_4, c2_5, _, _, _, _, _, _⟩ := X1.k6
  go_wp2_with fail
  clear c1_0 c1_1 c1_2 c1_3 c1_4 c1_5 c1_6 c1_7 c1_8 c1_9 c1_10 c1_11 c2_0 c2_1 c2_2 c2_3 c2_4 c2_5
  exact bodyPost_ret (v := .agg #[.bool xM, .string xS, .int .i64 xE, .bool yM, .string yS, .int .i64 yE]) (by simp [results, Tryz.results47, go_sem, X1.cel]) rfl ⟨rfl, hB⟩

end Go.Proofs.YtchfglbkiebfpaaGreatDoor

namespace Go.Proofs.YtchfglbkiebfpaaGreatDoor
open Go Go.RowKit


set_option maxRecDepth 100000 in
theorem rsQuo_pz (aM bM xM yM uM vM : Bool) (aS bS xS yS uS vS : ByteArray) (aE bE xE yE uE vE : Int) (mM dM qM rM : Bool) (mS dS qS rS : ByteArray) (ok : Bool) (p z1 z2 z3 k1 k2 np : Int) (h1 : ¬ z1 < 0) (h2 :  z2 = 0) (h3 :  z3 = 0) (hk1 : Hid (IntKind.i64.wrap 0 = k1)) (hk2 : Hid (IntKind.i64.wrap 0 = k2)) (hnp : Hid (IntKind.i64.wrap (-p) = np)) (w : World) 
    (c1 : Hid (∀ W : World, Calls Tryz.prog 82 #[.agg #[.bool aM, .string aS, .int .i64 aE]] W fun r w' => r = .returned (.agg #[.bool xM, .string xS, .int .i64 xE]) ∧ Below W.heap.size W w'))
    (c2 : Hid (∀ W : World, Calls Tryz.prog 82 #[.agg #[.bool bM, .string bS, .int .i64 bE]] W fun r w' => r = .returned (.agg #[.bool yM, .string yS, .int .i64 yE]) ∧ Below W.heap.size W w'))
    (c3 : Hid (∀ W : World, Calls Tryz.prog 24 #[.agg #[.bool yM, .string yS, .int .i64 yE]] W fun r w' => r = .returned (.int .i64 z1) ∧ Below W.heap.size W w'))
    (c4 : Hid (∀ W : World, Calls Tryz.prog 83 #[.agg #[.bool xM, .string xS, .int .i64 xE], .int .i64 p] W fun r w' => r = .returned (.agg #[.bool uM, .string uS, .int .i64 uE]) ∧ Below W.heap.size W w'))
    (c5 : Hid (∀ W : World, Calls Tryz.prog 24 #[.agg #[.bool uM, .string uS, .int .i64 uE]] W fun r w' => r = .returned (.int .i64 z2) ∧ Below W.heap.size W w'))
    (c6 : Hid (∀ W : World, Calls Tryz.prog 85 #[.agg #[.bool uM, .string uS], .int .i64 k1] W fun r w' => r = .returned (.agg #[.bool mM, .string mS]) ∧ Below W.heap.size W w'))
    (c7 : Hid (∀ W : World, Calls Tryz.prog 85 #[.agg #[.bool yM, .string yS], .int .i64 k2] W fun r w' => r = .returned (.agg #[.bool dM, .string dS]) ∧ Below W.heap.size W w'))
    (c8 : Hid (∀ W : World, Calls Tryz.prog 84 #[.agg #[.bool mM, .string mS], .agg #[.bool dM, .string dS]] W fun r w' => r = .returned (.tuple #[.agg #[.bool qM, .string qS], .agg #[.bool rM, .string rS], .bool ok]) ∧ Below W.heap.size W w'))
    (c9 : Hid (∀ W : World, Calls Tryz.prog 86 #[.agg #[.bool qM, .string qS], .int .i64 np] W fun r w' => r = .returned (.agg #[.bool vM, .string vS, .int .i64 vE]) ∧ Below W.heap.size W w'))
    (c10 : Hid (∀ W : World, Calls Tryz.prog 81 #[.agg #[.bool rM, .string rS]] W fun r w' => r = .returned (.int .i64 z3) ∧ Below W.heap.size W w'))
    : Calls Tryz.prog 25 #[.agg #[.bool aM, .string aS, .int .i64 aE], .agg #[.bool bM, .string bS, .int .i64 bE], .int .i64 p] w fun r w' => r = .returned (.agg #[.bool vM, .string vS, .int .i64 vE, .bool vM, .string vS, .int .i64 vE]) ∧ Below w.heap.size w w' := 
  RetAt.at <| ret_sk ttOk mixed (fun a w => Tryz.call25 a w) Tryz.func25 Tryz.ntmps25 Tryz.results25 _ rfl _ [.reg 4 [], .o 1 1 (.ret (.agg [.val (.bool xM), .val (.string xS), .val (.int .i64 xE)])), .o 1 3 (.ret (.agg [.val (.bool yM), .val (.string yS), .val (.int .i64 yE)])), .o 2 1 (.ret (.val (.int .i64 z1))), .br false, .o 4 2 (.ret (.agg [.val (.bool uM), .val (.string uS), .val (.int .i64 uE)])), .o 5 4 (.set (.int .i64 (min uE yE))), .o 6 1 (.ret (.val (.int .i64 z2))), .br true, .reg 21 [17, 18], .o 9 5 (.eq (.val (.int .i64 k1))), .o 9 6 (.ret (.agg [.val (.bool mM), .val (.string mS)])), .o 9 12 (.eq (.val (.int .i64 k2))), .o 9 13 (.ret (.agg [.val (.bool dM), .val (.string dS)])), .o 9 14 (.ret (.tup [.agg [.val (.bool qM), .val (.string qS)], .agg [.val (.bool rM), .val (.string rS)], .val (.bool ok)])), .reg 10 [], .o 10 2 (.eq (.val (.int .i64 np))), .o 10 3 (.ret (.agg [.val (.bool vM), .val (.string vS), .val (.int .i64 vE)])), .o 10 6 (.eq (.val (.int .i64 np))), .o 10 7 (.ret (.agg [.val (.bool vM), .val (.string vS), .val (.int .i64 vE)])), .o 11 1 (.ret (.val (.int .i64 z3))), .br false] (fun W hW hR => ai (rc W Tryz.call82 c1.out) <| ai (rc W Tryz.call82 c2.out) <| ai (rc W Tryz.call24 c3.out) <| ai (lt_n h1) <| ai (rc W Tryz.call83 c4.out) <| ai (min_ok Tryz.prog W #[3, 3] 3 .i64 uE yE) <| ai (rc W Tryz.call24 c5.out) <| ai (eq_y h2) <| ai (wz yE hk1.out) <| ai (rc W Tryz.call85 c6.out) <| ai (wz yE hk2.out) <| ai (rc W Tryz.call85 c7.out) <| ai (rc W Tryz.call84 c8.out) <| ai (wn hnp.out) <| ai (rc W Tryz.call86 c9.out) <| ai (wn hnp.out) <| ai (rc W Tryz.call86 c9.out) <| ai (rc W Tryz.call81 c10.out) <| ai (ne_n h3) <| hR) fun W => by kernel_rfl

set_option maxRecDepth 100000 in
theorem rsQuo_pv (aM bM xM yM uM vM : Bool) (aS bS xS yS uS vS : ByteArray) (aE bE xE yE uE vE : Int) (mM dM qM rM : Bool) (mS dS qS rS : ByteArray) (ok : Bool) (p z1 z2 z3 k1 k2 np : Int) (h1 : ¬ z1 < 0) (h2 : ¬ z2 = 0) (h3 :  z3 = 0) (hk1 : Hid (IntKind.i64.wrap (uE - (min uE yE)) = k1)) (hk2 : Hid (IntKind.i64.wrap (yE - (min uE yE)) = k2)) (hnp : Hid (IntKind.i64.wrap (-p) = np)) (w : World) 
    (c1 : Hid (∀ W : World, Calls Tryz.prog 82 #[.agg #[.bool aM, .string aS, .int .i64 aE]] W fun r w' => r = .returned (.agg #[.bool xM, .string xS, .int .i64 xE]) ∧ Below W.heap.size W w'))
    (c2 : Hid (∀ W : World, Calls Tryz.prog 82 #[.agg #[.bool bM, .string bS, .int .i64 bE]] W fun r w' => r = .returned (.agg #[.bool yM, .string yS, .int .i64 yE]) ∧ Below W.heap.size W w'))
    (c3 : Hid (∀ W : World, Calls Tryz.prog 24 #[.agg #[.bool yM, .string yS, .int .i64 yE]] W fun r w' => r = .returned (.int .i64 z1) ∧ Below W.heap.size W w'))
    (c4 : Hid (∀ W : World, Calls Tryz.prog 83 #[.agg #[.bool xM, .string xS, .int .i64 xE], .int .i64 p] W fun r w' => r = .returned (.agg #[.bool uM, .string uS, .int .i64 uE]) ∧ Below W.heap.size W w'))
    (c5 : Hid (∀ W : World, Calls Tryz.prog 24 #[.agg #[.bool uM, .string uS, .int .i64 uE]] W fun r w' => r = .returned (.int .i64 z2) ∧ Below W.heap.size W w'))
    (c6 : Hid (∀ W : World, Calls Tryz.prog 85 #[.agg #[.bool uM, .string uS], .int .i64 k1] W fun r w' => r = .returned (.agg #[.bool mM, .string mS]) ∧ Below W.heap.size W w'))
    (c7 : Hid (∀ W : World, Calls Tryz.prog 85 #[.agg #[.bool yM, .string yS], .int .i64 k2] W fun r w' => r = .returned (.agg #[.bool dM, .string dS]) ∧ Below W.heap.size W w'))
    (c8 : Hid (∀ W : World, Calls Tryz.prog 84 #[.agg #[.bool mM, .string mS], .agg #[.bool dM, .string dS]] W fun r w' => r = .returned (.tuple #[.agg #[.bool qM, .string qS], .agg #[.bool rM, .string rS], .bool ok]) ∧ Below W.heap.size W w'))
    (c9 : Hid (∀ W : World, Calls Tryz.prog 86 #[.agg #[.bool qM, .string qS], .int .i64 np] W fun r w' => r = .returned (.agg #[.bool vM, .string vS, .int .i64 vE]) ∧ Below W.heap.size W w'))
    (c10 : Hid (∀ W : World, Calls Tryz.prog 81 #[.agg #[.bool rM, .string rS]] W fun r w' => r = .returned (.int .i64 z3) ∧ Below W.heap.size W w'))
    : Calls Tryz.prog 25 #[.agg #[.bool aM, .string aS, .int .i64 aE], .agg #[.bool bM, .string bS, .int .i64 bE], .int .i64 p] w fun r w' => r = .returned (.agg #[.bool vM, .string vS, .int .i64 vE, .bool vM, .string vS, .int .i64 vE]) ∧ Below w.heap.size w w' := 
  RetAt.at <| ret_sk ttOk mixed (fun a w => Tryz.call25 a w) Tryz.func25 Tryz.ntmps25 Tryz.results25 _ rfl _ [.reg 4 [], .o 1 1 (.ret (.agg [.val (.bool xM), .val (.string xS), .val (.int .i64 xE)])), .o 1 3 (.ret (.agg [.val (.bool yM), .val (.string yS), .val (.int .i64 yE)])), .o 2 1 (.ret (.val (.int .i64 z1))), .br false, .o 4 2 (.ret (.agg [.val (.bool uM), .val (.string uS), .val (.int .i64 uE)])), .o 5 4 (.set (.int .i64 (min uE yE))), .o 6 1 (.ret (.val (.int .i64 z2))), .br false, .reg 21 [17, 18], .o 9 5 (.eq (.val (.int .i64 k1))), .o 9 6 (.ret (.agg [.val (.bool mM), .val (.string mS)])), .o 9 12 (.eq (.val (.int .i64 k2))), .o 9 13 (.ret (.agg [.val (.bool dM), .val (.string dS)])), .o 9 14 (.ret (.tup [.agg [.val (.bool qM), .val (.string qS)], .agg [.val (.bool rM), .val (.string rS)], .val (.bool ok)])), .reg 10 [], .o 10 2 (.eq (.val (.int .i64 np))), .o 10 3 (.ret (.agg [.val (.bool vM), .val (.string vS), .val (.int .i64 vE)])), .o 10 6 (.eq (.val (.int .i64 np))), .o 10 7 (.ret (.agg [.val (.bool vM), .val (.string vS), .val (.int .i64 vE)])), .o 11 1 (.ret (.val (.int .i64 z3))), .br false] (fun W hW hR => ai (rc W Tryz.call82 c1.out) <| ai (rc W Tryz.call82 c2.out) <| ai (rc W Tryz.call24 c3.out) <| ai (lt_n h1) <| ai (rc W Tryz.call83 c4.out) <| ai (min_ok Tryz.prog W #[3, 3] 3 .i64 uE yE) <| ai (rc W Tryz.call24 c5.out) <| ai (eq_n h2) <| ai hk1.out <| ai (rc W Tryz.call85 c6.out) <| ai hk2.out <| ai (rc W Tryz.call85 c7.out) <| ai (rc W Tryz.call84 c8.out) <| ai (wn hnp.out) <| ai (rc W Tryz.call86 c9.out) <| ai (wn hnp.out) <| ai (rc W Tryz.call86 c9.out) <| ai (rc W Tryz.call81 c10.out) <| ai (ne_n h3) <| hR) fun W => by kernel_rfl

set_option maxRecDepth 100000 in
theorem rsQuo_pvr (aM bM xM yM uM vM v'M : Bool) (aS bS xS yS uS vS v'S : ByteArray) (aE bE xE yE uE vE v'E : Int) (mM dM qM rM oM q'M : Bool) (mS dS qS rS oS q'S : ByteArray) (ok : Bool) (p z1 z2 z3 k1 k2 np : Int) (h1 : ¬ z1 < 0) (h2 : ¬ z2 = 0) (h3 : ¬ z3 = 0) (hk1 : Hid (IntKind.i64.wrap (uE - (min uE yE)) = k1)) (hk2 : Hid (IntKind.i64.wrap (yE - (min uE yE)) = k2)) (hnp : Hid (IntKind.i64.wrap (-p) = np)) (w : World) 
    (c1 : Hid (∀ W : World, Calls Tryz.prog 82 #[.agg #[.bool aM, .string aS, .int .i64 aE]] W fun r w' => r = .returned (.agg #[.bool xM, .string xS, .int .i64 xE]) ∧ Below W.heap.size W w'))
    (c2 : Hid (∀ W : World, Calls Tryz.prog 82 #[.agg #[.bool bM, .string bS, .int .i64 bE]] W fun r w' => r = .returned (.agg #[.bool yM, .string yS, .int .i64 yE]) ∧ Below W.heap.size W w'))
    (c3 : Hid (∀ W : World, Calls Tryz.prog 24 #[.agg #[.bool yM, .string yS, .int .i64 yE]] W fun r w' => r = .returned (.int .i64 z1) ∧ Below W.heap.size W w'))
    (c4 : Hid (∀ W : World, Calls Tryz.prog 83 #[.agg #[.bool xM, .string xS, .int .i64 xE], .int .i64 p] W fun r w' => r = .returned (.agg #[.bool uM, .string uS, .int .i64 uE]) ∧ Below W.heap.size W w'))
    (c5 : Hid (∀ W : World, Calls Tryz.prog 24 #[.agg #[.bool uM, .string uS, .int .i64 uE]] W fun r w' => r = .returned (.int .i64 z2) ∧ Below W.heap.size W w'))
    (c6 : Hid (∀ W : World, Calls Tryz.prog 85 #[.agg #[.bool uM, .string uS], .int .i64 k1] W fun r w' => r = .returned (.agg #[.bool mM, .string mS]) ∧ Below W.heap.size W w'))
    (c7 : Hid (∀ W : World, Calls Tryz.prog 85 #[.agg #[.bool yM, .string yS], .int .i64 k2] W fun r w' => r = .returned (.agg #[.bool dM, .string dS]) ∧ Below W.heap.size W w'))
    (c8 : Hid (∀ W : World, Calls Tryz.prog 84 #[.agg #[.bool mM, .string mS], .agg #[.bool dM, .string dS]] W fun r w' => r = .returned (.tuple #[.agg #[.bool qM, .string qS], .agg #[.bool rM, .string rS], .bool ok]) ∧ Below W.heap.size W w'))
    (c9 : Hid (∀ W : World, Calls Tryz.prog 86 #[.agg #[.bool qM, .string qS], .int .i64 np] W fun r w' => r = .returned (.agg #[.bool vM, .string vS, .int .i64 vE]) ∧ Below W.heap.size W w'))
    (c10 : Hid (∀ W : World, Calls Tryz.prog 81 #[.agg #[.bool rM, .string rS]] W fun r w' => r = .returned (.int .i64 z3) ∧ Below W.heap.size W w'))
    (c11 : Hid (∀ W : World, Calls Tryz.prog 88 #[.int .i64 1] W fun r w' => r = .returned (.agg #[.bool oM, .string oS]) ∧ Below W.heap.size W w'))
    (c12 : Hid (∀ W : World, Calls Tryz.prog 87 #[.agg #[.bool qM, .string qS], .agg #[.bool oM, .string oS]] W fun r w' => r = .returned (.agg #[.bool q'M, .string q'S]) ∧ Below W.heap.size W w'))
    (c13 : Hid (∀ W : World, Calls Tryz.prog 86 #[.agg #[.bool q'M, .string q'S], .int .i64 np] W fun r w' => r = .returned (.agg #[.bool v'M, .string v'S, .int .i64 v'E]) ∧ Below W.heap.size W w'))
    : Calls Tryz.prog 25 #[.agg #[.bool aM, .string aS, .int .i64 aE], .agg #[.bool bM, .string bS, .int .i64 bE], .int .i64 p] w fun r w' => r = .returned (.agg #[.bool vM, .string vS, .int .i64 vE, .bool v'M, .string v'S, .int .i64 v'E]) ∧ Below w.heap.size w w' := 
  RetAt.at <| ret_sk ttOk mixed (fun a w => Tryz.call25 a w) Tryz.func25 Tryz.ntmps25 Tryz.results25 _ rfl _ [.reg 4 [], .o 1 1 (.ret (.agg [.val (.bool xM), .val (.string xS), .val (.int .i64 xE)])), .o 1 3 (.ret (.agg [.val (.bool yM), .val (.string yS), .val (.int .i64 yE)])), .o 2 1 (.ret (.val (.int .i64 z1))), .br false, .o 4 2 (.ret (.agg [.val (.bool uM), .val (.string uS), .val (.int .i64 uE)])), .o 5 4 (.set (.int .i64 (min uE yE))), .o 6 1 (.ret (.val (.int .i64 z2))), .br false, .reg 21 [17, 18], .o 9 5 (.eq (.val (.int .i64 k1))), .o 9 6 (.ret (.agg [.val (.bool mM), .val (.string mS)])), .o 9 12 (.eq (.val (.int .i64 k2))), .o 9 13 (.ret (.agg [.val (.bool dM), .val (.string dS)])), .o 9 14 (.ret (.tup [.agg [.val (.bool qM), .val (.string qS)], .agg [.val (.bool rM), .val (.string rS)], .val (.bool ok)])), .reg 10 [], .o 10 2 (.eq (.val (.int .i64 np))), .o 10 3 (.ret (.agg [.val (.bool vM), .val (.string vS), .val (.int .i64 vE)])), .o 10 6 (.eq (.val (.int .i64 np))), .o 10 7 (.ret (.agg [.val (.bool vM), .val (.string vS), .val (.int .i64 vE)])), .o 11 1 (.ret (.val (.int .i64 z3))), .br true, .reg 7 [], .o 12 1 (.ret (.agg [.val (.bool oM), .val (.string oS)])), .o 12 2 (.ret (.agg [.val (.bool q'M), .val (.string q'S)])), .o 12 4 (.eq (.val (.int .i64 np))), .o 12 5 (.ret (.agg [.val (.bool v'M), .val (.string v'S), .val (.int .i64 v'E)]))] (fun W hW hR => ai (rc W Tryz.call82 c1.out) <| ai (rc W Tryz.call82 c2.out) <| ai (rc W Tryz.call24 c3.out) <| ai (lt_n h1) <| ai (rc W Tryz.call83 c4.out) <| ai (min_ok Tryz.prog W #[3, 3] 3 .i64 uE yE) <| ai (rc W Tryz.call24 c5.out) <| ai (eq_n h2) <| ai hk1.out <| ai (rc W Tryz.call85 c6.out) <| ai hk2.out <| ai (rc W Tryz.call85 c7.out) <| ai (rc W Tryz.call84 c8.out) <| ai (wn hnp.out) <| ai (rc W Tryz.call86 c9.out) <| ai (wn hnp.out) <| ai (rc W Tryz.call86 c9.out) <| ai (rc W Tryz.call81 c10.out) <| ai (ne_y h3) <| ai (rc W Tryz.call88 c11.out) <| ai (rc W Tryz.call87 c12.out) <| ai (wn hnp.out) <| ai (rc W Tryz.call86 c13.out) <| hR) fun W => by kernel_rfl

set_option maxRecDepth 100000 in
theorem rsQuo_nz (aM bM xM yM uM vM xnM ynM : Bool) (aS bS xS yS uS vS xnS ynS : ByteArray) (aE bE xE yE uE vE xnE ynE : Int) (mM dM qM rM : Bool) (mS dS qS rS : ByteArray) (ok : Bool) (p z1 z2 z3 k1 k2 np : Int) (h1 :  z1 < 0) (h2 :  z2 = 0) (h3 :  z3 = 0) (hk1 : Hid (IntKind.i64.wrap 0 = k1)) (hk2 : Hid (IntKind.i64.wrap 0 = k2)) (hnp : Hid (IntKind.i64.wrap (-p) = np)) (w : World) 
    (c1 : Hid (∀ W : World, Calls Tryz.prog 82 #[.agg #[.bool aM, .string aS, .int .i64 aE]] W fun r w' => r = .returned (.agg #[.bool xM, .string xS, .int .i64 xE]) ∧ Below W.heap.size W w'))
    (c2 : Hid (∀ W : World, Calls Tryz.prog 82 #[.agg #[.bool bM, .string bS, .int .i64 bE]] W fun r w' => r = .returned (.agg #[.bool yM, .string yS, .int .i64 yE]) ∧ Below W.heap.size W w'))
    (c3 : Hid (∀ W : World, Calls Tryz.prog 24 #[.agg #[.bool yM, .string yS, .int .i64 yE]] W fun r w' => r = .returned (.int .i64 z1) ∧ Below W.heap.size W w'))
    (n1 : Hid (∀ W : World, Calls Tryz.prog 75 #[.agg #[.bool xM, .string xS, .int .i64 xE]] W fun r w' => r = .returned (.agg #[.bool xnM, .string xnS, .int .i64 xnE]) ∧ Below W.heap.size W w'))
    (n2 : Hid (∀ W : World, Calls Tryz.prog 75 #[.agg #[.bool yM, .string yS, .int .i64 yE]] W fun r w' => r = .returned (.agg #[.bool ynM, .string ynS, .int .i64 ynE]) ∧ Below W.heap.size W w'))
    (c4 : Hid (∀ W : World, Calls Tryz.prog 83 #[.agg #[.bool xnM, .string xnS, .int .i64 xnE], .int .i64 p] W fun r w' => r = .returned (.agg #[.bool uM, .string uS, .int .i64 uE]) ∧ Below W.heap.size W w'))
    (c5 : Hid (∀ W : World, Calls Tryz.prog 24 #[.agg #[.bool uM, .string uS, .int .i64 uE]] W fun r w' => r = .returned (.int .i64 z2) ∧ Below W.heap.size W w'))
    (c6 : Hid (∀ W : World, Calls Tryz.prog 85 #[.agg #[.bool uM, .string uS], .int .i64 k1] W fun r w' => r = .returned (.agg #[.bool mM, .string mS]) ∧ Below W.heap.size W w'))
    (c7 : Hid (∀ W : World, Calls Tryz.prog 85 #[.agg #[.bool ynM, .string ynS], .int .i64 k2] W fun r w' => r = .returned (.agg #[.bool dM, .string dS]) ∧ Below W.heap.size W w'))
    (c8 : Hid (∀ W : World, Calls Tryz.prog 84 #[.agg #[.bool mM, .string mS], .agg #[.bool dM, .string dS]] W fun r w' => r = .returned (.tuple #[.agg #[.bool qM, .string qS], .agg #[.bool rM, .string rS], .bool ok]) ∧ Below W.heap.size W w'))
    (c9 : Hid (∀ W : World, Calls Tryz.prog 86 #[.agg #[.bool qM, .string qS], .int .i64 np] W fun r w' => r = .returned (.agg #[.bool vM, .string vS, .int .i64 vE]) ∧ Below W.heap.size W w'))
    (c10 : Hid (∀ W : World, Calls Tryz.prog 81 #[.agg #[.bool rM, .string rS]] W fun r w' => r = .returned (.int .i64 z3) ∧ Below W.heap.size W w'))
    : Calls Tryz.prog 25 #[.agg #[.bool aM, .string aS, .int .i64 aE], .agg #[.bool bM, .string bS, .int .i64 bE], .int .i64 p] w fun r w' => r = .returned (.agg #[.bool vM, .string vS, .int .i64 vE, .bool vM, .string vS, .int .i64 vE]) ∧ Below w.heap.size w w' := 
  RetAt.at <| ret_sk ttOk mixed (fun a w => Tryz.call25 a w) Tryz.func25 Tryz.ntmps25 Tryz.results25 _ rfl _ [.reg 4 [], .o 1 1 (.ret (.agg [.val (.bool xM), .val (.string xS), .val (.int .i64 xE)])), .o 1 3 (.ret (.agg [.val (.bool yM), .val (.string yS), .val (.int .i64 yE)])), .o 2 1 (.ret (.val (.int .i64 z1))), .br true, .reg 4 [], .o 3 1 (.ret (.agg [.val (.bool xnM), .val (.string xnS), .val (.int .i64 xnE)])), .o 3 3 (.ret (.agg [.val (.bool ynM), .val (.string ynS), .val (.int .i64 ynE)])), .o 4 2 (.ret (.agg [.val (.bool uM), .val (.string uS), .val (.int .i64 uE)])), .o 5 4 (.set (.int .i64 (min uE ynE))), .o 6 1 (.ret (.val (.int .i64 z2))), .br true, .reg 21 [17, 18], .o 9 5 (.eq (.val (.int .i64 k1))), .o 9 6 (.ret (.agg [.val (.bool mM), .val (.string mS)])), .o 9 12 (.eq (.val (.int .i64 k2))), .o 9 13 (.ret (.agg [.val (.bool dM), .val (.string dS)])), .o 9 14 (.ret (.tup [.agg [.val (.bool qM), .val (.string qS)], .agg [.val (.bool rM), .val (.string rS)], .val (.bool ok)])), .reg 10 [], .o 10 2 (.eq (.val (.int .i64 np))), .o 10 3 (.ret (.agg [.val (.bool vM), .val (.string vS), .val (.int .i64 vE)])), .o 10 6 (.eq (.val (.int .i64 np))), .o 10 7 (.ret (.agg [.val (.bool vM), .val (.string vS), .val (.int .i64 vE)])), .o 11 1 (.ret (.val (.int .i64 z3))), .br false] (fun W hW hR => ai (rc W Tryz.call82 c1.out) <| ai (rc W Tryz.call82 c2.out) <| ai (rc W Tryz.call24 c3.out) <| ai (lt_y h1) <| ai (rc W Tryz.call75 n1.out) <| ai (rc W Tryz.call75 n2.out) <| ai (rc W Tryz.call83 c4.out) <| ai (min_ok Tryz.prog W #[3, 3] 3 .i64 uE ynE) <| ai (rc W Tryz.call24 c5.out) <| ai (eq_y h2) <| ai (wz ynE hk1.out) <| ai (rc W Tryz.call85 c6.out) <| ai (wz ynE hk2.out) <| ai (rc W Tryz.call85 c7.out) <| ai (rc W Tryz.call84 c8.out) <| ai (wn hnp.out) <| ai (rc W Tryz.call86 c9.out) <| ai (wn hnp.out) <| ai (rc W Tryz.call86 c9.out) <| ai (rc W Tryz.call81 c10.out) <| ai (ne_n h3) <| hR) fun W => by kernel_rfl

set_option maxRecDepth 100000 in
theorem rsQuo_nv (aM bM xM yM uM vM xnM ynM : Bool) (aS bS xS yS uS vS xnS ynS : ByteArray) (aE bE xE yE uE vE xnE ynE : Int) (mM dM qM rM : Bool) (mS dS qS rS : ByteArray) (ok : Bool) (p z1 z2 z3 k1 k2 np : Int) (h1 :  z1 < 0) (h2 : ¬ z2 = 0) (h3 :  z3 = 0) (hk1 : Hid (IntKind.i64.wrap (uE - (min uE ynE)) = k1)) (hk2 : Hid (IntKind.i64.wrap (ynE - (min uE ynE)) = k2)) (hnp : Hid (IntKind.i64.wrap (-p) = np)) (w : World) 
    (c1 : Hid (∀ W : World, Calls Tryz.prog 82 #[.agg #[.bool aM, .string aS, .int .i64 aE]] W fun r w' => r = .returned (.agg #[.bool xM, .string xS, .int .i64 xE]) ∧ Below W.heap.size W w'))
    (c2 : Hid (∀ W : World, Calls Tryz.prog 82 #[.agg #[.bool bM, .string bS, .int .i64 bE]] W fun r w' => r = .returned (.agg #[.bool yM, .string yS, .int .i64 yE]) ∧ Below W.heap.size W w'))
    (c3 : Hid (∀ W : World, Calls Tryz.prog 24 #[.agg #[.bool yM, .string yS, .int .i64 yE]] W fun r w' => r = .returned (.int .i64 z1) ∧ Below W.heap.size W w'))
    (n1 : Hid (∀ W : World, Calls Tryz.prog 75 #[.agg #[.bool xM, .string xS, .int .i64 xE]] W fun r w' => r = .returned (.agg #[.bool xnM, .string xnS, .int .i64 xnE]) ∧ Below W.heap.size W w'))
    (n2 : Hid (∀ W : World, Calls Tryz.prog 75 #[.agg #[.bool yM, .string yS, .int .i64 yE]] W fun r w' => r = .returned (.agg #[.bool ynM, .string ynS, .int .i64 ynE]) ∧ Below W.heap.size W w'))
    (c4 : Hid (∀ W : World, Calls Tryz.prog 83 #[.agg #[.bool xnM, .string xnS, .int .i64 xnE], .int .i64 p] W fun r w' => r = .returned (.agg #[.bool uM, .string uS, .int .i64 uE]) ∧ Below W.heap.size W w'))
    (c5 : Hid (∀ W : World, Calls Tryz.prog 24 #[.agg #[.bool uM, .string uS, .int .i64 uE]] W fun r w' => r = .returned (.int .i64 z2) ∧ Below W.heap.size W w'))
    (c6 : Hid (∀ W : World, Calls Tryz.prog 85 #[.agg #[.bool uM, .string uS], .int .i64 k1] W fun r w' => r = .returned (.agg #[.bool mM, .string mS]) ∧ Below W.heap.size W w'))
    (c7 : Hid (∀ W : World, Calls Tryz.prog 85 #[.agg #[.bool ynM, .string ynS], .int .i64 k2] W fun r w' => r = .returned (.agg #[.bool dM, .string dS]) ∧ Below W.heap.size W w'))
    (c8 : Hid (∀ W : World, Calls Tryz.prog 84 #[.agg #[.bool mM, .string mS], .agg #[.bool dM, .string dS]] W fun r w' => r = .returned (.tuple #[.agg #[.bool qM, .string qS], .agg #[.bool rM, .string rS], .bool ok]) ∧ Below W.heap.size W w'))
    (c9 : Hid (∀ W : World, Calls Tryz.prog 86 #[.agg #[.bool qM, .string qS], .int .i64 np] W fun r w' => r = .returned (.agg #[.bool vM, .string vS, .int .i64 vE]) ∧ Below W.heap.size W w'))
    (c10 : Hid (∀ W : World, Calls Tryz.prog 81 #[.agg #[.bool rM, .string rS]] W fun r w' => r = .returned (.int .i64 z3) ∧ Below W.heap.size W w'))
    : Calls Tryz.prog 25 #[.agg #[.bool aM, .string aS, .int .i64 aE], .agg #[.bool bM, .string bS, .int .i64 bE], .int .i64 p] w fun r w' => r = .returned (.agg #[.bool vM, .string vS, .int .i64 vE, .bool vM, .string vS, .int .i64 vE]) ∧ Below w.heap.size w w' := 
  RetAt.at <| ret_sk ttOk mixed (fun a w => Tryz.call25 a w) Tryz.func25 Tryz.ntmps25 Tryz.results25 _ rfl _ [.reg 4 [], .o 1 1 (.ret (.agg [.val (.bool xM), .val (.string xS), .val (.int .i64 xE)])), .o 1 3 (.ret (.agg [.val (.bool yM), .val (.string yS), .val (.int .i64 yE)])), .o 2 1 (.ret (.val (.int .i64 z1))), .br true, .reg 4 [], .o 3 1 (.ret (.agg [.val (.bool xnM), .val (.string xnS), .val (.int .i64 xnE)])), .o 3 3 (.ret (.agg [.val (.bool ynM), .val (.string ynS), .val (.int .i64 ynE)])), .o 4 2 (.ret (.agg [.val (.bool uM), .val (.string uS), .val (.int .i64 uE)])), .o 5 4 (.set (.int .i64 (min uE ynE))), .o 6 1 (.ret (.val (.int .i64 z2))), .br false, .reg 21 [17, 18], .o 9 5 (.eq (.val (.int .i64 k1))), .o 9 6 (.ret (.agg [.val (.bool mM), .val (.string mS)])), .o 9 12 (.eq (.val (.int .i64 k2))), .o 9 13 (.ret (.agg [.val (.bool dM), .val (.string dS)])), .o 9 14 (.ret (.tup [.agg [.val (.bool qM), .val (.string qS)], .agg [.val (.bool rM), .val (.string rS)], .val (.bool ok)])), .reg 10 [], .o 10 2 (.eq (.val (.int .i64 np))), .o 10 3 (.ret (.agg [.val (.bool vM), .val (.string vS), .val (.int .i64 vE)])), .o 10 6 (.eq (.val (.int .i64 np))), .o 10 7 (.ret (.agg [.val (.bool vM), .val (.string vS), .val (.int .i64 vE)])), .o 11 1 (.ret (.val (.int .i64 z3))), .br false] (fun W hW hR => ai (rc W Tryz.call82 c1.out) <| ai (rc W Tryz.call82 c2.out) <| ai (rc W Tryz.call24 c3.out) <| ai (lt_y h1) <| ai (rc W Tryz.call75 n1.out) <| ai (rc W Tryz.call75 n2.out) <| ai (rc W Tryz.call83 c4.out) <| ai (min_ok Tryz.prog W #[3, 3] 3 .i64 uE ynE) <| ai (rc W Tryz.call24 c5.out) <| ai (eq_n h2) <| ai hk1.out <| ai (rc W Tryz.call85 c6.out) <| ai hk2.out <| ai (rc W Tryz.call85 c7.out) <| ai (rc W Tryz.call84 c8.out) <| ai (wn hnp.out) <| ai (rc W Tryz.call86 c9.out) <| ai (wn hnp.out) <| ai (rc W Tryz.call86 c9.out) <| ai (rc W Tryz.call81 c10.out) <| ai (ne_n h3) <| hR) fun W => by kernel_rfl

set_option maxRecDepth 100000 in
theorem rsQuo_nvr (aM bM xM yM uM vM xnM ynM v'M : Bool) (aS bS xS yS uS vS xnS ynS v'S : ByteArray) (aE bE xE yE uE vE xnE ynE v'E : Int) (mM dM qM rM oM q'M : Bool) (mS dS qS rS oS q'S : ByteArray) (ok : Bool) (p z1 z2 z3 k1 k2 np : Int) (h1 :  z1 < 0) (h2 : ¬ z2 = 0) (h3 : ¬ z3 = 0) (hk1 : Hid (IntKind.i64.wrap (uE - (min uE ynE)) = k1)) (hk2 : Hid (IntKind.i64.wrap (ynE - (min uE ynE)) = k2)) (hnp : Hid (IntKind.i64.wrap (-p) = np)) (w : World) 
    (c1 : Hid (∀ W : World, Calls Tryz.prog 82 #[.agg #[.bool aM, .string aS, .int .i64 aE]] W fun r w' => r = .returned (.agg #[.bool xM, .string xS, .int .i64 xE]) ∧ Below W.heap.size W w'))
    (c2 : Hid (∀ W : World, Calls Tryz.prog 82 #[.agg #[.bool bM, .string bS, .int .i64 bE]] W fun r w' => r = .returned (.agg #[.bool yM, .string yS, .int .i64 yE]) ∧ Below W.heap.size W w'))
    (c3 : Hid (∀ W : World, Calls Tryz.prog 24 #[.agg #[.bool yM, .string yS, .int .i64 yE]] W fun r w' => r = .returned (.int .i64 z1) ∧ Below W.heap.size W w'))
    (n1 : Hid (∀ W : World, Calls Tryz.prog 75 #[.agg #[.bool xM, .string xS, .int .i64 xE]] W fun r w' => r = .returned (.agg #[.bool xnM, .string xnS, .int .i64 xnE]) ∧ Below W.heap.size W w'))
    (n2 : Hid (∀ W : World, Calls Tryz.prog 75 #[.agg #[.bool yM, .string yS, .int .i64 yE]] W fun r w' => r = .returned (.agg #[.bool ynM, .string ynS, .int .i64 ynE]) ∧ Below W.heap.size W w'))
    (c4 : Hid (∀ W : World, Calls Tryz.prog 83 #[.agg #[.bool xnM, .string xnS, .int .i64 xnE], .int .i64 p] W fun r w' => r = .returned (.agg #[.bool uM, .string uS, .int .i64 uE]) ∧ Below W.heap.size W w'))
    (c5 : Hid (∀ W : World, Calls Tryz.prog 24 #[.agg #[.bool uM, .string uS, .int .i64 uE]] W fun r w' => r = .returned (.int .i64 z2) ∧ Below W.heap.size W w'))
    (c6 : Hid (∀ W : World, Calls Tryz.prog 85 #[.agg #[.bool uM, .string uS], .int .i64 k1] W fun r w' => r = .returned (.agg #[.bool mM, .string mS]) ∧ Below W.heap.size W w'))
    (c7 : Hid (∀ W : World, Calls Tryz.prog 85 #[.agg #[.bool ynM, .string ynS], .int .i64 k2] W fun r w' => r = .returned (.agg #[.bool dM, .string dS]) ∧ Below W.heap.size W w'))
    (c8 : Hid (∀ W : World, Calls Tryz.prog 84 #[.agg #[.bool mM, .string mS], .agg #[.bool dM, .string dS]] W fun r w' => r = .returned (.tuple #[.agg #[.bool qM, .string qS], .agg #[.bool rM, .string rS], .bool ok]) ∧ Below W.heap.size W w'))
    (c9 : Hid (∀ W : World, Calls Tryz.prog 86 #[.agg #[.bool qM, .string qS], .int .i64 np] W fun r w' => r = .returned (.agg #[.bool vM, .string vS, .int .i64 vE]) ∧ Below W.heap.size W w'))
    (c10 : Hid (∀ W : World, Calls Tryz.prog 81 #[.agg #[.bool rM, .string rS]] W fun r w' => r = .returned (.int .i64 z3) ∧ Below W.heap.size W w'))
    (c11 : Hid (∀ W : World, Calls Tryz.prog 88 #[.int .i64 1] W fun r w' => r = .returned (.agg #[.bool oM, .string oS]) ∧ Below W.heap.size W w'))
    (c12 : Hid (∀ W : World, Calls Tryz.prog 87 #[.agg #[.bool qM, .string qS], .agg #[.bool oM, .string oS]] W fun r w' => r = .returned (.agg #[.bool q'M, .string q'S]) ∧ Below W.heap.size W w'))
    (c13 : Hid (∀ W : World, Calls Tryz.prog 86 #[.agg #[.bool q'M, .string q'S], .int .i64 np] W fun r w' => r = .returned (.agg #[.bool v'M, .string v'S, .int .i64 v'E]) ∧ Below W.heap.size W w'))
    : Calls Tryz.prog 25 #[.agg #[.bool aM, .string aS, .int .i64 aE], .agg #[.bool bM, .string bS, .int .i64 bE], .int .i64 p] w fun r w' => r = .returned (.agg #[.bool vM, .string vS, .int .i64 vE, .bool v'M, .string v'S, .int .i64 v'E]) ∧ Below w.heap.size w w' := 
  RetAt.at <| ret_sk ttOk mixed (fun a w => Tryz.call25 a w) Tryz.func25 Tryz.ntmps25 Tryz.results25 _ rfl _ [.reg 4 [], .o 1 1 (.ret (.agg [.val (.bool xM), .val (.string xS), .val (.int .i64 xE)])), .o 1 3 (.ret (.agg [.val (.bool yM), .val (.string yS), .val (.int .i64 yE)])), .o 2 1 (.ret (.val (.int .i64 z1))), .br true, .reg 4 [], .o 3 1 (.ret (.agg [.val (.bool xnM), .val (.string xnS), .val (.int .i64 xnE)])), .o 3 3 (.ret (.agg [.val (.bool ynM), .val (.string ynS), .val (.int .i64 ynE)])), .o 4 2 (.ret (.agg [.val (.bool uM), .val (.string uS), .val (.int .i64 uE)])), .o 5 4 (.set (.int .i64 (min uE ynE))), .o 6 1 (.ret (.val (.int .i64 z2))), .br false, .reg 21 [17, 18], .o 9 5 (.eq (.val (.int .i64 k1))), .o 9 6 (.ret (.agg [.val (.bool mM), .val (.string mS)])), .o 9 12 (.eq (.val (.int .i64 k2))), .o 9 13 (.ret (.agg [.val (.bool dM), .val (.string dS)])), .o 9 14 (.ret (.tup [.agg [.val (.bool qM), .val (.string qS)], .agg [.val (.bool rM), .val (.string rS)], .val (.bool ok)])), .reg 10 [], .o 10 2 (.eq (.val (.int .i64 np))), .o 10 3 (.ret (.agg [.val (.bool vM), .val (.string vS), .val (.int .i64 vE)])), .o 10 6 (.eq (.val (.int .i64 np))), .o 10 7 (.ret (.agg [.val (.bool vM), .val (.string vS), .val (.int .i64 vE)])), .o 11 1 (.ret (.val (.int .i64 z3))), .br true, .reg 7 [], .o 12 1 (.ret (.agg [.val (.bool oM), .val (.string oS)])), .o 12 2 (.ret (.agg [.val (.bool q'M), .val (.string q'S)])), .o 12 4 (.eq (.val (.int .i64 np))), .o 12 5 (.ret (.agg [.val (.bool v'M), .val (.string v'S), .val (.int .i64 v'E)]))] (fun W hW hR => ai (rc W Tryz.call82 c1.out) <| ai (rc W Tryz.call82 c2.out) <| ai (rc W Tryz.call24 c3.out) <| ai (lt_y h1) <| ai (rc W Tryz.call75 n1.out) <| ai (rc W Tryz.call75 n2.out) <| ai (rc W Tryz.call83 c4.out) <| ai (min_ok Tryz.prog W #[3, 3] 3 .i64 uE ynE) <| ai (rc W Tryz.call24 c5.out) <| ai (eq_n h2) <| ai hk1.out <| ai (rc W Tryz.call85 c6.out) <| ai hk2.out <| ai (rc W Tryz.call85 c7.out) <| ai (rc W Tryz.call84 c8.out) <| ai (wn hnp.out) <| ai (rc W Tryz.call86 c9.out) <| ai (wn hnp.out) <| ai (rc W Tryz.call86 c9.out) <| ai (rc W Tryz.call81 c10.out) <| ai (ne_y h3) <| ai (rc W Tryz.call88 c11.out) <| ai (rc W Tryz.call87 c12.out) <| ai (wn hnp.out) <| ai (rc W Tryz.call86 c13.out) <| hR) fun W => by kernel_rfl

end Go.Proofs.YtchfglbkiebfpaaGreatDoor

namespace Go.Proofs.YtchfglbkiebfpaaGreatDoor
open Go.RowKit

set_option maxRecDepth 100000 in
theorem rsDiv_zero (aM bM dM fM : Bool) (aS bS dS fS : ByteArray) (aE bE dE fE : Int) (p : Int) (w : World)
    (cH : Hid (∀ (W : World), Calls Tryz.prog 32 #[.agg #[.bool dM, .string dS, .int .i64 dE, .bool fM, .string fS, .int .i64 fE], .agg #[.bool false, .string ⟨#[]⟩, .int .i64 0]] W fun r w' => r = .returned (.bool true) ∧ Below W.heap.size W w'))
    :
    Calls Tryz.prog 27 #[.agg #[.bool aM, .string aS, .int .i64 aE, .bool bM, .string bS, .int .i64 bE], .agg #[.bool dM, .string dS, .int .i64 dE, .bool fM, .string fS, .int .i64 fE], .int .i64 (p)] w fun r w' => r = .returned (.tuple #[.agg #[.bool false, .string ⟨#[]⟩, .int .i64 0, .bool false, .string ⟨#[]⟩, .int .i64 0], .bool false]) ∧ Below w.heap.size w w' :=
  RetAt.at <| ret_sk ttOk mixed (fun a w => Tryz.call27 a w) Tryz.func27 Tryz.ntmps27 Tryz.results27 _ rfl _ [.o 1 2 (.ret (.val (.bool true)))] (fun W hW hR => ai (rc W Tryz.call32 fun W => cH.out W) <| hR) fun W => by kernel_rfl

set_option maxRecDepth 100000 in
theorem rsDiv_some (aM bM dM fM xM yM kM lM mM nM k'M l'M m'M n'M : Bool) (aS bS dS fS xS yS kS lS mS nS k'S l'S m'S n'S : ByteArray) (aE bE dE fE xE yE kE lE mE nE k'E l'E m'E n'E : Int) (p : Int) (w : World)
    (cH : Hid (∀ (W : World), Calls Tryz.prog 32 #[.agg #[.bool dM, .string dS, .int .i64 dE, .bool fM, .string fS, .int .i64 fE], .agg #[.bool false, .string ⟨#[]⟩, .int .i64 0]] W fun r w' => r = .returned (.bool false) ∧ Below W.heap.size W w'))
    (c1 : Hid (∀ (W : World), Calls Tryz.prog 25 #[.agg #[.bool aM, .string aS, .int .i64 aE], .agg #[.bool dM, .string dS, .int .i64 dE], .int .i64 (p)] W fun r w' => r = .returned (.agg #[.bool kM, .string kS, .int .i64 kE, .bool k'M, .string k'S, .int .i64 k'E]) ∧ Below W.heap.size W w'))
    (c2 : Hid (∀ (W : World), Calls Tryz.prog 25 #[.agg #[.bool aM, .string aS, .int .i64 aE], .agg #[.bool fM, .string fS, .int .i64 fE], .int .i64 (p)] W fun r w' => r = .returned (.agg #[.bool lM, .string lS, .int .i64 lE, .bool l'M, .string l'S, .int .i64 l'E]) ∧ Below W.heap.size W w'))
    (c3 : Hid (∀ (W : World), Calls Tryz.prog 25 #[.agg #[.bool bM, .string bS, .int .i64 bE], .agg #[.bool dM, .string dS, .int .i64 dE], .int .i64 (p)] W fun r w' => r = .returned (.agg #[.bool mM, .string mS, .int .i64 mE, .bool m'M, .string m'S, .int .i64 m'E]) ∧ Below W.heap.size W w'))
    (c4 : Hid (∀ (W : World), Calls Tryz.prog 25 #[.agg #[.bool bM, .string bS, .int .i64 bE], .agg #[.bool fM, .string fS, .int .i64 fE], .int .i64 (p)] W fun r w' => r = .returned (.agg #[.bool nM, .string nS, .int .i64 nE, .bool n'M, .string n'S, .int .i64 n'E]) ∧ Below W.heap.size W w'))
    (c5 : Hid (∀ (g : Nat) (W : World), Bx W g 27 #[.bool kM, .string kS, .int .i64 kE, .bool k'M, .string k'S, .int .i64 k'E, .bool lM, .string lS, .int .i64 lE, .bool l'M, .string l'S, .int .i64 l'E, .bool mM, .string mS, .int .i64 mE, .bool m'M, .string m'S, .int .i64 m'E, .bool nM, .string nS, .int .i64 nE, .bool n'M, .string n'S, .int .i64 n'E] → Calls Tryz.prog 35 #[.slice (some ⟨g, 0, none⟩) 4 4] W fun r w' => r = .returned (.agg #[.bool xM, .string xS, .int .i64 xE, .bool yM, .string yS, .int .i64 yE]) ∧ Below W.heap.size W w'))
    :
    Calls Tryz.prog 27 #[.agg #[.bool aM, .string aS, .int .i64 aE, .bool bM, .string bS, .int .i64 bE], .agg #[.bool dM, .string dS, .int .i64 dE, .bool fM, .string fS, .int .i64 fE], .int .i64 (p)] w fun r w' => r = .returned (.tuple #[.agg #[.bool xM, .string xS, .int .i64 xE, .bool yM, .string yS, .int .i64 yE], .bool true]) ∧ Below w.heap.size w w' :=
  RetAt.at <| ret_sk ttOk mixed (fun a w => Tryz.call27 a w) Tryz.func27 Tryz.ntmps27 Tryz.results27 _ rfl _ [.o 1 2 (.ret (.val (.bool false))), .reg 26 [], .o 3 5 (.ret (.val (rS kM kS kE k'M k'S k'E))), .o 3 11 (.ret (.val (rS lM lS lE l'M l'S l'E))), .o 3 17 (.ret (.val (rS mM mS mE m'M m'S m'E))), .o 3 23 (.ret (.val (rS nM nS nE n'M n'S n'E))), .o 3 25 (.ret (.val (rS xM xS xE yM yS yE)))] (fun W hW hR => ai (rc W Tryz.call32 fun W => cH.out W) <| ai (rc W Tryz.call25 fun W => c1.out W) <| ai (rc W Tryz.call25 fun W => c2.out W) <| ai (rc W Tryz.call25 fun W => c3.out W) <| ai (rc W Tryz.call25 fun W => c4.out W) <| ai (rg0 W Tryz.call35 fun W g hx => c5.out g W hx) <| hR) fun W => by kernel_rfl

end Go.Proofs.YtchfglbkiebfpaaGreatDoor

