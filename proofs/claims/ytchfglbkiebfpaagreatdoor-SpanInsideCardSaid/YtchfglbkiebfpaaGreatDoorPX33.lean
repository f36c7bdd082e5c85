/- The walks and plain laws beneath the statements. -/
import Derived.Test.YtchfglbkiebfpaaGreatDoorPX30
import Derived.Test.YtchfglbkiebfpaaGreatDoorPX32
namespace Go.Proofs.YtchfglbkiebfpaaGreatDoor
open Go Go.RowKit


set_option maxRecDepth 100000 in
theorem inside_far {b c b' c' : Bool} {s t s' t' : ByteArray} {e f e' f' : Int} {n m : Nat} {p : Int} (ho : ¬ ((okN s e ∧ okN t f) ∧ (okN s' e' ∧ okN t' f'))) (w : World) (hT : Tab0 w) : RetAt Tryz.prog w 7 #[rS b s e c t f, rS b' s' e' c' t' f', .int .u8 (n : Int), .int .u8 (m : Int), .int .i64 p] (.bool true) := 
  ret_sk ttOk mixed (fun a w => Tryz.call7 a w) Tryz.func7 Tryz.ntmps7 Tryz.results7 _ rfl _ [.o 1 3 (.ret (.val (.bool true))), .o 2 0 (.ret (.val (.bool true)))] (fun W hW hR => (fun (hT : Tab0 W) => ai (rg1 hT Tryz.call14 fun W g h (hx : Bx W g 27 #[.bool b, .string s, .int .i64 e, .bool c, .string t, .int .i64 f, .bool b', .string s', .int .i64 e', .bool c', .string t', .int .i64 f']) => far2_yes ho hx) <| ai (rt hT Tryz.call15 sawake_any) <| hR) (tab_keep hT hW)) fun W => by kernel_rfl

set_option maxRecDepth 100000 in
theorem inside_lo {b c b' c' : Bool} {s t s' t' : ByteArray} {e f e' f' : Int} {n m : Nat} {p : Int} (ho : ((okN s e ∧ okN t f) ∧ (okN s' e' ∧ okN t' f'))) (hl : p < -300) (w : World) (hT : Tab0 w) : RetAt Tryz.prog w 7 #[rS b s e c t f, rS b' s' e' c' t' f', .int .u8 (n : Int), .int .u8 (m : Int), .int .i64 p] (.bool true) := 
  ret_sk ttOk mixed (fun a w => Tryz.call7 a w) Tryz.func7 Tryz.ntmps7 Tryz.results7 _ rfl _ [.o 1 3 (.ret (.val (.bool false))), .g 1 9 false, .g 1 10 false, .o 1 11 (.pk true), .o 2 0 (.ret (.val (.bool true)))] (fun W hW hR => (fun (hT : Tab0 W) => ai (rg1 hT Tryz.call14 fun W g h (hx : Bx W g 27 #[.bool b, .string s, .int .i64 e, .bool c, .string t, .int .i64 f, .bool b', .string s', .int .i64 e', .bool c', .string t', .int .i64 f']) => far2_no ho hx) <| ai (lt_y hl) <| ai (lt_y hl) <| ai (lt_y hl) <| ai (rt hT Tryz.call15 sawake_any) <| hR) (tab_keep hT hW)) fun W => by kernel_rfl

set_option maxRecDepth 100000 in
theorem inside_hi {b c b' c' : Bool} {s t s' t' : ByteArray} {e f e' f' : Int} {n m : Nat} {p : Int} (ho : ((okN s e ∧ okN t f) ∧ (okN s' e' ∧ okN t' f'))) (hl : ¬ p < -300) (hh : p > 300) (w : World) (hT : Tab0 w) : RetAt Tryz.prog w 7 #[rS b s e c t f, rS b' s' e' c' t' f', .int .u8 (n : Int), .int .u8 (m : Int), .int .i64 p] (.bool true) := 
  ret_sk ttOk mixed (fun a w => Tryz.call7 a w) Tryz.func7 Tryz.ntmps7 Tryz.results7 _ rfl _ [.o 1 3 (.ret (.val (.bool false))), .g 1 9 true, .g 1 10 true, .o 1 11 (.pk false), .br true, .o 2 0 (.ret (.val (.bool true)))] (fun W hW hR => (fun (hT : Tab0 W) => ai (rg1 hT Tryz.call14 fun W g h (hx : Bx W g 27 #[.bool b, .string s, .int .i64 e, .bool c, .string t, .int .i64 f, .bool b', .string s', .int .i64 e', .bool c', .string t', .int .i64 f']) => far2_no ho hx) <| ai (lt_n hl) <| ai (lt_n hl) <| ai (lt_n hl) <| ai (gt_y hh) <| ai (rt hT Tryz.call15 sawake_any) <| hR) (tab_keep hT hW)) fun W => by kernel_rfl

set_option maxRecDepth 100000 in
theorem inside_x {b c b' c' : Bool} {s t s' t' : ByteArray} {e f e' f' : Int} {x y x' y' : Dyadic} {n m : Nat} {p : Int} (ho : ((okN s e ∧ okN t f) ∧ (okN s' e' ∧ okN t' f'))) (hl : ¬ p < -300) (hh : ¬ p > 300) (hn : n < 256) (hm : m < 256) (n1 : ND b s e x) (n2 : ND c t f y) (n3 : ND b' s' e' x') (n4 : ND c' t' f' y') (d1 : DB 300 620 x) (d2 : DB 300 620 y) (d3 : DB 300 620 x') (d4 : DB 300 620 y') (hp1 : -((300 : Nat) : Int) ≤ p) (hp2 : p ≤ ((300 : Nat) : Int)) (w : World) (hT : Tab0 w) : RetAt Tryz.prog w 7 #[rS b s e c t f, rS b' s' e' c' t' f', .int .u8 (n : Int), .int .u8 (m : Int), .int .i64 p] (.bool true) := by
  have d1_ : DB 308 630 (placeD x y n) := place_db hn d1 d2
  have d2_ : DB 308 630 (placeD x' y' m) := place_db hm d3 d4
  have d3_ : DB 300 621 (dmin x y + dmin x' y') := db_add (db_dmin d1 d2) (db_dmin d3 d4)
  have d4_ : DB 300 621 (dmax x y + dmax x' y') := db_add (db_dmax d1 d2) (db_dmax d3 d4)
  have d5_ : DB 308 631 ((placeD x y n) + (placeD x' y' m)) := db_add d1_ d2_
  have d6_ : DB 600 1240 (dmin4 (x * x') (x * y') (y * x') (y * y')) := db_dmin (db_dmin (db_dmin (db_mul d1 d3) (db_mul d1 d4)) (db_mul d2 d3)) (db_mul d2 d4)
  have d7_ : DB 600 1240 (dmax4 (x * x') (x * y') (y * x') (y * y')) := db_dmax (db_dmax (db_dmax (db_mul d1 d3) (db_mul d1 d4)) (db_mul d2 d3)) (db_mul d2 d4)
  have d8_ : DB 616 1260 ((placeD x y n) * (placeD x' y' m)) := db_mul d1_ d2_
  have d9_ : DB 300 620 (dmin4 x y x' y') := db_dmin (db_dmin (db_dmin d1 d2) d3) d4
  have d10_ : DB 300 620 (dmax4 x y x' y') := db_dmax (db_dmax (db_dmax d1 d2) d3) d4
  have d11_ : DB 300 2440 (bif hasB x' y' 0 then 0 else dmin4 (quoD x x' p) (quoD x y' p) (quoD y x' p) (quoD y y' p)) := (db_div (L := 300) (T := 620) (P := 300) (hasB x' y' 0) d1 d2 d3 d4 hp1 hp2).1
  have d12_ : DB 300 2440 (bif hasB x' y' 0 then 0 else dmax4 (quoU x x' p) (quoU x y' p) (quoU y x' p) (quoU y y' p)) := (db_div (L := 300) (T := 620) (P := 300) (hasB x' y' 0) d1 d2 d3 d4 hp1 hp2).2
  have d13_ : DB 300 2476 (quoD (placeD x y n) (placeD x' y' m) p) := db_quo (L := 308) (T0 := 630) (P := 300) d1_ d2_ hp1 hp2
  have d14_ : DB 300 2476 (quoU (placeD x y n) (placeD x' y' m) p) := db_quoU (L := 308) (T0 := 630) (P := 300) d1_ d2_ hp1 hp2
  exact 
  ret_sk ttOk mixed (fun a w => Tryz.call7 a w) Tryz.func7 Tryz.ntmps7 Tryz.results7 _ rfl _ [.o 1 3 (.ret (.val (.bool false))), .g 1 9 true, .g 1 10 true, .o 1 11 (.pk false), .br false, .reg 8 [], .o 3 2 (.ret (.val (vN (placeD x y n)))), .o 3 5 (.ret (.val (vN (placeD x' y' m)))), .reg 42 [], .o 4 2 (.ret (.val (.bool true))), .o 4 7 (.ret (.val (.bool true))), .o 4 14 (.ret (.val (vS (dmin x y + dmin x' y') (dmax x y + dmax x' y')))), .o 4 18 (.ret (.val (vN ((placeD x y n) + (placeD x' y' m))))), .o 4 19 (.ret (.val (.bool true))), .o 4 25 (.ret (.val (vS (dmin4 (x * x') (x * y') (y * x') (y * y')) (dmax4 (x * x') (x * y') (y * x') (y * y'))))), .o 4 29 (.ret (.val (vN ((placeD x y n) * (placeD x' y' m))))), .o 4 30 (.ret (.val (.bool true))), .o 4 37 (.ret (.val (vS (dmin4 x y x' y') (dmax4 x y x' y')))), .o 4 39 (.ret (.val (.bool true))), .o 6 3 (.ret (.tup [.val (vS (bif hasB x' y' 0 then 0 else dmin4 (quoD x x' p) (quoD x y' p) (quoD y x' p) (quoD y y' p)) (bif hasB x' y' 0 then 0 else dmax4 (quoU x x' p) (quoU x y' p) (quoU y x' p) (quoU y y' p))), .val (.int .i64 (bif hasB x' y' 0 then 1 else 0))])), .both [.o 8 2 (.ret (.val (.bool true))), .o 8 4 (.ret (.val (.bool true)))] [.o 9 3 (.ret (.tup [.val (vS (quoD (placeD x y n) (placeD x' y' m) p) (quoU (placeD x y n) (placeD x' y' m) p)), .val (.int .i64 0)])), .o 10 5 (.ret (.val (.bool true))), .o 10 8 (.ret (.val (.bool true)))]] (fun W hW hR => (fun (hT : Tab0 W) => ai (rg1 hT Tryz.call14 fun W g h (hx : Bx W g 27 #[.bool b, .string s, .int .i64 e, .bool c, .string t, .int .i64 f, .bool b', .string s', .int .i64 e', .bool c', .string t', .int .i64 f']) => far2_no ho hx) <| ai (lt_n hl) <| ai (lt_n hl) <| ai (lt_n hl) <| ai (gt_n hh) <| ai (place_c hn n1 n2 d1 d2 W hT) <| ai (place_c hm n3 n4 d3 d4 W hT) <| ai (rt hT Tryz.call37 (sHas_t (has_btw (place_btw x y (Nat.le_of_lt hn))) n1 n2 (nd_db d1_ (by decide)) d1 d2 (by decide))) <| ai (rt hT Tryz.call37 (sHas_t (has_btw (place_btw x' y' (Nat.le_of_lt hm))) n3 n4 (nd_db d2_ (by decide)) d3 d4 (by decide))) <| ai (rg1 hT Tryz.call16 fun W g h hx => sAdd2 n1 n2 n3 n4 d1 d2 d3 d4 (by decide) h hx) <| ai (rg1 hT Tryz.call38 fun W g h hx => dAdd2N (nd_db d1_ (by decide)) (nd_db d2_ (by decide)) d1_ d2_ (by decide) h hx) <| ai (rt hT Tryz.call37 (sHas_t (has_add (place_btw x y (Nat.le_of_lt hn)) (place_btw x' y' (Nat.le_of_lt hm))) (nd_db d3_ (by decide)) (nd_db d4_ (by decide)) (nd_db d5_ (by decide)) d3_ d4_ (by decide))) <| ai (rt hT Tryz.call20 fun W h => sMul_any W n1 n2 n3 n4 d1 d2 d3 d4 (by decide) h) <| ai (rg1 hT Tryz.call39 fun W g h hx => dMul2N (nd_db d1_ (by decide)) (nd_db d2_ (by decide)) d1_ d2_ (by decide) h hx) <| ai (rt hT Tryz.call37 (sHas_t (has_mul (place_btw x y (Nat.le_of_lt hn)) (place_btw x' y' (Nat.le_of_lt hm))) (nd_db d6_ (by decide)) (nd_db d7_ (by decide)) (nd_db d8_ (by decide)) d6_ d7_ (by decide))) <| ai (rg1 hT Tryz.call34 fun W g h hx => sHull2 n1 n2 n3 n4 h hx) <| ai (rt hT Tryz.call37 (sHas_t (has_hull (place_btw x y (Nat.le_of_lt hn))) (nd_db d9_ (by decide)) (nd_db d10_ (by decide)) (nd_db d1_ (by decide)) d9_ d10_ (by decide))) <| ai (rt hT Tryz.call26 (sDiv_e p n1 n2 d1 d2 n3 n4 d3 d4 (by decide) hp1 hp2)) <| ai (fun hz : ((bif hasB x' y' 0 then 1 else 0) != 0) = true => ai (rt hT Tryz.call37 (sHas_t (zt hz) n3 n4 nd_zero0 d3 d4 (by decide))) <| ai (rt hT Tryz.call15 sawake_any) <| hR) fun hz : ((bif hasB x' y' 0 then 1 else 0) != 0) = false => ai (rt hT Tryz.call23 (sQuo_ne (btw_ne (zf hz) (place_btw x' y' (Nat.le_of_lt hm))) p (nd_db d1_ (by decide)) (nd_db d2_ (by decide)) d1_ d2_ (by decide) hp1 hp2)) <| ai (rt hT Tryz.call33 (sWithin_t ((has_quo p (place_btw x y (Nat.le_of_lt hn)) (place_btw x' y' (Nat.le_of_lt hm)) (zf hz) (zf hz)).1) ((has_quo p (place_btw x y (Nat.le_of_lt hn)) (place_btw x' y' (Nat.le_of_lt hm)) (zf hz) (zf hz)).2) (nd_db d13_ (by decide)) (nd_db d14_ (by decide)) (nd_db d11_ (by decide)) (nd_db d12_ (by decide)) d11_ d12_ (by decide))) <| ai (rt hT Tryz.call15 sawake_any) <| hR) (tab_keep hT hW)) fun W => by kernel_rfl

end Go.Proofs.YtchfglbkiebfpaaGreatDoor

namespace Go.Proofs.YtchfglbkiebfpaaGreatDoor
open Go Go.RowKit

theorem u8_range {n : Int} (h : (Lit.int .u8 n).wf = true) : 0 ≤ n ∧ n < 256 := by
  simp [Lit.wf, IntKind.min, IntKind.max, IntKind.signed, IntKind.bits] at h
  omega
theorem spanInside_any (b : Bool) (s : ByteArray) (e : Int) (c : Bool) (t : ByteArray) (f : Int) (b' : Bool) (s' : ByteArray) (e' : Int) (c' : Bool) (t' : ByteArray) (f' : Int) (n m p : Int) (w : World) (hT : Tab0 w) (hn : 0 ≤ n ∧ n < 256) (hm : 0 ≤ m ∧ m < 256) :
    Calls Tryz.prog 7 #[.agg #[.bool b, .string s, .int .i64 e, .bool c, .string t, .int .i64 f], .agg #[.bool b', .string s', .int .i64 e', .bool c', .string t', .int .i64 f'], .int .u8 n, .int .u8 m, .int .i64 p] w fun e w' => e = .returned (.bool true) ∧ Below w.heap.size w w' := by
  obtain ⟨n, rfl⟩ := Int.eq_ofNat_of_zero_le hn.1
  obtain ⟨m, rfl⟩ := Int.eq_ofNat_of_zero_le hm.1
  have hn : n < 256 := by omega
  have hm : m < 256 := by omega
  by_cases ho : (okN s e ∧ okN t f) ∧ (okN s' e' ∧ okN t' f')
  · by_cases hl : p < -300
    · exact (inside_lo ho hl w hT).at
    · by_cases hh : p > 300
      · exact (inside_hi ho hl hh w hT).at
      · obtain ⟨⟨o1, o2⟩, o3, o4⟩ := id ho
        exact (inside_x ho hl hh hn hm (nd_ok o1) (nd_ok o2) (nd_ok o3) (nd_ok o4) (db_ok o1) (db_ok o2) (db_ok o3) (db_ok o4) (by omega) (by omega) w hT).at
  · exact (inside_far ho w hT).at
end Go.Proofs.YtchfglbkiebfpaaGreatDoor

