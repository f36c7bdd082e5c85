/- The walks and plain laws beneath the statements. -/
import Derived.Test.YtchfglbkiebfpaaGreatDoorPX19
import Derived.Test.YtchfglbkiebfpaaGreatDoorPX7
namespace Go.Proofs.YtchfglbkiebfpaaGreatDoor
open Go.RowKit

/-- A []api.Num's first n elements. -/
def RdN (w : World) (A : Option Addr) (n : Nat) (bs : Nat → Bool) (ss : Nat → ByteArray) (es : Nat → Int) : Prop :=
  0 < n → ∃ b off, A = some ⟨b, off, none⟩ ∧ ∀ j, j < n → w.cell? ⟨b, off + j * 3, none⟩ = some (.bool (bs j)) ∧ w.cell? ⟨b, off + j * 3 + 1, none⟩ = some (.string (ss j)) ∧ w.cell? ⟨b, off + j * 3 + 2, none⟩ = some (.int .i64 (es j))
theorem RdN.below {w w' : World} {A : Option Addr} {n : Nat} {bs : Nat → Bool} {ss : Nat → ByteArray} {es : Nat → Int} (h : RdN w A n bs ss es) (hb : Below w.heap.size w w') : RdN w' A n bs ss es := fun h0 => by
  obtain ⟨b, off, e, hc⟩ := h h0
  exact ⟨b, off, e, fun j hj => ⟨cell_later hb (hc j hj).1, cell_later hb (hc j hj).2.1, cell_later hb (hc j hj).2.2⟩⟩
theorem RdN.congr {w : World} {A : Option Addr} {n : Nat} {bs : Nat → Bool} {ss ss' : Nat → ByteArray} {es es' : Nat → Int} (h : RdN w A n bs ss es) (hf : ∀ j, j < n → ss j = ss' j ∧ es j = es' j) : RdN w A n bs ss' es' := fun h0 => by
  obtain ⟨b, off, e, hc⟩ := h h0
  exact ⟨b, off, e, fun j hj => by rw [← (hf j hj).1, ← (hf j hj).2]; exact hc j hj⟩
def sumD (f : Nat → Dyadic) : Nat → Dyadic | 0 => 0 | k + 1 => sumD f k + f k
def prodD (f : Nat → Dyadic) : Nat → Dyadic | 0 => 1 | k + 1 => prodD f k * f k
theorem db_sum {L T : Nat} {f : Nat → Dyadic} (h : ∀ j, DB L T (f j)) : ∀ k, DB L (T + k) (sumD f k)
  | 0 => db_zero _ _
  | k + 1 => db_add (db_sum h k) (db_up (h k) (Nat.le_refl _) (Nat.le_add_right _ _))
theorem db_one : DB 0 1 1 := ⟨1, rfl, by decide⟩
theorem db_prod {L T : Nat} {f : Nat → Dyadic} (h : ∀ j, DB L T (f j)) : ∀ k, DB (L * k) (T * k + 1) (prodD f k)
  | 0 => db_up db_one (Nat.zero_le _) (by omega)
  | k + 1 => by
    have h1 := db_mul (db_prod h k) (h k)
    exact db_up h1 (by rw [Nat.mul_succ]; exact Nat.le_refl _) (by rw [Nat.mul_succ]; omega)
theorem rdI2B' {w : World} {g : Nat} {s t : ByteArray} {b b' : Bool} (h : Bx w g 23 #[.bool b, .string s, .bool b', .string t]) : RdI w (some ⟨g, 0, none⟩) 2 (fun j => if j = 0 then b else b') (fun j => if j = 0 then s else t) := fun _ =>
  ⟨g, 0, rfl, fun j hj => by
    have : j = 0 ∨ j = 1 := by omega
    rcases this with rfl | rfl
    · exact ⟨h.cel 0, h.cel 1⟩
    · exact ⟨h.cel 2, h.cel 3⟩⟩
/-- The whole numbers' sum and product, of two in any block. -/
theorem iAdd2 {X Y : Int} {g : Nat} {W : World} (h1 : bsz X ≤ 536870912) (h2 : bsz Y ≤ 536870912) (h : Bx W g 23 #[.bool (neg X), .string (mag X), .bool (neg Y), .string (mag Y)]) :
    Calls Tryz.prog 102 #[.slice (some ⟨g, 0, none⟩) 2 2] W fun r w' => r = .returned (.agg #[.bool (neg (X + Y)), .string (mag (X + Y))]) ∧ Below W.heap.size W w' := by
  have h := wAdd_any _ 2 2 _ _ W (by decide) (fun j => by split <;> (rw [mag_size]; assumption)) (rdI2B' h)
  have e : sumI (fun j => ival (if j = 0 then neg X else neg Y) (sval (if j = 0 then mag X else mag Y))) 2 = X + Y := by
    show (0 + ival (neg X) (sval (mag X))) + ival (neg Y) (sval (mag Y)) = _
    rw [Int.zero_add, ival_mk, ival_mk]
  rwa [e] at h
theorem iMul2 {s t : ByteArray} {b b' : Bool} {X Y : Int} {g : Nat} {W : World} (e1 : ival b (sval s) = X) (e2 : ival b' (sval t) = Y) (h1 : s.size ≤ 134217728) (h2 : t.size ≤ 134217728) (h : Bx W g 23 #[.bool b, .string s, .bool b', .string t]) :
    Calls Tryz.prog 103 #[.slice (some ⟨g, 0, none⟩) 2 2] W fun r w' => r = .returned (.agg #[.bool (neg (X * Y)), .string (mag (X * Y))]) ∧ Below W.heap.size W w' := by
  have h := wMul_any _ 2 2 _ _ 134217728 W (by decide) (by decide) (fun j => by split <;> assumption) (by decide) (rdI2B' h)
  have e : prodI (fun j => ival (if j = 0 then b else b') (sval (if j = 0 then s else t))) 2 = X * Y := by
    show (1 * ival b (sval s)) * ival b' (sval t) = _
    rw [Int.one_mul, e1, e2]
  rwa [e] at h

set_option maxRecDepth 100000 in
set_option maxHeartbeats 1000000 in
theorem dAdd_any (A : Option Addr) (n c : Nat) (bs : Nat → Bool) (ss : Nat → ByteArray) (es : Nat → Int) (xs : Nat → Dyadic) (L0 T0 : Nat) (w : World) (hn : n ≤ 1000000) (hnd : ∀ j, ND (bs j) (ss j) (es j) (xs j)) (hdb : ∀ j, DB L0 T0 (xs j)) (hLT : L0 + T0 + n ≤ 4000000) (hr : RdN w A n bs ss es) (hT : TabAt 0 Lib.deBruijn64tab w) :
    Calls Tryz.prog 38 #[.slice A n c] w fun r w' => r = .returned (.agg #[.bool (neg (dm (sumD xs n))), .string (mag (dm (sumD xs n))), .int .i64 (de (sumD xs n))]) ∧ Below w.heap.size w w' := by
  have HT := Lib.hid hT
  have HN := Lib.hid hnd
  have HS := Lib.hid (fun k (hk : k ≤ n) => nd_db (db_sum hdb k) (by omega))
  clear hT hnd hdb hLT
  go_enter Tryz.func38, Tryz.ntmps38
  have X1 := (Bx.new w 25 #[.bool false, .string ⟨#[]⟩, .int .i64 0]).alloc (.cells #[.bool false, .string ⟨#[]⟩, .int .i64 0] 25)
  have X2 := Bx.at1 w (.cells #[.bool false, .string ⟨#[]⟩, .int .i64 0] 25) 25 #[.bool false, .string ⟨#[]⟩, .int .i64 0]
  have hB := b2 w (.cells #[.bool false, .string ⟨#[]⟩, .int .i64 0] 25) (.cells #[.bool false, .string ⟨#[]⟩, .int .i64 0] 25)
  go_wp2_with fail
  generalize (w.alloc (.cells #[.bool false, .string ⟨#[]⟩, .int .i64 0] 25)).alloc (.cells #[.bool false, .string ⟨#[]⟩, .int .i64 0] 25) = w0 at *
  go_loopw [9] (fun i wr => ∃ k : Nat, k ≤ n ∧ i = .int .i64 (k : Nat) ∧ Bx wr w.heap.size 25 #[.bool false, .string ⟨#[]⟩, .int .i64 0] ∧ Bx wr (w.heap.size + 1) 25 #[.bool (neg (dm (sumD xs k))), .string (mag (dm (sumD xs k))), .int .i64 (de (sumD xs k))] ∧ Below w.heap.size w wr) (fun i _ => n - (intOf i).toNat)
  case atStart => exact ⟨0, Nat.zero_le _, rfl, X1, X2, hB⟩
  case round =>
    obtain ⟨k, hk, rfl, Y1, Y2, hB2⟩ := hrel
    by_cases hlt : k < n
    · obtain ⟨b, off, rfl, hc⟩ := hr (by omega)
      obtain ⟨c1, c2, c3⟩ := hc k hlt
      have g1 := cell_later hB2 c1
      have g2 := cell_later hB2 c2
      have g3 := cell_later hB2 c3
      clear hc hr c1 c2 c3 X1 X2 hB
      obtain ⟨K, X, Y, hX, hY, bX, bY, k1, k2, cL⟩ := dLevel_ex (HS.out k hk) (HN.out k)
      obtain ⟨S1, hS1⟩ : ∃ S1, S1 = sumD xs (k + 1) := ⟨_, rfl⟩
      have e1 : dy (X + Y) K = S1 := by rw [← dy_add, hX, hY, hS1]; rfl
      have bXY : bsz (X + Y) ≤ 300000001 := bsz_add_le bX bY
      have cM := Lib.hid (fun W h => dMake_any (mag (X + Y)) (neg (X + Y)) K W (by rw [mag_size]; omega) (by omega) (by omega) h)
      rw [ival_mk, e1] at cM
      have HBX := Lib.hid (And.intro (Nat.le_trans bX (by decide : 300000000 ≤ 536870912)) (Nat.le_trans bY (by decide : 300000000 ≤ 536870912)))
      have H1 := Lib.hid hS1
      clear hX hY bX bY k1 k2 hS1 e1 bXY
      have Z3 := Bx.new wr 25 #[.bool (bs k), .string (ss k), .int .i64 (es k)]
      have Z1 := Y1.alloc (.cells #[.bool (bs k), .string (ss k), .int .i64 (es k)] 25)
      have Z2 := Y2.alloc (.cells #[.bool (bs k), .string (ss k), .int .i64 (es k)] 25)
      have hB3 := nxtA hB2 (.cells #[.bool (bs k), .string (ss k), .int .i64 (es k)] 25)
      obtain ⟨q1, q2, q5, q3, q4, q6⟩ := Z2.three
      obtain ⟨r1, r2, r5, r3, r4, r6⟩ := Z3.three
      clear Y1 Y2 hB2
      go_wp2_with fail
      generalize wr.alloc (.cells #[.bool (bs k), .string (ss k), .int .i64 (es k)] 25) = w4 at *
      refine (cL.out _ (tab_keep HT.out hB3)).mono ?_
      rintro e w5 ⟨rfl, hb⟩
      replace Z1 := Z1.later hb
      replace Z2 := Z2.later hb
      replace hB3 := nxt hB3 hb
      clear hb q1 q2 q5 q3 q4 q6 r1 r2 r5 r3 r4 r6 Z3
      have Z4 := Bx.new w5 104 #[.int .i64 K, .bool (neg X), .string (mag X), .bool (neg Y), .string (mag Y)]
      replace Z1 := Z1.alloc (.cells #[.int .i64 K, .bool (neg X), .string (mag X), .bool (neg Y), .string (mag Y)] 104)
      replace Z2 := Z2.alloc (.cells #[.int .i64 K, .bool (neg X), .string (mag X), .bool (neg Y), .string (mag Y)] 104)
      replace hB3 := nxtA hB3 (.cells #[.int .i64 K, .bool (neg X), .string (mag X), .bool (neg Y), .string (mag Y)] 104)
      go_upto_region 6 with (fail)
      generalize w5.alloc (.cells #[.int .i64 K, .bool (neg X), .string (mag X), .bool (neg Y), .string (mag Y)] 104) = w6 at *
      generalize w5.heap.size = g6 at *
      obtain ⟨bX, bY⟩ := HBX.out
      refine wp_region_k [16, 17, 18, 19, 20, 21, 22, 23, 24] [.eq (.pointer (some ⟨g6, 1, none⟩)), .eq (.agg #[.bool (neg X), .string (mag X)]), .eq (.pointer (some ⟨g6, 3, none⟩)), .eq (.agg #[.bool (neg Y), .string (mag Y)]), .sli w6.heap.size 23 2 #[.bool (neg X), .string (mag X), .bool (neg Y), .string (mag Y)], .eq (.agg #[.bool (neg (X + Y)), .string (mag (X + Y))]), .eq (.pointer (some ⟨g6, 0, none⟩)), .eq (.int .i64 K), .eq (.agg #[.bool (neg (dm (S1))), .string (mag (dm (S1))), .int .i64 (de (S1))])] 27 (by kernel_rfl) (by exact fun _ _ _ _ _ h => h) (by kernel_rfl) (by rfl) ?hop ?htail
      case hop =>
        intro A hA
        have hN : A.tmps.size = 27 := by rw [hA]; rfl
        have q6 : A.tmps.getD 6 undef = .pointer (some ⟨g6, 0, none⟩) := by rw [hA]; rfl
        clear hA
        refine ⟨?_, ?_, ?_, ?_, ?_, ?_, ?_, ?_, ?_, trivial⟩
        · refine kok hN fun u W ev ec ef E B hG hf => ?_
          exact k_val _ rfl rfl hG (by simp [go_sem, B 6 rfl rfl q6]) rfl
        · refine kok hN fun u W ev ec ef E B hG hf => ?_
          exact k_val _ rfl rfl hG (by simp [go_sem, E 16 0 rfl rfl (hf 0 rfl), (Z4.later hG).cel]) rfl
        · refine kok hN fun u W ev ec ef E B hG hf => ?_
          exact k_val _ rfl rfl hG (by simp [go_sem, B 6 rfl rfl q6]) rfl
        · refine kok hN fun u W ev ec ef E B hG hf => ?_
          exact k_val _ rfl rfl hG (by simp [go_sem, E 18 2 rfl rfl (hf 2 rfl), (Z4.later hG).cel]) rfl
        · refine kok hN fun u W ev ec ef E B hG hf => ?_
          exact k_new _ _ rfl (by simp [go_sem, E 17 1 rfl rfl (hf 1 rfl), E 19 3 rfl rfl (hf 3 rfl)]) (nxtA hG _) ⟨_, rfl, below_le hG, Bx.new _ _ _⟩ rfl
        · refine kok hN fun u W ev ec ef E B hG hf => ?_
          obtain ⟨g20, f20, hb20, hx20⟩ := hf 4 rfl
          exact k_cl rfl rfl (by simp [go_sem, ef, E 20 4 rfl rfl f20]) (iAdd2 bX bY hx20) hG (fun _ _ => rfl)
        · refine kok hN fun u W ev ec ef E B hG hf => ?_
          exact k_val _ rfl rfl hG (by simp [go_sem, B 6 rfl rfl q6]) rfl
        · refine kok hN fun u W ev ec ef E B hG hf => ?_
          exact k_val _ rfl rfl hG (by simp [go_sem, E 22 6 rfl rfl (hf 6 rfl), (Z4.later hG).cel]) rfl
        · refine kok hN fun u W ev ec ef E B hG hf => ?_
          exact k_cl rfl rfl (by simp [go_sem, ef, E 21 5 rfl rfl (hf 5 rfl), E 23 7 rfl rfl (hf 7 rfl)]) (cM.out W (tab_keep HT.out (nxt hB3 hG))) hG (fun _ _ => rfl)
      case htail =>
        intro u w7 hG hP hD
        have f24 : u 8 = .agg #[.bool (neg (dm (S1))), .string (mag (dm (S1))), .int .i64 (de (S1))] := hP 8 (by decide)
        simp only [putAll, Act.put, List.setIfInBounds_toArray, List.set_cons_zero, List.set_cons_succ, List.length_cons, List.length_nil, Nat.reduceAdd, List.drop_succ_cons, List.drop_zero, f24]
        replace hB3 := nxt hB3 hG
        replace Z1 := Z1.later hG
        replace Z2 := Z2.later hG
        have HZ := Lib.hid (And.intro Z1 (And.intro Z2 hB3))
        obtain ⟨q1, q2, q5, q3, q4, q6⟩ := Z2.three
        clear hP hD hG f24 Z1 Z2 Z4 hB3 bX bY
        go_wp2
        obtain ⟨Z1, Z2, hB3⟩ := HZ.out
        exact ⟨⟨k + 1, hlt, by go_num, Bx.far3 Z1 (by simp) _ _ _, by rw [← H1.out]; exact Z2.set3 _ _ _, st3 hB3 (Nat.le_add_right _ 1) _ _ _⟩, by simp [intOf]; omega⟩
    · obtain rfl : k = n := by omega
      obtain ⟨p1, p2, p5, p3, p4, p6⟩ := Y1.three
      obtain ⟨q1, q2, q5, _, _, _⟩ := Y2.three
      have HY := Lib.hid Y1
      clear Y1 Y2 X1 X2 hB
      go_wp2_with fail
      exact bodyPost_ret (v := .agg #[.bool (neg (dm (sumD xs k))), .string (mag (dm (sumD xs k))), .int .i64 (de (sumD xs k))]) (by simp [results, Tryz.results38, go_sem, (HY.out.set3 _ _ _).cel]) rfl ⟨rfl, st3 hB2 (Nat.le_refl _) _ _ _⟩

end Go.Proofs.YtchfglbkiebfpaaGreatDoor

namespace Go.Proofs.YtchfglbkiebfpaaGreatDoor
open Go.RowKit

theorem rdN2B {w : World} {g : Nat} {b c : Bool} {s t : ByteArray} {e f : Int} (h : Bx w g 25 #[.bool b, .string s, .int .i64 e, .bool c, .string t, .int .i64 f]) : RdN w (some ⟨g, 0, none⟩) 2 (fun j => if j = 0 then b else c) (fun j => if j = 0 then s else t) (fun j => if j = 0 then e else f) := fun _ =>
  ⟨g, 0, rfl, fun j hj => by
    have : j = 0 ∨ j = 1 := by omega
    rcases this with rfl | rfl
    · exact ⟨h.cel 0, h.cel 1, h.cel 2⟩
    · exact ⟨h.cel 3, h.cel 4, h.cel 5⟩⟩

theorem dAdd2N {b c : Bool} {s t : ByteArray} {e f : Int} {x y : Dyadic} {L T0 : Nat} {g : Nat} {w : World} (n1 : ND b s e x) (n2 : ND c t f y) (d1 : DB L T0 x) (d2 : DB L T0 y) (hLT : L + T0 ≤ 3000000) (hT : TabAt 0 Lib.deBruijn64tab w) (h : Bx w g 25 #[.bool b, .string s, .int .i64 e, .bool c, .string t, .int .i64 f]) :
    Calls Tryz.prog 38 #[.slice (some ⟨g, 0, none⟩) 2 2] w fun r w' => r = .returned (.agg #[.bool (neg (dm (x + y))), .string (mag (dm (x + y))), .int .i64 (de (x + y))]) ∧ Below w.heap.size w w' := by
  have h := dAdd_any _ 2 2 _ _ _ (fun j => if j = 0 then x else y) L T0 w (by decide) (fun j => by by_cases h0 : j = 0 <;> simp only [h0, if_true, if_false] <;> assumption) (fun j => by by_cases h0 : j = 0 <;> simp only [h0, if_true, if_false] <;> assumption) (by omega) (rdN2B h) hT
  have e1 : sumD (fun j => if j = 0 then x else y) 2 = x + y := by
    show (0 + x) + y = _
    rw [Dyadic.zero_add]
  rwa [e1] at h

set_option maxRecDepth 100000 in
set_option maxHeartbeats 1000000 in
theorem dSub_any {b c : Bool} {s t : ByteArray} {e f : Int} {x y : Dyadic} {L T0 : Nat} (w : World) (n1 : ND b s e x) (n2 : ND c t f y) (d1 : DB L T0 x) (d2 : DB L T0 y) (hLT : L + T0 ≤ 3000000) (hT : TabAt 0 Lib.deBruijn64tab w) :
    Calls Tryz.prog 48 #[.agg #[.bool b, .string s, .int .i64 e], .agg #[.bool c, .string t, .int .i64 f]] w fun r w' => r = .returned (.agg #[.bool (neg (dm (x - y))), .string (mag (dm (x - y))), .int .i64 (de (x - y))]) ∧ Below w.heap.size w w' := by
  have HT := Lib.hid hT
  have cN := Lib.hid (fun W (h : TabAt 0 Lib.deBruijn64tab W) => dNeg_any t c f W (Nat.le_trans n2.size (by decide)) (by have := n2.lo; omega) (by have := n2.hi; omega) h)
  rw [n2.val] at cN
  have cA := Lib.hid (fun g W (h : TabAt 0 Lib.deBruijn64tab W) (hx : Bx W g 25 #[.bool b, .string s, .int .i64 e, .bool (neg (dm (-y))), .string (mag (dm (-y))), .int .i64 (de (-y))]) => dAdd2N n1 (nd_db (db_neg d2) (by omega)) d1 (db_neg d2) hLT h hx)
  rw [show x + -y = x - y by grind] at cA
  clear hT n1 n2 d1 d2 hLT
  go_enter Tryz.func48, Tryz.ntmps48
  go_upto_region 1 with (fail)
  have X1 := ((Bx.new w 25 #[.bool b, .string s, .int .i64 e]).alloc (.cells #[.bool c, .string t, .int .i64 f] 25)).alloc (.cells #[.bool false, .string ⟨#[]⟩, .int .i64 0] 25)
  have X2 := (Bx.at1 w (.cells #[.bool b, .string s, .int .i64 e] 25) 25 #[.bool c, .string t, .int .i64 f]).alloc (.cells #[.bool false, .string ⟨#[]⟩, .int .i64 0] 25)
  have X3 := Bx.at2 w (.cells #[.bool b, .string s, .int .i64 e] 25) (.cells #[.bool c, .string t, .int .i64 f] 25) 25 #[.bool false, .string ⟨#[]⟩, .int .i64 0]
  have hB := b3 w (.cells #[.bool b, .string s, .int .i64 e] 25) (.cells #[.bool c, .string t, .int .i64 f] 25) (.cells #[.bool false, .string ⟨#[]⟩, .int .i64 0] 25)
  generalize ((w.alloc (.cells #[.bool b, .string s, .int .i64 e] 25)).alloc (.cells #[.bool c, .string t, .int .i64 f] 25)).alloc (.cells #[.bool false, .string ⟨#[]⟩, .int .i64 0] 25) = w0 at *
  have hl0 := X1.lt
  have hl1 := X2.lt
  have hl2 := X3.lt
  refine wp_region_k [5, 6, 7, 8, 9] [.eq (.agg #[.bool b, .string s, .int .i64 e]), .eq (.agg #[.bool c, .string t, .int .i64 f]), .eq (.agg #[.bool (neg (dm (-y))), .string (mag (dm (-y))), .int .i64 (de (-y))]), .sli w0.heap.size 25 2 #[.bool b, .string s, .int .i64 e, .bool (neg (dm (-y))), .string (mag (dm (-y))), .int .i64 (de (-y))], .eq (.agg #[.bool (neg (dm (x - y))), .string (mag (dm (x - y))), .int .i64 (de (x - y))])] 10 (by kernel_rfl) (by exact fun _ _ _ _ _ h => h) (by kernel_rfl) (by rfl) ?hop ?htail
  case hop =>
    intro A hA
    have hN : A.tmps.size = 10 := by rw [hA]; rfl
    have q2 : A.tmps.getD 2 undef = .pointer (some ⟨w.heap.size, 0, none⟩) := by rw [hA]; rfl
    have q3 : A.tmps.getD 3 undef = .pointer (some ⟨w.heap.size + 1, 0, none⟩) := by rw [hA]; rfl
    clear hA
    refine ⟨?_, ?_, ?_, ?_, ?_, trivial⟩
    · refine kok hN fun u W ev ec ef E B hG hf => ?_
      exact k_val _ rfl rfl hG (by simp [go_sem, B 2 rfl rfl q2, (X1.later hG).cel]) rfl
    · refine kok hN fun u W ev ec ef E B hG hf => ?_
      exact k_val _ rfl rfl hG (by simp [go_sem, B 3 rfl rfl q3, (X2.later hG).cel]) rfl
    · refine kok hN fun u W ev ec ef E B hG hf => ?_
      exact k_cl rfl rfl (by simp [go_sem, ef, E 6 1 rfl rfl (hf 1 rfl)]) (cN.out W (tab_keep HT.out (nxt hB hG))) hG (fun _ _ => rfl)
    · refine kok hN fun u W ev ec ef E B hG hf => ?_
      exact k_new _ _ rfl (by simp [go_sem, E 5 0 rfl rfl (hf 0 rfl), E 7 2 rfl rfl (hf 2 rfl)]) (nxtA hG _) ⟨_, rfl, below_le hG, Bx.new _ _ _⟩ rfl
    · refine kok hN fun u W ev ec ef E B hG hf => ?_
      obtain ⟨g8, f8, hb8, hx8⟩ := hf 3 rfl
      exact k_cl rfl rfl (by simp [go_sem, ef, E 8 3 rfl rfl f8]) (cA.out _ W (tab_keep HT.out (nxt hB hG)) hx8) hG (fun _ _ => rfl)
  case htail =>
    intro u w' hG hP hD
    have f9 : u 4 = .agg #[.bool (neg (dm (x - y))), .string (mag (dm (x - y))), .int .i64 (de (x - y))] := hP 4 (by decide)
    simp only [putAll, Act.put, List.setIfInBounds_toArray, List.set_cons_zero, List.set_cons_succ, List.length_cons, List.length_nil, Nat.reduceAdd, List.drop_succ_cons, List.drop_zero, f9]
    have hB := Lib.hid (nxt hB hG)
    replace X3 := X3.later hG
    have HX := Lib.hid X3
    obtain ⟨q1, q2, q5, q3, q4, q6⟩ := X3.three
    clear X1 X2 X3 hP hD hG f9
    go_wp2_with fail
    exact bodyPost_ret (v := .agg #[.bool (neg (dm (x - y))), .string (mag (dm (x - y))), .int .i64 (de (x - y))]) (by simp [results, Tryz.results48, go_sem, (HX.out.set3 _ _ _).cel]) rfl ⟨rfl, st3 hB.out (Nat.le_add_right _ 2) _ _ _⟩

set_option maxRecDepth 100000 in
set_option maxHeartbeats 1000000 in
theorem dMul_any (A : Option Addr) (n c : Nat) (bs : Nat → Bool) (ss : Nat → ByteArray) (es : Nat → Int) (xs : Nat → Dyadic) (L0 T0 : Nat) (w : World) (hn : n ≤ 1000000) (hnd : ∀ j, ND (bs j) (ss j) (es j) (xs j)) (hdb : ∀ j, DB L0 T0 (xs j)) (hLT : L0 * n + T0 * n ≤ 3000000) (hr : RdN w A n bs ss es) (hT : TabAt 0 Lib.deBruijn64tab w) :
    Calls Tryz.prog 39 #[.slice A n c] w fun r w' => r = .returned (.agg #[.bool (neg (dm (prodD xs n))), .string (mag (dm (prodD xs n))), .int .i64 (de (prodD xs n))]) ∧ Below w.heap.size w w' := by
  have HT := Lib.hid hT
  have HN := Lib.hid hnd
  have HS := Lib.hid (fun k (hk : k ≤ n) => nd_db (db_prod hdb k) (by
    have h1 : L0 * k ≤ L0 * n := Nat.mul_le_mul_left _ hk
    have h2 : T0 * k ≤ T0 * n := Nat.mul_le_mul_left _ hk
    omega))
  have cO := Lib.hid (fun W h => dOf_any 1 W (by decide) (by decide) h)
  rw [dy_one] at cO
  clear hT hnd hdb hLT
  go_enter Tryz.func39, Tryz.ntmps39
  have X1 := Bx.new w 25 #[.bool false, .string ⟨#[]⟩, .int .i64 0]
  have hB := b1 w (.cells #[.bool false, .string ⟨#[]⟩, .int .i64 0] 25)
  go_wp2_with fail
  generalize w.alloc (.cells #[.bool false, .string ⟨#[]⟩, .int .i64 0] 25) = w0 at *
  refine (cO.out _ (tab_keep HT.out hB)).mono ?_
  rintro e w1 ⟨rfl, hb⟩
  have l0 := X1.lt
  have hb0 := hb.size
  replace X1 := X1.later hb
  replace hB := nxt hB hb
  clear hb
  have X2 := Bx.new w1 25 #[.bool (neg (dm (1))), .string (mag (dm (1))), .int .i64 (de (1))]
  replace X1 := X1.alloc (.cells #[.bool (neg (dm (1))), .string (mag (dm (1))), .int .i64 (de (1))] 25)
  replace hB := nxtA hB (.cells #[.bool (neg (dm (1))), .string (mag (dm (1))), .int .i64 (de (1))] 25)
  go_wp2_with fail
  generalize w1.alloc (.cells #[.bool (neg (dm (1))), .string (mag (dm (1))), .int .i64 (de (1))] 25) = w2 at *
  have l3 : w.heap.size < w1.heap.size := Nat.lt_of_lt_of_le l0 hb0
  generalize w1.heap.size = g3 at *
  have hg3 : w.heap.size ≠ g3 := Nat.ne_of_lt l3
  have hg3' : w.heap.size ≤ g3 := Nat.le_of_lt l3
  have HG3 := Lib.hid (And.intro hg3 hg3')
  clear hg3 hg3' l3 l0 hb0
  go_loopw [9] (fun i wr => ∃ k : Nat, k ≤ n ∧ i = .int .i64 (k : Nat) ∧ Bx wr w.heap.size 25 #[.bool false, .string ⟨#[]⟩, .int .i64 0] ∧ Bx wr g3 25 #[.bool (neg (dm (prodD xs k))), .string (mag (dm (prodD xs k))), .int .i64 (de (prodD xs k))] ∧ Below w.heap.size w wr) (fun i _ => n - (intOf i).toNat)
  case atStart => exact ⟨0, Nat.zero_le _, rfl, X1, X2, hB⟩
  case round =>
    obtain ⟨k, hk, rfl, Y1, Y2, hB2⟩ := hrel
    by_cases hlt : k < n
    · obtain ⟨b, off, rfl, hc⟩ := hr (by omega)
      obtain ⟨c1, c2, c3⟩ := hc k hlt
      have g1 := cell_later hB2 c1
      have g2 := cell_later hB2 c2
      have g4 := cell_later hB2 c3
      clear hc hr c1 c2 c3 X1 X2 hB
      have np := HS.out k hk
      have nk := HN.out k
      have p1 := np.size
      have p2 := np.lo
      have p3 := np.hi
      have p4 := nk.size
      have p5 := nk.lo
      have p6 := nk.hi
      obtain ⟨S1, hS1⟩ : ∃ S1, S1 = prodD xs (k + 1) := ⟨_, rfl⟩
      obtain ⟨M1, hM1⟩ : ∃ M1, M1 = dm (prodD xs k) * ival (bs k) (sval (ss k)) := ⟨_, rfl⟩
      obtain ⟨E1, hE1⟩ : ∃ E1, E1 = de (prodD xs k) + es k := ⟨_, rfl⟩
      have e1 : dy M1 E1 = S1 := by
        rw [hM1, hE1, ← dy_mul, dy_dm, nk.val, hS1]; rfl
      have hw : IntKind.i64.wrap (de (prodD xs k) + es k) = E1 := by rw [IntWalk.i64_in _ (by omega), hE1]
      have cI := Lib.hid (fun W g (h : Bx W g 23 #[.bool (neg (dm (prodD xs k))), .string (mag (dm (prodD xs k))), .bool (bs k), .string (ss k)]) => iMul2 (W := W) (ival_mk _) rfl (by omega) (by omega) h)
      rw [← hM1] at cI
      have bM : bsz M1 ≤ 2097152 := by
        rw [hM1]
        rw [mag_size] at p1
        exact Nat.le_trans (bsz_mul_le p1 (Nat.le_trans (bsz_ival _ _) p4)) (by decide)
      have cM := Lib.hid (fun W h => dMake_any (mag M1) (neg M1) E1 W (by rw [mag_size]; omega) (by omega) (by omega) h)
      rw [ival_mk, e1] at cM
      have H1 := Lib.hid hS1
      have HW := Lib.hid hw
      clear np nk p1 p2 p3 p4 p5 p6 hS1 hM1 hE1 e1 bM hw
      have Z3 := Bx.new wr 25 #[.bool (bs k), .string (ss k), .int .i64 (es k)]
      have Z1 := Y1.alloc (.cells #[.bool (bs k), .string (ss k), .int .i64 (es k)] 25)
      have Z2 := Y2.alloc (.cells #[.bool (bs k), .string (ss k), .int .i64 (es k)] 25)
      have hB3 := nxtA hB2 (.cells #[.bool (bs k), .string (ss k), .int .i64 (es k)] 25)
      clear Y1 Y2 hB2
      go_upto_region 5 with (fail)
      generalize wr.alloc (.cells #[.bool (bs k), .string (ss k), .int .i64 (es k)] 25) = w4 at *
      generalize wr.heap.size = g5 at *
      have hw := HW.out
      refine wp_region_k [13, 14, 15, 16, 17, 18, 19, 20, 21, 22, 23, 24] [.eq (.pointer (some ⟨g3, 0, none⟩)), .eq (.agg #[.bool (neg (dm (prodD xs k))), .string (mag (dm (prodD xs k)))]), .eq (.pointer (some ⟨g5, 0, none⟩)), .eq (.agg #[.bool (bs k), .string (ss k)]), .sli w4.heap.size 23 2 #[.bool (neg (dm (prodD xs k))), .string (mag (dm (prodD xs k))), .bool (bs k), .string (ss k)], .eq (.agg #[.bool (neg M1), .string (mag M1)]), .eq (.pointer (some ⟨g3, 2, none⟩)), .eq (.int .i64 (de (prodD xs k))), .eq (.pointer (some ⟨g5, 2, none⟩)), .eq (.int .i64 (es k)), .eq (.int .i64 (E1)), .eq (.agg #[.bool (neg (dm (S1))), .string (mag (dm (S1))), .int .i64 (de (S1))])] 27 (by kernel_rfl) (by exact fun _ _ _ _ _ h => h) (by kernel_rfl) (by rfl) ?hop ?htail
      case hop =>
        intro A hA
        have hN : A.tmps.size = 27 := by rw [hA]; rfl
        have q3 : A.tmps.getD 3 undef = .pointer (some ⟨g3, 0, none⟩) := by rw [hA]; rfl
        have q5 : A.tmps.getD 5 undef = .pointer (some ⟨g5, 0, none⟩) := by rw [hA]; rfl
        clear hA
        refine ⟨?_, ?_, ?_, ?_, ?_, ?_, ?_, ?_, ?_, ?_, ?_, ?_, trivial⟩
        · refine kok hN fun u W ev ec ef E B hG hf => ?_
          exact k_val _ rfl rfl hG (by simp [go_sem, B 3 rfl rfl q3]) rfl
        · refine kok hN fun u W ev ec ef E B hG hf => ?_
          exact k_val _ rfl rfl hG (by simp [go_sem, E 13 0 rfl rfl (hf 0 rfl), (Z2.later hG).cel]) rfl
        · refine kok hN fun u W ev ec ef E B hG hf => ?_
          exact k_val _ rfl rfl hG (by simp [go_sem, B 5 rfl rfl q5]) rfl
        · refine kok hN fun u W ev ec ef E B hG hf => ?_
          exact k_val _ rfl rfl hG (by simp [go_sem, E 15 2 rfl rfl (hf 2 rfl), (Z3.later hG).cel]) rfl
        · refine kok hN fun u W ev ec ef E B hG hf => ?_
          exact k_new _ _ rfl (by simp [go_sem, E 14 1 rfl rfl (hf 1 rfl), E 16 3 rfl rfl (hf 3 rfl)]) (nxtA hG _) ⟨_, rfl, below_le hG, Bx.new _ _ _⟩ rfl
        · refine kok hN fun u W ev ec ef E B hG hf => ?_
          obtain ⟨g17, f17, hb17, hx17⟩ := hf 4 rfl
          exact k_cl rfl rfl (by simp [go_sem, ef, E 17 4 rfl rfl f17]) (cI.out _ _ hx17) hG (fun _ _ => rfl)
        · refine kok hN fun u W ev ec ef E B hG hf => ?_
          exact k_val _ rfl rfl hG (by simp [go_sem, B 3 rfl rfl q3]) rfl
        · refine kok hN fun u W ev ec ef E B hG hf => ?_
          exact k_val _ rfl rfl hG (by simp [go_sem, E 19 6 rfl rfl (hf 6 rfl), (Z2.later hG).cel]) rfl
        · refine kok hN fun u W ev ec ef E B hG hf => ?_
          exact k_val _ rfl rfl hG (by simp [go_sem, B 5 rfl rfl q5]) rfl
        · refine kok hN fun u W ev ec ef E B hG hf => ?_
          exact k_val _ rfl rfl hG (by simp [go_sem, E 21 8 rfl rfl (hf 8 rfl), (Z3.later hG).cel]) rfl
        · refine kok hN fun u W ev ec ef E B hG hf => ?_
          exact k_val _ rfl rfl hG (by simp [go_sem, E 20 7 rfl rfl (hf 7 rfl), E 22 9 rfl rfl (hf 9 rfl), hw]) rfl
        · refine kok hN fun u W ev ec ef E B hG hf => ?_
          exact k_cl rfl rfl (by simp [go_sem, ef, E 18 5 rfl rfl (hf 5 rfl), E 23 10 rfl rfl (hf 10 rfl)]) (cM.out W (tab_keep HT.out (nxt hB3 hG))) hG (fun _ _ => rfl)
      case htail =>
        intro u w7 hG hP hD
        have f24 : u 11 = .agg #[.bool (neg (dm (S1))), .string (mag (dm (S1))), .int .i64 (de (S1))] := hP 11 (by decide)
        simp only [putAll, Act.put, List.setIfInBounds_toArray, List.set_cons_zero, List.set_cons_succ, List.length_cons, List.length_nil, Nat.reduceAdd, List.drop_succ_cons, List.drop_zero, f24]
        replace hB3 := nxt hB3 hG
        replace Z1 := Z1.later hG
        replace Z2 := Z2.later hG
        have HZ := Lib.hid (And.intro Z1 (And.intro Z2 hB3))
        obtain ⟨q1, q2, q5, q3, q4, q6⟩ := Z2.three
        clear hP hD hG f24 Z1 Z2 Z3 hB3 hw
        go_wp2
        obtain ⟨Z1, Z2, hB3⟩ := HZ.out
        exact ⟨⟨k + 1, hlt, by go_num, Bx.far3 Z1 HG3.out.1 _ _ _, by rw [← H1.out]; exact Z2.set3 _ _ _, st3 hB3 HG3.out.2 _ _ _⟩, by simp [intOf]; omega⟩
    · obtain rfl : k = n := by omega
      obtain ⟨p1, p2, p5, p3, p4, p6⟩ := Y1.three
      obtain ⟨q1, q2, q5, _, _, _⟩ := Y2.three
      have HY := Lib.hid Y1
      clear Y1 Y2 X1 X2 hB
      go_wp2_with fail
      exact bodyPost_ret (v := .agg #[.bool (neg (dm (prodD xs k))), .string (mag (dm (prodD xs k))), .int .i64 (de (prodD xs k))]) (by simp [results, Tryz.results39, go_sem, (HY.out.set3 _ _ _).cel]) rfl ⟨rfl, st3 hB2 (Nat.le_refl _) _ _ _⟩

end Go.Proofs.YtchfglbkiebfpaaGreatDoor

namespace Go.Proofs.YtchfglbkiebfpaaGreatDoor
open Go.RowKit

theorem roundDown_eq (x : Dyadic) (p : Int) : x.roundDown p = if -p ≤ de x then x else dy (dm x / 2 ^ (-p - de x).toNat) (-p) := by
  cases x with
  | zero =>
    show Dyadic.zero = _
    split
    · rfl
    · show _ = dy (0 / _) (-p)
      rw [Int.zero_ediv, dy_zero]; rfl
  | ofOdd n k hn =>
    show (match k - p with | .ofNat l => Dyadic.ofIntWithPrec (n >>> l) p | .negSucc _ => Dyadic.ofOdd n k hn) = if -p ≤ -k then Dyadic.ofOdd n k hn else dy (n / 2 ^ (-p - -k).toNat) (-p)
    cases h : k - p with
    | ofNat l =>
      have h' : k - p = (l : Int) := h
      by_cases h0 : l = 0
      · subst h0
        rw [if_pos (by omega)]
        have e : p = k := by omega
        subst e
        show Dyadic.ofIntWithPrec (n >>> 0) p = _
        rw [Int.shiftRight_zero]
        exact Dyadic.ofOdd_eq_ofIntWithPrec.symm
      · rw [if_neg (by omega)]
        have e : (-p - -k).toNat = l := by omega
        rw [e]
        show Dyadic.ofIntWithPrec (n >>> l) p = Dyadic.ofIntWithPrec (n / 2 ^ l) (- -p)
        rw [Int.neg_neg, Int.shiftRight_eq_div_pow]; simp
    | negSucc l =>
      have h' : k - p = -((l : Int) + 1) := h
      rw [if_pos (by omega)]

set_option maxRecDepth 100000 in
set_option maxHeartbeats 1000000 in
theorem dFloor_keep (s : ByteArray) (b : Bool) (e p : Int) (x : Dyadic) (hA : -p ≤ de x) (w : World) (hw : IntKind.i64.wrap (-p) = -p) (hT : TabAt 0 Lib.deBruijn64tab w)
    (cF : Hid (∀ W : World, TabAt 0 Lib.deBruijn64tab W → Calls Tryz.prog 79 #[.agg #[.bool b, .string s, .int .i64 e]] W fun r w' => r = .returned (.agg #[.bool (neg (dm (x))), .string (mag (dm (x))), .int .i64 (de (x))]) ∧ Below W.heap.size W w'))
    :
    Calls Tryz.prog 93 #[.agg #[.bool b, .string s, .int .i64 e], .int .i64 p] w fun r w' => r = .returned (.agg #[.bool (neg (dm (x))), .string (mag (dm (x))), .int .i64 (de (x))]) ∧ Below w.heap.size w w' := by
  have HT := Lib.hid hT
  clear hT
  go_enter Tryz.func93, Tryz.ntmps93
  go_upto_region 1 with (fail)
  have X1 := (Bx.new w 25 #[.bool b, .string s, .int .i64 e]).alloc (.cells #[.bool false, .string ⟨#[]⟩, .int .i64 0] 25)
  have X2 := Bx.at1 w (.cells #[.bool b, .string s, .int .i64 e] 25) 25 #[.bool false, .string ⟨#[]⟩, .int .i64 0]
  have hB := b2 w (.cells #[.bool b, .string s, .int .i64 e] 25) (.cells #[.bool false, .string ⟨#[]⟩, .int .i64 0] 25)
  generalize (w.alloc (.cells #[.bool b, .string s, .int .i64 e] 25)).alloc (.cells #[.bool false, .string ⟨#[]⟩, .int .i64 0] 25) = w0 at *
  have hl0 := X1.lt
  have hl1 := X2.lt
  obtain ⟨p1, p2, p5, p3, p4, p6⟩ := X1.three
  obtain ⟨q1, q2, q5, q3, q4, q6⟩ := X2.three
  go_wp2_with fail
  refine (cF.out _ (tab_keep HT.out hB)).mono ?_
  rintro e w1 ⟨rfl, hb⟩
  replace X1 := X1.later hb
  replace X2 := X2.later hb
  replace hB := nxt hB hb
  clear hb p1 p2 p3 p4 p5 p6 q1 q2 q3 q4 q5 q6
  have hne : w.heap.size + 1 ≠ w.heap.size := by omega
  have Y1 := X1.set3 (.bool (neg (dm (x)))) (.string (mag (dm (x)))) (.int .i64 (de (x)))
  have Y2 := Bx.far3 (i := 0) (j := 1) (k := 2) X2 hne (.bool (neg (dm (x)))) (.string (mag (dm (x)))) (.int .i64 (de (x)))
  have hB2 := st3 hB (Nat.le_refl _) (.bool (neg (dm (x)))) (.string (mag (dm (x)))) (.int .i64 (de (x)))
  obtain ⟨p1, p2, p5, p3, p4, p6⟩ := X1.three
  obtain ⟨r1, r2, r5, r3, r4, r6⟩ := Y1.three
  obtain ⟨t1, t2, t5, t3, t4, t6⟩ := Y2.three
  have HY := Lib.hid Y2
  have HB := Lib.hid hB2
  clear X1 X2 Y1 Y2 hB hB2 hne
  go_wp2_with fail
  exact bodyPost_ret (v := .agg #[.bool (neg (dm (x))), .string (mag (dm (x))), .int .i64 (de (x))]) (by simp [results, Tryz.results93, go_sem, (HY.out.set3 _ _ _).cel]) rfl ⟨rfl, st3 HB.out (Nat.le_add_right _ 1) _ _ _⟩

set_option maxRecDepth 100000 in
set_option maxHeartbeats 1000000 in
theorem dFloor_cut (s : ByteArray) (b : Bool) (e p : Int) (x : Dyadic) (y : Dyadic) (q : Int) (hA : de x < -p) (w : World) (hw : IntKind.i64.wrap (-p) = -p) (hT : TabAt 0 Lib.deBruijn64tab w)
    (cF : Hid (∀ W : World, TabAt 0 Lib.deBruijn64tab W → Calls Tryz.prog 79 #[.agg #[.bool b, .string s, .int .i64 e]] W fun r w' => r = .returned (.agg #[.bool (neg (dm (x))), .string (mag (dm (x))), .int .i64 (de (x))]) ∧ Below W.heap.size W w'))
    (cU : Hid (∀ W : World, TabAt 0 Lib.deBruijn64tab W → Calls Tryz.prog 135 #[.int .i64 (-p), .agg #[.bool (neg (dm (x))), .string (mag (dm (x))), .int .i64 (de (x))]] W fun r w' => r = .returned (.agg #[.bool (neg q), .string (mag q)]) ∧ Below W.heap.size W w'))
    (cM : Hid (∀ W : World, TabAt 0 Lib.deBruijn64tab W → Calls Tryz.prog 101 #[.agg #[.bool (neg q), .string (mag q)], .int .i64 (-p)] W fun r w' => r = .returned (.agg #[.bool (neg (dm (y))), .string (mag (dm (y))), .int .i64 (de (y))]) ∧ Below W.heap.size W w'))
    :
    Calls Tryz.prog 93 #[.agg #[.bool b, .string s, .int .i64 e], .int .i64 p] w fun r w' => r = .returned (.agg #[.bool (neg (dm (y))), .string (mag (dm (y))), .int .i64 (de (y))]) ∧ Below w.heap.size w w' := by
  have HT := Lib.hid hT
  clear hT
  go_enter Tryz.func93, Tryz.ntmps93
  go_upto_region 1 with (fail)
  have X1 := (Bx.new w 25 #[.bool b, .string s, .int .i64 e]).alloc (.cells #[.bool false, .string ⟨#[]⟩, .int .i64 0] 25)
  have X2 := Bx.at1 w (.cells #[.bool b, .string s, .int .i64 e] 25) 25 #[.bool false, .string ⟨#[]⟩, .int .i64 0]
  have hB := b2 w (.cells #[.bool b, .string s, .int .i64 e] 25) (.cells #[.bool false, .string ⟨#[]⟩, .int .i64 0] 25)
  generalize (w.alloc (.cells #[.bool b, .string s, .int .i64 e] 25)).alloc (.cells #[.bool false, .string ⟨#[]⟩, .int .i64 0] 25) = w0 at *
  have hl0 := X1.lt
  have hl1 := X2.lt
  obtain ⟨p1, p2, p5, p3, p4, p6⟩ := X1.three
  obtain ⟨q1, q2, q5, q3, q4, q6⟩ := X2.three
  go_wp2_with fail
  refine (cF.out _ (tab_keep HT.out hB)).mono ?_
  rintro e w1 ⟨rfl, hb⟩
  replace X1 := X1.later hb
  replace X2 := X2.later hb
  replace hB := nxt hB hb
  clear hb p1 p2 p3 p4 p5 p6 q1 q2 q3 q4 q5 q6
  have hne : w.heap.size + 1 ≠ w.heap.size := by omega
  have Y1 := X1.set3 (.bool (neg (dm (x)))) (.string (mag (dm (x)))) (.int .i64 (de (x)))
  have Y2 := Bx.far3 (i := 0) (j := 1) (k := 2) X2 hne (.bool (neg (dm (x)))) (.string (mag (dm (x)))) (.int .i64 (de (x)))
  have hB2 := st3 hB (Nat.le_refl _) (.bool (neg (dm (x)))) (.string (mag (dm (x)))) (.int .i64 (de (x)))
  obtain ⟨p1, p2, p5, p3, p4, p6⟩ := X1.three
  obtain ⟨r1, r2, r5, r3, r4, r6⟩ := Y1.three
  have HK := Lib.hid (And.intro Y2 hB2)
  clear X1 X2 Y1 Y2 hB hB2 hne
  go_wp2_with fail
  obtain ⟨Y2, hB⟩ := HK.out
  clear HK p1 p2 p3 p4 p5 p6 r1 r2 r5 r3 r4 r6
  generalize ((w1.setCell ⟨w.heap.size, 0, none⟩ (.bool (neg (dm (x))))).setCell ⟨w.heap.size, 1, none⟩ (.string (mag (dm (x))))).setCell ⟨w.heap.size, 2, none⟩ (.int .i64 (de (x))) = w2 at *
  refine (cU.out _ (tab_keep HT.out hB)).mono ?_
  rintro e w3 ⟨rfl, hb⟩
  replace Y2 := Y2.later hb
  replace hB := nxt hB hb
  clear hb
  go_wp2_with fail
  refine (cM.out _ (tab_keep HT.out hB)).mono ?_
  rintro e w4 ⟨rfl, hb⟩
  replace Y2 := Y2.later hb
  replace hB := nxt hB hb
  clear hb
  obtain ⟨t1, t2, t5, t3, t4, t6⟩ := Y2.three
  go_wp2_with fail
  exact bodyPost_ret (v := .agg #[.bool (neg (dm (y))), .string (mag (dm (y))), .int .i64 (de (y))]) (by simp [results, Tryz.results93, go_sem, (Y2.set3 _ _ _).cel]) rfl ⟨rfl, st3 hB (Nat.le_add_right _ 1) _ _ _⟩

theorem dFloor_any {b : Bool} {s : ByteArray} {e : Int} {x : Dyadic} (p : Int) (w : World) (n1 : ND b s e x) (hp1 : -1000000000 ≤ p) (hp2 : p ≤ 1000000000) (hT : TabAt 0 Lib.deBruijn64tab w) :
    Calls Tryz.prog 93 #[.agg #[.bool b, .string s, .int .i64 e], .int .i64 p] w fun r w' => r = .returned (.agg #[.bool (neg (dm (x.roundDown p))), .string (mag (dm (x.roundDown p))), .int .i64 (de (x.roundDown p))]) ∧ Below w.heap.size w w' := by
  have cF := Lib.hid (fun W (hT : TabAt 0 Lib.deBruijn64tab W) => dForm_any s b e W (Nat.le_trans n1.size (by decide)) (by have := n1.lo; omega) (by have := n1.hi; omega) hT)
  rw [n1.val] at cF
  obtain ⟨a1, a2, a3⟩ := nd_form n1
  have hw : IntKind.i64.wrap (-p) = -p := IntWalk.i64_in _ (by omega)
  rw [roundDown_eq]
  by_cases hA : -p ≤ de x
  · rw [if_pos hA]
    exact dFloor_keep s b e p x hA w hw hT cF
  · rw [if_neg hA]
    have cU := on_ex (x := x) (k := -p) (ival_mk _) rfl a1 (by omega) (by omega)
    have eq : shiftI (dm x) (de x - -p) = dm x / 2 ^ (-p - de x).toNat := by
      unfold shiftI
      rw [if_neg (by omega)]
      congr 2; omega
    rw [eq] at cU
    have hz : (mag (dm x / 2 ^ (-p - de x).toNat)).size ≤ 536870912 := by
      rw [mag_size]
      rw [mag_size] at a1
      exact Nat.le_trans (bsz_natAbs_le (Int.natAbs_ediv_le_natAbs _ _)) (Nat.le_trans a1 (by decide))
    have cM := Lib.hid (fun W h => dMake_any (mag (dm x / 2 ^ (-p - de x).toNat)) (neg (dm x / 2 ^ (-p - de x).toNat)) (-p) W hz (by omega) (by omega) h)
    rw [ival_mk] at cM
    exact dFloor_cut s b e p x _ _ (by omega) w hw hT cF cU cM

set_option maxRecDepth 100000 in
theorem dCeil_x (s : ByteArray) (b : Bool) (e p : Int) (x y z : Dyadic) (w : World) (hT : TabAt 0 Lib.deBruijn64tab w)
    (cN : Hid (∀ W : World, TabAt 0 Lib.deBruijn64tab W → Calls Tryz.prog 63 #[.agg #[.bool b, .string s, .int .i64 e]] W fun r w' => r = .returned (.agg #[.bool (neg (dm (x))), .string (mag (dm (x))), .int .i64 (de (x))]) ∧ Below W.heap.size W w'))
    (cF : Hid (∀ W : World, TabAt 0 Lib.deBruijn64tab W → Calls Tryz.prog 93 #[.agg #[.bool (neg (dm (x))), .string (mag (dm (x))), .int .i64 (de (x))], .int .i64 p] W fun r w' => r = .returned (.agg #[.bool (neg (dm (y))), .string (mag (dm (y))), .int .i64 (de (y))]) ∧ Below W.heap.size W w'))
    (cM : Hid (∀ W : World, TabAt 0 Lib.deBruijn64tab W → Calls Tryz.prog 63 #[.agg #[.bool (neg (dm (y))), .string (mag (dm (y))), .int .i64 (de (y))]] W fun r w' => r = .returned (.agg #[.bool (neg (dm (z))), .string (mag (dm (z))), .int .i64 (de (z))]) ∧ Below W.heap.size W w'))
    :
    Calls Tryz.prog 94 #[.agg #[.bool b, .string s, .int .i64 e], .int .i64 p] w fun r w' => r = .returned (.agg #[.bool (neg (dm (z))), .string (mag (dm (z))), .int .i64 (de (z))]) ∧ Below w.heap.size w w' :=
  RetAt.at <| ret_sk ttOk mixed (fun a w => Tryz.call94 a w) Tryz.func94 Tryz.ntmps94 Tryz.results94 _ rfl _ [.o 1 1 (.ret (.val (vN (x)))), .o 1 3 (.ret (.val (vN (y)))), .o 1 4 (.ret (.val (vN (z))))] (fun W hW hR => (fun (hT : Tab0 W) => ai (rt hT Tryz.call63 fun W h => cN.out W h) <| ai (rt hT Tryz.call93 fun W h => cF.out W h) <| ai (rt hT Tryz.call63 fun W h => cM.out W h) <| hR) (tab_keep hT hW)) fun W => by kernel_rfl

theorem nd_floor {x : Dyadic} {p : Int} (hs : (mag (dm x)).size ≤ 1048576) (h1 : -1073741824 ≤ de x) (h2 : de x ≤ 1073741824) (hp1 : -1000000000 ≤ p) (hp2 : p ≤ 1000000000) : (mag (dm (x.roundDown p))).size ≤ 536870912 ∧ -4611686018427387904 ≤ de (x.roundDown p) ∧ de (x.roundDown p) ≤ 4611686018427387904 := by
  rw [roundDown_eq]
  split
  · exact ⟨by omega, by omega, by omega⟩
  · obtain ⟨m, hm⟩ : ∃ m, m = dm x / 2 ^ (-p - de x).toNat := ⟨_, rfl⟩
    have hz : bsz m ≤ 1048576 := by
      rw [mag_size] at hs
      rw [hm]
      exact Nat.le_trans (bsz_natAbs_le (Int.natAbs_ediv_le_natAbs _ _)) hs
    rw [← hm]
    by_cases h0 : m = 0
    · subst h0; rw [dy_zero]; exact ⟨by show (mag 0).size ≤ _; rw [mag_zero]; exact Nat.zero_le _, by decide, by decide⟩
    · obtain ⟨g1, g2⟩ := dm_dy (-p) h0
      have ht : tz m.natAbs ≤ 8 * 1048576 := by
        have h3 := tz_size (s := mag m) (by rw [sval_mag]; omega)
        rw [sval_mag, mag_size] at h3
        omega
      rw [g1, g2, mag_size]
      exact ⟨Nat.le_trans (bsz_natAbs_le (Int.natAbs_ediv_le_natAbs _ _)) (by omega), by omega, by omega⟩
theorem dCeil_any {b : Bool} {s : ByteArray} {e : Int} {x : Dyadic} {L T0 : Nat} (p : Int) (w : World) (n1 : ND b s e x) (d1 : DB L T0 x) (hLT : L + T0 ≤ 4000000) (hp1 : -1000000000 ≤ p) (hp2 : p ≤ 1000000000) (hT : TabAt 0 Lib.deBruijn64tab w) :
    Calls Tryz.prog 94 #[.agg #[.bool b, .string s, .int .i64 e], .int .i64 p] w fun r w' => r = .returned (.agg #[.bool (neg (dm (x.roundUp p))), .string (mag (dm (x.roundUp p))), .int .i64 (de (x.roundUp p))]) ∧ Below w.heap.size w w' := by
  have cN := Lib.hid (fun W (hT : TabAt 0 Lib.deBruijn64tab W) => dNeg_any s b e W (Nat.le_trans n1.size (by decide)) (by have := n1.lo; omega) (by have := n1.hi; omega) hT)
  rw [n1.val] at cN
  have n2 := nd_db (db_neg d1) hLT
  obtain ⟨z1, z2, z3⟩ := nd_floor (x := -x) n2.size n2.lo n2.hi hp1 hp2
  have cM := Lib.hid (fun W h => dNeg_any (mag (dm ((-x).roundDown p))) (neg (dm ((-x).roundDown p))) (de ((-x).roundDown p)) W z1 z2 z3 h)
  rw [ival_mk, dy_dm] at cM
  rw [Dyadic.roundUp_eq_neg_roundDown_neg]
  exact dCeil_x s b e p _ _ _ w hT cN (Lib.hid (fun W h => dFloor_any p W n2 hp1 hp2 h)) cM

theorem nd_zero0 : ND false ⟨#[]⟩ 0 0 := ⟨dy_zero 0, by decide, by decide, by decide⟩
/-- The one of all to which all others are such. -/
def firstD (lt : Dyadic → Dyadic → Bool) (f : Nat → Dyadic) : Nat → Dyadic | 0 => 0 | k + 1 => if k = 0 then f 0 else if lt (f k) (firstD lt f k) then f k else firstD lt f k
def minB (x y : Dyadic) : Bool := decide (dsgn (x - y) < 0)
def maxB (x y : Dyadic) : Bool := decide (0 < dsgn (x - y))

set_option maxRecDepth 100000 in
set_option maxHeartbeats 1000000 in
theorem dMin1_x (s t : ByteArray) (b c : Bool) (e f z : Int) (w : World) (hT : TabAt 0 Lib.deBruijn64tab w)
    (cC : Hid (∀ W : World, TabAt 0 Lib.deBruijn64tab W → Calls Tryz.prog 51 #[.agg #[.bool b, .string s, .int .i64 e], .agg #[.bool c, .string t, .int .i64 f]] W fun r w' => r = .returned (.int .i64 z) ∧ Below W.heap.size W w'))
    :
    Calls Tryz.prog 133 #[.agg #[.bool b, .string s, .int .i64 e], .agg #[.bool c, .string t, .int .i64 f]] w fun r w' => r = .returned (.bool (decide (z < 0))) ∧ Below w.heap.size w w' := by
  have HT := Lib.hid hT
  clear hT
  go_enter Tryz.func133, Tryz.ntmps133
  go_upto_region 1 with (fail)
  have X1 := (Bx.new w 25 #[.bool b, .string s, .int .i64 e]).alloc (.cells #[.bool c, .string t, .int .i64 f] 25)
  have X2 := Bx.at1 w (.cells #[.bool b, .string s, .int .i64 e] 25) 25 #[.bool c, .string t, .int .i64 f]
  have hB := b2 w (.cells #[.bool b, .string s, .int .i64 e] 25) (.cells #[.bool c, .string t, .int .i64 f] 25)
  generalize (w.alloc (.cells #[.bool b, .string s, .int .i64 e] 25)).alloc (.cells #[.bool c, .string t, .int .i64 f] 25) = w0 at *
  have hl0 := X1.lt
  have hl1 := X2.lt
  obtain ⟨p1, p2, p5, p3, p4, p6⟩ := X1.three
  obtain ⟨q1, q2, q5, q3, q4, q6⟩ := X2.three
  go_wp2_with fail
  refine (cC.out _ (tab_keep HT.out hB)).mono ?_
  rintro e w1 ⟨rfl, hb⟩
  replace X1 := X1.later hb
  replace X2 := X2.later hb
  replace hB := nxt hB hb
  clear hb
  clear p1 p2 p3 p4 p5 p6 q1 q2 q3 q4 q5 q6
  obtain ⟨p1, p2, p5, p3, p4, p6⟩ := X1.three
  obtain ⟨q1, q2, q5, q3, q4, q6⟩ := X2.three
  go_wp2
  go_ret
  exact ⟨rfl, hB⟩
set_option maxRecDepth 100000 in
set_option maxHeartbeats 1000000 in
theorem dFirstMin (A : Option Addr) (n c : Nat) (bs : Nat → Bool) (ss : Nat → ByteArray) (es : Nat → Int) (xs : Nat → Dyadic) (w : World) (hn : n ≤ 1000000) (hnd : ∀ j, ND (bs j) (ss j) (es j) (xs j)) (hr : RdN w A n bs ss es) (hT : TabAt 0 Lib.deBruijn64tab w) :
    Calls Tryz.prog 132 #[.slice A n c, .func (.func 133) #[] #[]] w fun r w' => r = .returned (.agg #[.bool (neg (dm (firstD minB xs n))), .string (mag (dm (firstD minB xs n))), .int .i64 (de (firstD minB xs n))]) ∧ Below w.heap.size w w' := by
  have HT := Lib.hid hT
  have HN := Lib.hid hnd
  clear hT hnd
  go_enter Tryz.func132, Tryz.ntmps132
  have X1 := (Bx.new w 25 #[.bool false, .string ⟨#[]⟩, .int .i64 0]).alloc (.cells #[.bool false, .string ⟨#[]⟩, .int .i64 0] 25)
  have X2 := Bx.at1 w (.cells #[.bool false, .string ⟨#[]⟩, .int .i64 0] 25) 25 #[.bool false, .string ⟨#[]⟩, .int .i64 0]
  have hB := b2 w (.cells #[.bool false, .string ⟨#[]⟩, .int .i64 0] 25) (.cells #[.bool false, .string ⟨#[]⟩, .int .i64 0] 25)
  go_wp2_with fail
  generalize (w.alloc (.cells #[.bool false, .string ⟨#[]⟩, .int .i64 0] 25)).alloc (.cells #[.bool false, .string ⟨#[]⟩, .int .i64 0] 25) = w0 at *
  go_loopw [10] (fun i wr => ∃ k : Nat, k ≤ n ∧ i = .int .i64 (k : Nat) ∧ Bx wr w.heap.size 25 #[.bool false, .string ⟨#[]⟩, .int .i64 0] ∧ (∃ b0 s0 e0, ND b0 s0 e0 (firstD minB xs k) ∧ Bx wr (w.heap.size + 1) 25 #[.bool b0, .string s0, .int .i64 e0]) ∧ Below w.heap.size w wr) (fun i _ => n - (intOf i).toNat)
  case atStart => exact ⟨0, Nat.zero_le _, rfl, X1, ⟨_, _, _, nd_zero0, X2⟩, hB⟩
  case round =>
    obtain ⟨k, hk, rfl, Y1, ⟨b0, s0, e0, hn0, Y2⟩, hB2⟩ := hrel
    by_cases hlt : k < n
    · obtain ⟨b, off, rfl, hc⟩ := hr (by omega)
      obtain ⟨c1, c2, c3⟩ := hc k hlt
      have g1 := cell_later hB2 c1
      have g2 := cell_later hB2 c2
      have g3 := cell_later hB2 c3
      clear hc hr c1 c2 c3 X1 X2 hB
      have hne : w.heap.size ≠ w.heap.size + 1 := by omega
      have HE := Lib.hid hne
      clear hne
      have Z3 := Bx.new wr 25 #[.bool (bs k), .string (ss k), .int .i64 (es k)]
      have Z1 := Y1.alloc (.cells #[.bool (bs k), .string (ss k), .int .i64 (es k)] 25)
      have Z2 := Y2.alloc (.cells #[.bool (bs k), .string (ss k), .int .i64 (es k)] 25)
      have hB3 := nxtA hB2 (.cells #[.bool (bs k), .string (ss k), .int .i64 (es k)] 25)
      clear Y1 Y2 hB2
      obtain ⟨q1, q2, q5, q3, q4, q6⟩ := Z2.three
      obtain ⟨r1, r2, r5, _, _, _⟩ := Z3.three
      by_cases h0 : k = 0
      · subst h0
        simp only [Nat.zero_mul, Nat.add_zero] at g1 g2 g3
        have HK := Lib.hid (And.intro Z1 (And.intro Z2 hB3))
        clear Z1 Z2 Z3 hB3 hn0
        go_wp2
        obtain ⟨Z1, Z2, hB3⟩ := HK.out
        exact ⟨⟨1, hlt, rfl, Bx.far3 Z1 HE.out _ _ _, ⟨_, _, _, HN.out 0, Z2.set3 _ _ _⟩, st3 hB3 (Nat.le_add_right _ 1) _ _ _⟩, by simp [intOf]; omega⟩
      · have hk0 : ¬ (k : Int) = 0 := by omega
        have cC := Lib.hid (fun W (h : TabAt 0 Lib.deBruijn64tab W) => dMin1_x _ _ _ _ _ _ _ W h (Lib.hid fun W h => dCmp_any W (HN.out k) hn0 h))
        have hT1 : firstD minB xs (k + 1) = if minB (xs k) (firstD minB xs k) then xs k else firstD minB xs k := by
          show (if k = 0 then _ else _) = _
          rw [if_neg h0]
        have hT2 : minB (xs k) (firstD minB xs k) = decide ((dsgn (xs k - firstD minB xs k)) < 0) := rfl
        rw [hT2] at hT1
        clear hT2
        have HN0 := Lib.hid hn0
        generalize decide ((dsgn (xs k - firstD minB xs k)) < 0) = B at *
        have HT1 := Lib.hid hT1
        clear hT1 h0 hn0
        go_wp2_with fail
        generalize wr.alloc (.cells #[.bool (bs k), .string (ss k), .int .i64 (es k)] 25) = w4 at *
        generalize wr.heap.size = g7 at *
        refine (cC.out _ (tab_keep HT.out hB3)).mono ?_
        rintro e w5 ⟨rfl, hb⟩
        replace Z1 := Z1.later hb
        replace Z2 := Z2.later hb
        replace Z3 := Z3.later hb
        replace hB3 := nxt hB3 hb
        clear hb q1 q2 q5 q3 q4 q6 r1 r2 r5
        obtain ⟨q1, q2, q5, q3, q4, q6⟩ := Z2.three
        obtain ⟨r1, r2, r5, _, _, _⟩ := Z3.three
        have HK := Lib.hid (And.intro Z1 (And.intro Z2 hB3))
        clear Z1 Z2 Z3 hB3
        cases B
        · go_wp2
          obtain ⟨Z1, Z2, hB3⟩ := HK.out
          refine ⟨⟨k + 1, hlt, by go_num, Z1, ⟨_, _, _, ?_, Z2⟩, hB3⟩, by simp [intOf]; omega⟩
          rw [HT1.out]; exact HN0.out
        · go_wp2
          obtain ⟨Z1, Z2, hB3⟩ := HK.out
          refine ⟨⟨k + 1, hlt, by go_num, Bx.far3 Z1 HE.out _ _ _, ⟨_, _, _, ?_, Z2.set3 _ _ _⟩, st3 hB3 (Nat.le_add_right _ 1) _ _ _⟩, by simp [intOf]; omega⟩
          rw [HT1.out]; exact HN.out k
    · obtain rfl : k = n := by omega
      have cF := Lib.hid (fun W (h : TabAt 0 Lib.deBruijn64tab W) => dForm_any s0 b0 e0 W (Nat.le_trans hn0.size (by decide)) (by have := hn0.lo; omega) (by have := hn0.hi; omega) h)
      rw [hn0.val] at cF
      obtain ⟨q1, q2, q5, _, _, _⟩ := Y2.three
      clear X1 X2 hB hn0 Y2
      go_wp2_with fail
      refine (cF.out _ (tab_keep HT.out hB2)).mono ?_
      rintro e w5 ⟨rfl, hb⟩
      replace Y1 := Y1.later hb
      replace hB2 := nxt hB2 hb
      clear hb q1 q2 q5
      obtain ⟨p1, p2, p5, p3, p4, p6⟩ := Y1.three
      go_wp2_with fail
      exact bodyPost_ret (v := .agg #[.bool (neg (dm (firstD minB xs k))), .string (mag (dm (firstD minB xs k))), .int .i64 (de (firstD minB xs k))]) (by simp [results, Tryz.results132, go_sem, (Y1.set3 _ _ _).cel]) rfl ⟨rfl, st3 hB2 (Nat.le_refl _) _ _ _⟩

set_option maxRecDepth 100000 in
set_option maxHeartbeats 1000000 in
theorem dMin_x (A : Option Addr) (n c : Nat) (x : Dyadic) (w : World)
    (cF : Hid (∀ W : World, Below w.heap.size w W → Calls Tryz.prog 132 #[.slice A n c, .func (.func 133) #[] #[]] W fun r w' => r = .returned (.agg #[.bool (neg (dm (x))), .string (mag (dm (x))), .int .i64 (de (x))]) ∧ Below W.heap.size W w'))
    :
    Calls Tryz.prog 91 #[.slice A n c] w fun r w' => r = .returned (.agg #[.bool (neg (dm (x))), .string (mag (dm (x))), .int .i64 (de (x))]) ∧ Below w.heap.size w w' := by
  go_enter Tryz.func91, Tryz.ntmps91
  have X1 := Bx.new w 25 #[.bool false, .string ⟨#[]⟩, .int .i64 0]
  have hB := b1 w (.cells #[.bool false, .string ⟨#[]⟩, .int .i64 0] 25)
  go_wp2_with fail
  generalize w.alloc (.cells #[.bool false, .string ⟨#[]⟩, .int .i64 0] 25) = w0 at *
  refine (cF.out _ hB).mono ?_
  rintro e w5 ⟨rfl, hb⟩
  replace X1 := X1.later hb
  replace hB := nxt hB hb
  clear hb
  obtain ⟨p1, p2, p5, p3, p4, p6⟩ := X1.three
  go_wp2_with fail
  exact bodyPost_ret (v := .agg #[.bool (neg (dm (x))), .string (mag (dm (x))), .int .i64 (de (x))]) (by simp [results, Tryz.results91, go_sem, (X1.set3 _ _ _).cel]) rfl ⟨rfl, st3 hB (Nat.le_refl _) _ _ _⟩
theorem dMin_any (A : Option Addr) (n c : Nat) (bs : Nat → Bool) (ss : Nat → ByteArray) (es : Nat → Int) (xs : Nat → Dyadic) (w : World) (hn : n ≤ 1000000) (hnd : ∀ j, ND (bs j) (ss j) (es j) (xs j)) (hr : RdN w A n bs ss es) (hT : TabAt 0 Lib.deBruijn64tab w) :
    Calls Tryz.prog 91 #[.slice A n c] w fun r w' => r = .returned (.agg #[.bool (neg (dm (firstD minB xs n))), .string (mag (dm (firstD minB xs n))), .int .i64 (de (firstD minB xs n))]) ∧ Below w.heap.size w w' := by
  exact dMin_x A n c _ w (Lib.hid fun W hB => dFirstMin A n c bs ss es xs W hn hnd (hr.below hB) (tab_keep hT hB))

set_option maxRecDepth 100000 in
set_option maxHeartbeats 1000000 in
theorem dMax1_x (s t : ByteArray) (b c : Bool) (e f z : Int) (w : World) (hT : TabAt 0 Lib.deBruijn64tab w)
    (cC : Hid (∀ W : World, TabAt 0 Lib.deBruijn64tab W → Calls Tryz.prog 51 #[.agg #[.bool b, .string s, .int .i64 e], .agg #[.bool c, .string t, .int .i64 f]] W fun r w' => r = .returned (.int .i64 z) ∧ Below W.heap.size W w'))
    :
    Calls Tryz.prog 134 #[.agg #[.bool b, .string s, .int .i64 e], .agg #[.bool c, .string t, .int .i64 f]] w fun r w' => r = .returned (.bool (decide (0 < z))) ∧ Below w.heap.size w w' := by
  have HT := Lib.hid hT
  clear hT
  go_enter Tryz.func134, Tryz.ntmps134
  go_upto_region 1 with (fail)
  have X1 := (Bx.new w 25 #[.bool b, .string s, .int .i64 e]).alloc (.cells #[.bool c, .string t, .int .i64 f] 25)
  have X2 := Bx.at1 w (.cells #[.bool b, .string s, .int .i64 e] 25) 25 #[.bool c, .string t, .int .i64 f]
  have hB := b2 w (.cells #[.bool b, .string s, .int .i64 e] 25) (.cells #[.bool c, .string t, .int .i64 f] 25)
  generalize (w.alloc (.cells #[.bool b, .string s, .int .i64 e] 25)).alloc (.cells #[.bool c, .string t, .int .i64 f] 25) = w0 at *
  have hl0 := X1.lt
  have hl1 := X2.lt
  obtain ⟨p1, p2, p5, p3, p4, p6⟩ := X1.three
  obtain ⟨q1, q2, q5, q3, q4, q6⟩ := X2.three
  go_wp2_with fail
  refine (cC.out _ (tab_keep HT.out hB)).mono ?_
  rintro e w1 ⟨rfl, hb⟩
  replace X1 := X1.later hb
  replace X2 := X2.later hb
  replace hB := nxt hB hb
  clear hb
  clear p1 p2 p3 p4 p5 p6 q1 q2 q3 q4 q5 q6
  obtain ⟨p1, p2, p5, p3, p4, p6⟩ := X1.three
  obtain ⟨q1, q2, q5, q3, q4, q6⟩ := X2.three
  go_wp2
  go_ret
  exact ⟨rfl, hB⟩
set_option maxRecDepth 100000 in
set_option maxHeartbeats 1000000 in
theorem dFirstMax (A : Option Addr) (n c : Nat) (bs : Nat → Bool) (ss : Nat → ByteArray) (es : Nat → Int) (xs : Nat → Dyadic) (w : World) (hn : n ≤ 1000000) (hnd : ∀ j, ND (bs j) (ss j) (es j) (xs j)) (hr : RdN w A n bs ss es) (hT : TabAt 0 Lib.deBruijn64tab w) :
    Calls Tryz.prog 132 #[.slice A n c, .func (.func 134) #[] #[]] w fun r w' => r = .returned (.agg #[.bool (neg (dm (firstD maxB xs n))), .string (mag (dm (firstD maxB xs n))), .int .i64 (de (firstD maxB xs n))]) ∧ Below w.heap.size w w' := by
  have HT := Lib.hid hT
  have HN := Lib.hid hnd
  clear hT hnd
  go_enter Tryz.func132, Tryz.ntmps132
  have X1 := (Bx.new w 25 #[.bool false, .string ⟨#[]⟩, .int .i64 0]).alloc (.cells #[.bool false, .string ⟨#[]⟩, .int .i64 0] 25)
  have X2 := Bx.at1 w (.cells #[.bool false, .string ⟨#[]⟩, .int .i64 0] 25) 25 #[.bool false, .string ⟨#[]⟩, .int .i64 0]
  have hB := b2 w (.cells #[.bool false, .string ⟨#[]⟩, .int .i64 0] 25) (.cells #[.bool false, .string ⟨#[]⟩, .int .i64 0] 25)
  go_wp2_with fail
  generalize (w.alloc (.cells #[.bool false, .string ⟨#[]⟩, .int .i64 0] 25)).alloc (.cells #[.bool false, .string ⟨#[]⟩, .int .i64 0] 25) = w0 at *
  go_loopw [10] (fun i wr => ∃ k : Nat, k ≤ n ∧ i = .int .i64 (k : Nat) ∧ Bx wr w.heap.size 25 #[.bool false, .string ⟨#[]⟩, .int .i64 0] ∧ (∃ b0 s0 e0, ND b0 s0 e0 (firstD maxB xs k) ∧ Bx wr (w.heap.size + 1) 25 #[.bool b0, .string s0, .int .i64 e0]) ∧ Below w.heap.size w wr) (fun i _ => n - (intOf i).toNat)
  case atStart => exact ⟨0, Nat.zero_le _, rfl, X1, ⟨_, _, _, nd_zero0, X2⟩, hB⟩
  case round =>
    obtain ⟨k, hk, rfl, Y1, ⟨b0, s0, e0, hn0, Y2⟩, hB2⟩ := hrel
    by_cases hlt : k < n
    · obtain ⟨b, off, rfl, hc⟩ := hr (by omega)
      obtain ⟨c1, c2, c3⟩ := hc k hlt
      have g1 := cell_later hB2 c1
      have g2 := cell_later hB2 c2
      have g3 := cell_later hB2 c3
      clear hc hr c1 c2 c3 X1 X2 hB
      have hne : w.heap.size ≠ w.heap.size + 1 := by omega
      have HE := Lib.hid hne
      clear hne
      have Z3 := Bx.new wr 25 #[.bool (bs k), .string (ss k), .int .i64 (es k)]
      have Z1 := Y1.alloc (.cells #[.bool (bs k), .string (ss k), .int .i64 (es k)] 25)
      have Z2 := Y2.alloc (.cells #[.bool (bs k), .string (ss k), .int .i64 (es k)] 25)
      have hB3 := nxtA hB2 (.cells #[.bool (bs k), .string (ss k), .int .i64 (es k)] 25)
      clear Y1 Y2 hB2
      obtain ⟨q1, q2, q5, q3, q4, q6⟩ := Z2.three
      obtain ⟨r1, r2, r5, _, _, _⟩ := Z3.three
      by_cases h0 : k = 0
      · subst h0
        simp only [Nat.zero_mul, Nat.add_zero] at g1 g2 g3
        have HK := Lib.hid (And.intro Z1 (And.intro Z2 hB3))
        clear Z1 Z2 Z3 hB3 hn0
        go_wp2
        obtain ⟨Z1, Z2, hB3⟩ := HK.out
        exact ⟨⟨1, hlt, rfl, Bx.far3 Z1 HE.out _ _ _, ⟨_, _, _, HN.out 0, Z2.set3 _ _ _⟩, st3 hB3 (Nat.le_add_right _ 1) _ _ _⟩, by simp [intOf]; omega⟩
      · have hk0 : ¬ (k : Int) = 0 := by omega
        have cC := Lib.hid (fun W (h : TabAt 0 Lib.deBruijn64tab W) => dMax1_x _ _ _ _ _ _ _ W h (Lib.hid fun W h => dCmp_any W (HN.out k) hn0 h))
        have hT1 : firstD maxB xs (k + 1) = if maxB (xs k) (firstD maxB xs k) then xs k else firstD maxB xs k := by
          show (if k = 0 then _ else _) = _
          rw [if_neg h0]
        have hT2 : maxB (xs k) (firstD maxB xs k) = decide (0 < (dsgn (xs k - firstD maxB xs k))) := rfl
        rw [hT2] at hT1
        clear hT2
        have HN0 := Lib.hid hn0
        generalize decide (0 < (dsgn (xs k - firstD maxB xs k))) = B at *
        have HT1 := Lib.hid hT1
        clear hT1 h0 hn0
        go_wp2_with fail
        generalize wr.alloc (.cells #[.bool (bs k), .string (ss k), .int .i64 (es k)] 25) = w4 at *
        generalize wr.heap.size = g7 at *
        refine (cC.out _ (tab_keep HT.out hB3)).mono ?_
        rintro e w5 ⟨rfl, hb⟩
        replace Z1 := Z1.later hb
        replace Z2 := Z2.later hb
        replace Z3 := Z3.later hb
        replace hB3 := nxt hB3 hb
        clear hb q1 q2 q5 q3 q4 q6 r1 r2 r5
        obtain ⟨q1, q2, q5, q3, q4, q6⟩ := Z2.three
        obtain ⟨r1, r2, r5, _, _, _⟩ := Z3.three
        have HK := Lib.hid (And.intro Z1 (And.intro Z2 hB3))
        clear Z1 Z2 Z3 hB3
        cases B
        · go_wp2
          obtain ⟨Z1, Z2, hB3⟩ := HK.out
          refine ⟨⟨k + 1, hlt, by go_num, Z1, ⟨_, _, _, ?_, Z2⟩, hB3⟩, by simp [intOf]; omega⟩
          rw [HT1.out]; exact HN0.out
        · go_wp2
          obtain ⟨Z1, Z2, hB3⟩ := HK.out
          refine ⟨⟨k + 1, hlt, by go_num, Bx.far3 Z1 HE.out _ _ _, ⟨_, _, _, ?_, Z2.set3 _ _ _⟩, st3 hB3 (Nat.le_add_right _ 1) _ _ _⟩, by simp [intOf]; omega⟩
          rw [HT1.out]; exact HN.out k
    · obtain rfl : k = n := by omega
      have cF := Lib.hid (fun W (h : TabAt 0 Lib.deBruijn64tab W) => dForm_any s0 b0 e0 W (Nat.le_trans hn0.size (by decide)) (by have := hn0.lo; omega) (by have := hn0.hi; omega) h)
      rw [hn0.val] at cF
      obtain ⟨q1, q2, q5, _, _, _⟩ := Y2.three
      clear X1 X2 hB hn0 Y2
      go_wp2_with fail
      refine (cF.out _ (tab_keep HT.out hB2)).mono ?_
      rintro e w5 ⟨rfl, hb⟩
      replace Y1 := Y1.later hb
      replace hB2 := nxt hB2 hb
      clear hb q1 q2 q5
      obtain ⟨p1, p2, p5, p3, p4, p6⟩ := Y1.three
      go_wp2_with fail
      exact bodyPost_ret (v := .agg #[.bool (neg (dm (firstD maxB xs k))), .string (mag (dm (firstD maxB xs k))), .int .i64 (de (firstD maxB xs k))]) (by simp [results, Tryz.results132, go_sem, (Y1.set3 _ _ _).cel]) rfl ⟨rfl, st3 hB2 (Nat.le_refl _) _ _ _⟩

set_option maxRecDepth 100000 in
set_option maxHeartbeats 1000000 in
theorem dMax_x (A : Option Addr) (n c : Nat) (x : Dyadic) (w : World)
    (cF : Hid (∀ W : World, Below w.heap.size w W → Calls Tryz.prog 132 #[.slice A n c, .func (.func 134) #[] #[]] W fun r w' => r = .returned (.agg #[.bool (neg (dm (x))), .string (mag (dm (x))), .int .i64 (de (x))]) ∧ Below W.heap.size W w'))
    :
    Calls Tryz.prog 92 #[.slice A n c] w fun r w' => r = .returned (.agg #[.bool (neg (dm (x))), .string (mag (dm (x))), .int .i64 (de (x))]) ∧ Below w.heap.size w w' := by
  go_enter Tryz.func92, Tryz.ntmps92
  have X1 := Bx.new w 25 #[.bool false, .string ⟨#[]⟩, .int .i64 0]
  have hB := b1 w (.cells #[.bool false, .string ⟨#[]⟩, .int .i64 0] 25)
  go_wp2_with fail
  generalize w.alloc (.cells #[.bool false, .string ⟨#[]⟩, .int .i64 0] 25) = w0 at *
  refine (cF.out _ hB).mono ?_
  rintro e w5 ⟨rfl, hb⟩
  replace X1 := X1.later hb
  replace hB := nxt hB hb
  clear hb
  obtain ⟨p1, p2, p5, p3, p4, p6⟩ := X1.three
  go_wp2_with fail
  exact bodyPost_ret (v := .agg #[.bool (neg (dm (x))), .string (mag (dm (x))), .int .i64 (de (x))]) (by simp [results, Tryz.results92, go_sem, (X1.set3 _ _ _).cel]) rfl ⟨rfl, st3 hB (Nat.le_refl _) _ _ _⟩
theorem dMax_any (A : Option Addr) (n c : Nat) (bs : Nat → Bool) (ss : Nat → ByteArray) (es : Nat → Int) (xs : Nat → Dyadic) (w : World) (hn : n ≤ 1000000) (hnd : ∀ j, ND (bs j) (ss j) (es j) (xs j)) (hr : RdN w A n bs ss es) (hT : TabAt 0 Lib.deBruijn64tab w) :
    Calls Tryz.prog 92 #[.slice A n c] w fun r w' => r = .returned (.agg #[.bool (neg (dm (firstD maxB xs n))), .string (mag (dm (firstD maxB xs n))), .int .i64 (de (firstD maxB xs n))]) ∧ Below w.heap.size w w' := by
  exact dMax_x A n c _ w (Lib.hid fun W hB => dFirstMax A n c bs ss es xs W hn hnd (hr.below hB) (tab_keep hT hB))

end Go.Proofs.YtchfglbkiebfpaaGreatDoor

