/- The walks and plain laws beneath the statements. -/
import Derived.Test.YtchfglbkiebfpaaGreatDoorPR16
import Derived.Test.YtchfglbkiebfpaaGreatDoorPR17
import Derived.BigQuiet
import Derived.Deep.QuietTactic
import Derived.Deep.RegionHeld3
namespace Go.Proofs.YtchfglbkiebfpaaGreatDoor
open Go.RowKit

theorem rdSign_vn {L T0 : Nat} {x : Dyadic} (d1 : DB L T0 x) (hLT : L + T0 ≤ 4000000) :
    Hid (∀ W : World, Calls Tryz.prog 24 #[.agg #[.bool (neg (dm (x))), .string (mag (dm (x))), .int .i64 (de (x))]] W fun r w' => r = .returned (.int .i64 (dsgn x)) ∧ Below W.heap.size W w') := by
  have h1 := db_size d1
  have h := Lib.hid (fun W => rdSign_any (mag (dm x)) (neg (dm x)) (de x) W (by omega))
  rw [ival_mk, dy_dm] at h
  exact h
theorem rdForm_nd {b : Bool} {s : ByteArray} {e : Int} {x : Dyadic} (n1 : ND b s e x) :
    Hid (∀ W : World, Calls Tryz.prog 82 #[.agg #[.bool b, .string s, .int .i64 e]] W fun r w' => r = .returned (.agg #[.bool (neg (dm (x))), .string (mag (dm (x))), .int .i64 (de (x))]) ∧ Below W.heap.size W w') := by
  have h := Lib.hid (fun W => rdForm_any s b e W (Nat.le_trans n1.size (by decide)) n1.lo (by have := n1.hi; omega))
  rw [n1.val] at h
  exact h
theorem plus_parts {L T0 : Nat} {x y : Dyadic} (d1 : DB L T0 x) (d2 : DB L T0 y) (hLT : L + T0 ≤ 4000000) (hge : de y ≤ de x) :
    ∃ d m q : Int, IntKind.i64.wrap (de x - de y) = d ∧ Hid (∀ W : World, Calls Tryz.prog 85 #[.agg #[.bool (neg (dm (x))), .string (mag (dm (x)))], .int .i64 d] W fun r w' => r = .returned (.agg #[.bool (neg m), .string (mag m)]) ∧ Below W.heap.size W w') ∧
      Hid (∀ W : World, Calls Tryz.prog 87 #[.agg #[.bool (neg m), .string (mag m)], .agg #[.bool (neg (dm (y))), .string (mag (dm (y)))]] W fun r w' => r = .returned (.agg #[.bool (neg q), .string (mag q)]) ∧ Below W.heap.size W w') ∧
      Hid (∀ W : World, Calls Tryz.prog 86 #[.agg #[.bool (neg q), .string (mag q)], .int .i64 (de y)] W fun r w' => r = .returned (.agg #[.bool (neg (dm (x + y))), .string (mag (dm (x + y))), .int .i64 (de (x + y))]) ∧ Below W.heap.size W w') := by
  have f1 := db_form d1
  have f2 := db_form d2
  have s1 := db_size d1
  have s2 := db_size d2
  have hsh : shiftI (dm x) (de x - de y) = dm x * 2 ^ (de x - de y).toNat := by unfold shiftI; rw [if_pos (by omega)]
  have bm : bsz (dm x * 2 ^ (de x - de y).toNat) ≤ 1100000 := by
    rw [mag_size] at s1
    exact Nat.le_trans (bsz_shl_le s1) (by omega)
  have by' : bsz (dm y) ≤ 1100000 := by rw [mag_size] at s2; omega
  have bq := bsz_add_le bm by'
  refine ⟨de x - de y, dm x * 2 ^ (de x - de y).toNat, dm x * 2 ^ (de x - de y).toNat + dm y, IntWalk.i64_in _ (by omega), ?_, ?_, ?_⟩
  · have h := Lib.hid (fun W => rShift_any (mag (dm x)) (neg (dm x)) (de x - de y) W (by omega) (by omega))
    rw [ival_mk, hsh] at h
    exact h
  · have h := Lib.hid (fun W => rPlusW_any (mag (dm x * 2 ^ (de x - de y).toNat)) (mag (dm y)) (neg (dm x * 2 ^ (de x - de y).toNat)) (neg (dm y)) W (by rw [mag_size]; omega) (by omega))
    rw [ival_mk, ival_mk] at h
    exact h
  · have h := Lib.hid (fun W => rMake_any (mag (dm x * 2 ^ (de x - de y).toNat + dm y)) (neg (dm x * 2 ^ (de x - de y).toNat + dm y)) (de y) W (by rw [mag_size]; omega) (by omega) (by omega))
    rw [ival_mk, ← dy_add, dy_shl, dy_dm] at h
    have e1 : de y + ((de x - de y).toNat : Int) = de x := by omega
    rw [e1, dy_dm] at h
    exact h
theorem rdPlus_any {b c : Bool} {s t : ByteArray} {e f : Int} {x y : Dyadic} {L T0 : Nat} (w : World) (n1 : ND b s e x) (n2 : ND c t f y) (d1 : DB L T0 x) (d2 : DB L T0 y) (hLT : L + T0 ≤ 4000000) :
    Calls Tryz.prog 105 #[.agg #[.bool b, .string s, .int .i64 e], .agg #[.bool c, .string t, .int .i64 f]] w fun r w' => r = .returned (.agg #[.bool (neg (dm (x + y))), .string (mag (dm (x + y))), .int .i64 (de (x + y))]) ∧ Below w.heap.size w w' := by
  have cF := rdForm_nd n1
  have cG := rdForm_nd n2
  have cS := rdSign_vn d1 hLT
  have cT := rdSign_vn d2 hLT
  by_cases hx : x = 0
  · subst hx
    rw [Dyadic.zero_add]
    exact rdPlus_zx s t b c e f _ _ _ (dsgn_eq.2 rfl) w cF cG cS
  · have hsx : ¬ dsgn x = 0 := fun h => hx (dsgn_eq.1 h)
    by_cases hy : y = 0
    · subst hy
      rw [Dyadic.add_zero]
      exact rdPlus_zy s t b c e f _ _ _ _ hsx (dsgn_eq.2 rfl) w cF cG cS cT
    · have hsy : ¬ dsgn y = 0 := fun h => hy (dsgn_eq.1 h)
      by_cases hlt : de x < de y
      · obtain ⟨d, m, q, hw, cH, cP, cM⟩ := plus_parts d2 d1 hLT (by omega)
        rw [Dyadic.add_comm x y]
        exact rdPlus_lt s t b c e f x y _ _ d m q _ hsx hsy hlt hw w cF cG cS cT cH cP cM
      · obtain ⟨d, m, q, hw, cH, cP, cM⟩ := plus_parts d1 d2 hLT (by omega)
        exact rdPlus_ge s t b c e f x y _ _ d m q _ hsx hsy hlt hw w cF cG cS cT cH cP cM

set_option maxRecDepth 100000 in
set_option maxHeartbeats 1000000 in
theorem rdSub_x (s t : ByteArray) (b c : Bool) (e f : Int) (x z : Dyadic) (w : World)
    (cN : Hid (∀ W : World, Calls Tryz.prog 75 #[.agg #[.bool c, .string t, .int .i64 f]] W fun r w' => r = .returned (.agg #[.bool (neg (dm (z))), .string (mag (dm (z))), .int .i64 (de (z))]) ∧ Below W.heap.size W w'))
    (cM : Hid (∀ W : World, Calls Tryz.prog 105 #[.agg #[.bool b, .string s, .int .i64 e], .agg #[.bool (neg (dm (z))), .string (mag (dm (z))), .int .i64 (de (z))]] W fun r w' => r = .returned (.agg #[.bool (neg (dm (x))), .string (mag (dm (x))), .int .i64 (de (x))]) ∧ Below W.heap.size W w'))
    :
    Calls Tryz.prog 104 #[.agg #[.bool b, .string s, .int .i64 e], .agg #[.bool c, .string t, .int .i64 f]] w fun r w' => r = .returned (.agg #[.bool (neg (dm (x))), .string (mag (dm (x))), .int .i64 (de (x))]) ∧ Below w.heap.size w w' := by
  go_enter Tryz.func104, Tryz.ntmps104
  go_upto_region 1 with (fail)
  have X1 := ((Bx.new w 25 #[.bool b, .string s, .int .i64 e]).alloc (.cells #[.bool c, .string t, .int .i64 f] 25)).alloc (.cells #[.bool false, .string ⟨#[]⟩, .int .i64 0] 25)
  have X2 := (Bx.at1 w (.cells #[.bool b, .string s, .int .i64 e] 25) 25 #[.bool c, .string t, .int .i64 f]).alloc (.cells #[.bool false, .string ⟨#[]⟩, .int .i64 0] 25)
  have X3 := Bx.at2 w (.cells #[.bool b, .string s, .int .i64 e] 25) (.cells #[.bool c, .string t, .int .i64 f] 25) 25 #[.bool false, .string ⟨#[]⟩, .int .i64 0]
  have hB := b3 w (.cells #[.bool b, .string s, .int .i64 e] 25) (.cells #[.bool c, .string t, .int .i64 f] 25) (.cells #[.bool false, .string ⟨#[]⟩, .int .i64 0] 25)
  generalize ((w.alloc (.cells #[.bool b, .string s, .int .i64 e] 25)).alloc (.cells #[.bool c, .string t, .int .i64 f] 25)).alloc (.cells #[.bool false, .string ⟨#[]⟩, .int .i64 0] 25) = w0 at *
  have hl0 := X1.lt
  have hl1 := X2.lt
  have hl2 := X3.lt
  refine wp_region_k [5, 6, 7, 8] [.eq (.agg #[.bool b, .string s, .int .i64 e]), .eq (.agg #[.bool c, .string t, .int .i64 f]), .eq (.agg #[.bool (neg (dm (z))), .string (mag (dm (z))), .int .i64 (de (z))]), .eq (.agg #[.bool (neg (dm (x))), .string (mag (dm (x))), .int .i64 (de (x))])] 9 (by kernel_rfl) (by exact fun _ _ _ _ _ h => h) (by kernel_rfl) (by rfl) ?hop ?htail
  case hop =>
    intro A hA
    have hN : A.tmps.size = 9 := by rw [hA]; rfl
    have q2 : A.tmps.getD 2 undef = .pointer (some ⟨w.heap.size, 0, none⟩) := by rw [hA]; rfl
    have q3 : A.tmps.getD 3 undef = .pointer (some ⟨w.heap.size + 1, 0, none⟩) := by rw [hA]; rfl
    clear hA
    refine ⟨?_, ?_, ?_, ?_, trivial⟩
    · refine kok hN fun u W ev ec ef E B hG hf => ?_
      exact k_val _ rfl rfl hG (by simp [go_sem, B 2 rfl rfl q2, (X1.later hG).cel]) rfl
    · refine kok hN fun u W ev ec ef E B hG hf => ?_
      exact k_val _ rfl rfl hG (by simp [go_sem, B 3 rfl rfl q3, (X2.later hG).cel]) rfl
    · refine kok hN fun u W ev ec ef E B hG hf => ?_
      exact k_cl rfl rfl (by simp [go_sem, ef, E 6 1 rfl rfl (hf 1 rfl)]) (cN.out W) hG (fun _ _ => rfl)
    · refine kok hN fun u W ev ec ef E B hG hf => ?_
      exact k_cl rfl rfl (by simp [go_sem, ef, E 5 0 rfl rfl (hf 0 rfl), E 7 2 rfl rfl (hf 2 rfl)]) (cM.out W) hG (fun _ _ => rfl)
  case htail =>
    intro u w' hG hP hD
    have f8 : u 3 = .agg #[.bool (neg (dm (x))), .string (mag (dm (x))), .int .i64 (de (x))] := hP 3 (by decide)
    simp only [putAll, Act.put, List.setIfInBounds_toArray, List.set_cons_zero, List.set_cons_succ, List.length_cons, List.length_nil, Nat.reduceAdd, List.drop_succ_cons, List.drop_zero, f8]
    have hB := Lib.hid (nxt hB hG)
    replace X3 := X3.later hG
    have HX := Lib.hid X3
    obtain ⟨q1, q2, q5, q3, q4, q6⟩ := X3.three
    clear X1 X2 X3 hP hD hG f8
    go_wp2_with fail
    exact bodyPost_ret (v := .agg #[.bool (neg (dm (x))), .string (mag (dm (x))), .int .i64 (de (x))]) (by simp [results, Tryz.results104, go_sem, (HX.out.set3 _ _ _).cel]) rfl ⟨rfl, st3 hB.out (Nat.le_add_right _ 2) _ _ _⟩
theorem rdSub_any {b c : Bool} {s t : ByteArray} {e f : Int} {x y : Dyadic} {L T0 : Nat} (w : World) (n1 : ND b s e x) (n2 : ND c t f y) (d1 : DB L T0 x) (d2 : DB L T0 y) (hLT : L + T0 ≤ 4000000) :
    Calls Tryz.prog 104 #[.agg #[.bool b, .string s, .int .i64 e], .agg #[.bool c, .string t, .int .i64 f]] w fun r w' => r = .returned (.agg #[.bool (neg (dm (x - y))), .string (mag (dm (x - y))), .int .i64 (de (x - y))]) ∧ Below w.heap.size w w' := by
  have cN := Lib.hid (fun W => rdNeg_any t c f W (Nat.le_trans n2.size (by decide)) n2.lo (by have := n2.hi; omega))
  rw [n2.val] at cN
  have cM := Lib.hid (fun W => rdPlus_any W n1 (nd_db (db_neg d2) hLT) d1 (db_neg d2) hLT)
  rw [show x + -y = x - y by grind] at cM
  exact rdSub_x s t b c e f _ _ w cN cM

set_option maxRecDepth 100000 in
set_option maxHeartbeats 1000000 in
theorem rdCmp_x (s t : ByteArray) (b c : Bool) (e f g : Int) (x : Dyadic) (w : World)
    (cM : Hid (∀ W : World, Calls Tryz.prog 104 #[.agg #[.bool b, .string s, .int .i64 e], .agg #[.bool c, .string t, .int .i64 f]] W fun r w' => r = .returned (.agg #[.bool (neg (dm (x))), .string (mag (dm (x))), .int .i64 (de (x))]) ∧ Below W.heap.size W w'))
    (cS : Hid (∀ W : World, Calls Tryz.prog 24 #[.agg #[.bool (neg (dm (x))), .string (mag (dm (x))), .int .i64 (de (x))]] W fun r w' => r = .returned (.int .i64 g) ∧ Below W.heap.size W w'))
    :
    Calls Tryz.prog 99 #[.agg #[.bool b, .string s, .int .i64 e], .agg #[.bool c, .string t, .int .i64 f]] w fun r w' => r = .returned (.int .i64 g) ∧ Below w.heap.size w w' := by
  go_enter Tryz.func99, Tryz.ntmps99
  go_upto_region 1 with (fail)
  have X1 := (Bx.new w 25 #[.bool b, .string s, .int .i64 e]).alloc (.cells #[.bool c, .string t, .int .i64 f] 25)
  have X2 := Bx.at1 w (.cells #[.bool b, .string s, .int .i64 e] 25) 25 #[.bool c, .string t, .int .i64 f]
  have hB := b2 w (.cells #[.bool b, .string s, .int .i64 e] 25) (.cells #[.bool c, .string t, .int .i64 f] 25)
  generalize (w.alloc (.cells #[.bool b, .string s, .int .i64 e] 25)).alloc (.cells #[.bool c, .string t, .int .i64 f] 25) = w0 at *
  have hl0 := X1.lt
  have hl1 := X2.lt
  obtain ⟨p1, p2, p5, p3, p4, p6⟩ := X1.three
  obtain ⟨q1, q2, q5, q3, q4, q6⟩ := X2.three
  go_wp2_with fail
  refine (cM.out _).mono ?_
  rintro e w1 ⟨rfl, hb⟩
  replace X1 := X1.later hb
  replace X2 := X2.later hb
  replace hB := nxt hB hb
  clear hb
  clear p1 p2 p3 p4 p5 p6 q1 q2 q3 q4 q5 q6
  obtain ⟨p1, p2, p5, p3, p4, p6⟩ := X1.three
  obtain ⟨q1, q2, q5, q3, q4, q6⟩ := X2.three
  go_wp2_with fail
  refine (cS.out _).mono ?_
  rintro e w2 ⟨rfl, hb⟩
  replace X1 := X1.later hb
  replace X2 := X2.later hb
  replace hB := nxt hB hb
  clear hb
  clear p1 p2 p3 p4 p5 p6 q1 q2 q3 q4 q5 q6
  obtain ⟨p1, p2, p5, p3, p4, p6⟩ := X1.three
  obtain ⟨q1, q2, q5, q3, q4, q6⟩ := X2.three
  go_wp2
  go_ret
  exact ⟨rfl, hB⟩
theorem rdCmp_any {b c : Bool} {s t : ByteArray} {e f : Int} {x y : Dyadic} {L T0 : Nat} (w : World) (n1 : ND b s e x) (n2 : ND c t f y) (d1 : DB L T0 x) (d2 : DB L T0 y) (hLT : L + T0 ≤ 3000000) :
    Calls Tryz.prog 99 #[.agg #[.bool b, .string s, .int .i64 e], .agg #[.bool c, .string t, .int .i64 f]] w fun r w' => r = .returned (.int .i64 (dsgn (x - y))) ∧ Below w.heap.size w w' := by
  exact rdCmp_x s t b c e f _ _ w (Lib.hid fun W => rdSub_any W n1 n2 d1 d2 (by omega)) (rdSign_vn (db_sub d1 d2) (by omega))

end Go.Proofs.YtchfglbkiebfpaaGreatDoor

namespace Go.Proofs.YtchfglbkiebfpaaGreatDoor
open Go.RowKit

theorem undrewN {w w' : World} {k : Nat} (h : Below (w.drewN k).heap.size (w.drewN k) w') : Below w.heap.size w w' := ⟨h.os, h.tape, h.output, h.size, h.block⟩
theorem db_first {L T0 : Nat} {lt : Dyadic → Dyadic → Bool} {f : Nat → Dyadic} (h : ∀ j, DB L T0 (f j)) : ∀ k, DB L T0 (firstD lt f k)
  | 0 => db_zero _ _
  | k + 1 => by
    show DB L T0 (if k = 0 then f 0 else if lt (f k) (firstD lt f k) then f k else firstD lt f k)
    split
    · exact h 0
    · split
      · exact h k
      · exact db_first h k

set_option maxRecDepth 100000 in
set_option maxHeartbeats 1000000 in
theorem rdMin_any (A : Option Addr) (n c : Nat) (bs : Nat → Bool) (ss : Nat → ByteArray) (es : Nat → Int) (xs : Nat → Dyadic) (L0 T0 : Nat) (w : World) (hn : n ≤ 1000000) (hnd : ∀ j, ND (bs j) (ss j) (es j) (xs j)) (hdb : ∀ j, DB L0 T0 (xs j)) (hLT : L0 + T0 ≤ 3000000) (hr : RdN w A n bs ss es) :
    Calls Tryz.prog 98 #[.slice A n c] w fun r w' => r = .returned (.agg #[.bool (neg (dm (firstD minB xs n))), .string (mag (dm (firstD minB xs n))), .int .i64 (de (firstD minB xs n))]) ∧ Below w.heap.size w w' := by
  have HN := Lib.hid hnd
  have HD := Lib.hid hdb
  clear hnd hdb
  go_enter Tryz.func98, Tryz.ntmps98
  have X1 := (Bx.new w 25 #[.bool false, .string ⟨#[]⟩, .int .i64 0]).alloc (.cells #[.bool false, .string ⟨#[]⟩, .int .i64 0] 25)
  have X2 := Bx.at1 w (.cells #[.bool false, .string ⟨#[]⟩, .int .i64 0] 25) 25 #[.bool false, .string ⟨#[]⟩, .int .i64 0]
  have hB := b2 w (.cells #[.bool false, .string ⟨#[]⟩, .int .i64 0] 25) (.cells #[.bool false, .string ⟨#[]⟩, .int .i64 0] 25)
  go_wp2_with fail
  generalize (w.alloc (.cells #[.bool false, .string ⟨#[]⟩, .int .i64 0] 25)).alloc (.cells #[.bool false, .string ⟨#[]⟩, .int .i64 0] 25) = w0 at *
  go_loopw [4] (fun i wr => ∃ k : Nat, k ≤ n ∧ i = .int .i64 (k : Nat) ∧ Bx wr w.heap.size 25 #[.bool false, .string ⟨#[]⟩, .int .i64 0] ∧ Bx wr (w.heap.size + 1) 25 #[.bool (neg (dm (firstD minB xs k))), .string (mag (dm (firstD minB xs k))), .int .i64 (de (firstD minB xs k))] ∧ Below w.heap.size w wr) (fun i _ => n - (intOf i).toNat)
  case atStart => exact ⟨0, Nat.zero_le _, rfl, X1, X2, hB⟩
  case round =>
    obtain ⟨k, hk, rfl, Y1, Y2, hB2⟩ := hrel
    by_cases hlt : k < n
    · obtain ⟨b, off, rfl, hc⟩ := hr (by omega)
      obtain ⟨c1, c2, c3⟩ := hc k hlt
      have g1 := cell_later hB2 c1
      have g2 := cell_later hB2 c2
      have g3 := cell_later hB2 c3
      clear hc hr c1 c2 c3 X1 X2 hB
      have HE := Lib.hid (show w.heap.size ≠ w.heap.size + 1 by omega)
      have cF := rdForm_nd (HN.out k)
      obtain ⟨q1, q2, q5, q3, q4, q6⟩ := Y2.three
      by_cases h0 : k = 0
      · subst h0
        simp only [Nat.zero_mul, Nat.add_zero] at g1 g2 g3
        have e0 : ((0 : Nat) : Int) = 0 := rfl
        rw [e0]
        clear e0
        have HK := Lib.hid (And.intro Y1 (And.intro Y2 hB2))
        clear Y1 Y2
        go_wp2_with fail
        go_quiet (fail)
        go_wp2_with fail
        refine (cF.out _).mono ?_
        rintro e w5 ⟨rfl, hb⟩
        obtain ⟨Y1, Y2, hB2⟩ := HK.out
        have hb' := undrewN hb
        replace Y1 := Y1.later hb'
        replace Y2 := Y2.later hb'
        replace hB2 := nxt hB2 hb'
        clear hb hb' HK q1 q2 q5 q3 q4 q6 g1 g2 g3
        obtain ⟨q1, q2, q5, q3, q4, q6⟩ := Y2.three
        have HK := Lib.hid (And.intro Y1 (And.intro Y2 hB2))
        clear Y1 Y2 hB2
        go_wp2
        obtain ⟨Y1, Y2, hB2⟩ := HK.out
        exact ⟨⟨1, hlt, rfl, Bx.far3 Y1 HE.out _ _ _, Y2.set3 _ _ _, st3 hB2 (Nat.le_add_right _ 1) _ _ _⟩, by simp [intOf]; omega⟩
      · have hT1 : firstD minB xs (k + 1) = if minB (xs k) (firstD minB xs k) then xs k else firstD minB xs k := by
          show (if k = 0 then _ else _) = _
          rw [if_neg h0]
        have hT2 : minB (xs k) (firstD minB xs k) = decide ((dsgn (xs k - firstD minB xs k)) < 0) := rfl
        rw [hT2] at hT1
        clear hT2
        have cC := Lib.hid (fun W => rdCmp_any W (HN.out k) (nd_db (db_first (lt := minB) HD.out k) (by omega)) (HD.out k) (db_first (lt := minB) HD.out k) hLT)
        generalize dsgn (xs k - firstD minB xs k) = z at *
        have HT1 := Lib.hid hT1
        clear hT1
        obtain ⟨I, hI⟩ : ∃ I : Int, I = (k : Int) := ⟨_, rfl⟩
        rw [← hI]
        have HI := Lib.hid hI
        have i1 : I < (n : Int) := by omega
        have i3 : 0 ≤ I := by omega
        have i4 : I.toNat = k := by omega
        have i8 : ¬ I = 0 := by omega
        have i7 : (I == 0) = false := by simpa using i8
        have i9 : I ≤ 1000000 := by omega
        have HK := Lib.hid (And.intro Y1 (And.intro Y2 hB2))
        clear hI Y1 Y2 h0
        go_wp2_with fail
        go_region_held3 (fun w' => w'.cell? ⟨b, off + k * 3, none⟩ = some (.bool (bs k)) ∧ w'.cell? ⟨b, off + k * 3 + 1, none⟩ = some (.string (ss k)) ∧ w'.cell? ⟨b, off + k * 3 + 2, none⟩ = some (.int .i64 (es k)) ∧ w'.cell? ⟨w.heap.size + 1, 0, none⟩ = some (.bool (neg (dm (firstD minB xs k)))) ∧ w'.cell? ⟨w.heap.size + 1, 1, none⟩ = some (.string (mag (dm (firstD minB xs k)))) ∧ w'.cell? ⟨w.heap.size + 1, 2, none⟩ = some (.int .i64 (de (firstD minB xs k)))) (first | exact ⟨g1, g2, g3, q1, q2, q5⟩ | exact ⟨cell_later ha g1, cell_later ha g2, cell_later ha g3, cell_later ha q1, cell_later ha q2, cell_later ha q5⟩)
          (first
            | (go_at_call 99; refine (cC.out wr.drew).mono ?_; rintro e wa ⟨rfl, ha'⟩; have ha := undrew ha'; clear ha'))
        obtain ⟨Y1, Y2, hB2⟩ := HK.out
        replace Y1 := Y1.later ha
        replace Y2 := Y2.later ha
        replace hB2 := nxt hB2 ha
        replace g1 := cell_later ha g1
        replace g2 := cell_later ha g2
        replace g3 := cell_later ha g3
        clear ha HK q1 q2 q5 q3 q4 q6
        have HK := Lib.hid (And.intro Y1 (And.intro Y2 hB2))
        clear Y1 Y2 hB2
        by_cases hz : z < 0
        · rw [decide_eq_true hz] at HT1
          go_wp2_with fail
          refine (cF.out _).mono ?_
          rintro e w5 ⟨rfl, hb⟩
          obtain ⟨Y1, Y2, hB2⟩ := HK.out
          replace Y1 := Y1.later hb
          replace Y2 := Y2.later hb
          replace hB2 := nxt hB2 hb
          clear hb HK g1 g2 g3
          obtain ⟨q1, q2, q5, q3, q4, q6⟩ := Y2.three
          have HK := Lib.hid (And.intro Y1 (And.intro Y2 hB2))
          clear Y1 Y2 hB2
          go_wp2
          obtain ⟨Y1, Y2, hB2⟩ := HK.out
          exact ⟨⟨k + 1, hlt, by rw [HI.out]; go_num, Bx.far3 Y1 HE.out _ _ _, by rw [HT1.out]; exact Y2.set3 _ _ _, st3 hB2 (Nat.le_add_right _ 1) _ _ _⟩, by simp [intOf]; omega⟩
        · rw [decide_eq_false hz] at HT1
          go_wp2
          obtain ⟨Y1, Y2, hB2⟩ := HK.out
          exact ⟨⟨k + 1, hlt, by rw [HI.out]; go_num, Y1, by rw [HT1.out]; exact Y2, hB2⟩, by simp [intOf]; omega⟩
    · obtain rfl : k = n := by omega
      obtain ⟨p1, p2, p5, p3, p4, p6⟩ := Y1.three
      obtain ⟨q1, q2, q5, _, _, _⟩ := Y2.three
      have HY := Lib.hid Y1
      clear Y1 Y2 X1 X2 hB
      go_wp2_with fail
      exact bodyPost_ret (v := .agg #[.bool (neg (dm (firstD minB xs k))), .string (mag (dm (firstD minB xs k))), .int .i64 (de (firstD minB xs k))]) (by simp [results, Tryz.results98, go_sem, (HY.out.set3 _ _ _).cel]) rfl ⟨rfl, st3 hB2 (Nat.le_refl _) _ _ _⟩

set_option maxRecDepth 100000 in
set_option maxHeartbeats 1000000 in
theorem rdMax_any (A : Option Addr) (n c : Nat) (bs : Nat → Bool) (ss : Nat → ByteArray) (es : Nat → Int) (xs : Nat → Dyadic) (L0 T0 : Nat) (w : World) (hn : n ≤ 1000000) (hnd : ∀ j, ND (bs j) (ss j) (es j) (xs j)) (hdb : ∀ j, DB L0 T0 (xs j)) (hLT : L0 + T0 ≤ 3000000) (hr : RdN w A n bs ss es) :
    Calls Tryz.prog 97 #[.slice A n c] w fun r w' => r = .returned (.agg #[.bool (neg (dm (firstD maxB xs n))), .string (mag (dm (firstD maxB xs n))), .int .i64 (de (firstD maxB xs n))]) ∧ Below w.heap.size w w' := by
  have HN := Lib.hid hnd
  have HD := Lib.hid hdb
  clear hnd hdb
  go_enter Tryz.func97, Tryz.ntmps97
  have X1 := (Bx.new w 25 #[.bool false, .string ⟨#[]⟩, .int .i64 0]).alloc (.cells #[.bool false, .string ⟨#[]⟩, .int .i64 0] 25)
  have X2 := Bx.at1 w (.cells #[.bool false, .string ⟨#[]⟩, .int .i64 0] 25) 25 #[.bool false, .string ⟨#[]⟩, .int .i64 0]
  have hB := b2 w (.cells #[.bool false, .string ⟨#[]⟩, .int .i64 0] 25) (.cells #[.bool false, .string ⟨#[]⟩, .int .i64 0] 25)
  go_wp2_with fail
  generalize (w.alloc (.cells #[.bool false, .string ⟨#[]⟩, .int .i64 0] 25)).alloc (.cells #[.bool false, .string ⟨#[]⟩, .int .i64 0] 25) = w0 at *
  go_loopw [4] (fun i wr => ∃ k : Nat, k ≤ n ∧ i = .int .i64 (k : Nat) ∧ Bx wr w.heap.size 25 #[.bool false, .string ⟨#[]⟩, .int .i64 0] ∧ Bx wr (w.heap.size + 1) 25 #[.bool (neg (dm (firstD maxB xs k))), .string (mag (dm (firstD maxB xs k))), .int .i64 (de (firstD maxB xs k))] ∧ Below w.heap.size w wr) (fun i _ => n - (intOf i).toNat)
  case atStart => exact ⟨0, Nat.zero_le _, rfl, X1, X2, hB⟩
  case round =>
    obtain ⟨k, hk, rfl, Y1, Y2, hB2⟩ := hrel
    by_cases hlt : k < n
    · obtain ⟨b, off, rfl, hc⟩ := hr (by omega)
      obtain ⟨c1, c2, c3⟩ := hc k hlt
      have g1 := cell_later hB2 c1
      have g2 := cell_later hB2 c2
      have g3 := cell_later hB2 c3
      clear hc hr c1 c2 c3 X1 X2 hB
      have HE := Lib.hid (show w.heap.size ≠ w.heap.size + 1 by omega)
      have cF := rdForm_nd (HN.out k)
      obtain ⟨q1, q2, q5, q3, q4, q6⟩ := Y2.three
      by_cases h0 : k = 0
      · subst h0
        simp only [Nat.zero_mul, Nat.add_zero] at g1 g2 g3
        have e0 : ((0 : Nat) : Int) = 0 := rfl
        rw [e0]
        clear e0
        have HK := Lib.hid (And.intro Y1 (And.intro Y2 hB2))
        clear Y1 Y2
        go_wp2_with fail
        go_quiet (fail)
        go_wp2_with fail
        refine (cF.out _).mono ?_
        rintro e w5 ⟨rfl, hb⟩
        obtain ⟨Y1, Y2, hB2⟩ := HK.out
        have hb' := undrewN hb
        replace Y1 := Y1.later hb'
        replace Y2 := Y2.later hb'
        replace hB2 := nxt hB2 hb'
        clear hb hb' HK q1 q2 q5 q3 q4 q6 g1 g2 g3
        obtain ⟨q1, q2, q5, q3, q4, q6⟩ := Y2.three
        have HK := Lib.hid (And.intro Y1 (And.intro Y2 hB2))
        clear Y1 Y2 hB2
        go_wp2
        obtain ⟨Y1, Y2, hB2⟩ := HK.out
        exact ⟨⟨1, hlt, rfl, Bx.far3 Y1 HE.out _ _ _, Y2.set3 _ _ _, st3 hB2 (Nat.le_add_right _ 1) _ _ _⟩, by simp [intOf]; omega⟩
      · have hT1 : firstD maxB xs (k + 1) = if maxB (xs k) (firstD maxB xs k) then xs k else firstD maxB xs k := by
          show (if k = 0 then _ else _) = _
          rw [if_neg h0]
        have hT2 : maxB (xs k) (firstD maxB xs k) = decide (0 < (dsgn (xs k - firstD maxB xs k))) := rfl
        rw [hT2] at hT1
        clear hT2
        have cC := Lib.hid (fun W => rdCmp_any W (HN.out k) (nd_db (db_first (lt := maxB) HD.out k) (by omega)) (HD.out k) (db_first (lt := maxB) HD.out k) hLT)
        generalize dsgn (xs k - firstD maxB xs k) = z at *
        have HT1 := Lib.hid hT1
        clear hT1
        obtain ⟨I, hI⟩ : ∃ I : Int, I = (k : Int) := ⟨_, rfl⟩
        rw [← hI]
        have HI := Lib.hid hI
        have i1 : I < (n : Int) := by omega
        have i3 : 0 ≤ I := by omega
        have i4 : I.toNat = k := by omega
        have i8 : ¬ I = 0 := by omega
        have i7 : (I == 0) = false := by simpa using i8
        have i9 : I ≤ 1000000 := by omega
        have HK := Lib.hid (And.intro Y1 (And.intro Y2 hB2))
        clear hI Y1 Y2 h0
        go_wp2_with fail
        go_region_held3 (fun w' => w'.cell? ⟨b, off + k * 3, none⟩ = some (.bool (bs k)) ∧ w'.cell? ⟨b, off + k * 3 + 1, none⟩ = some (.string (ss k)) ∧ w'.cell? ⟨b, off + k * 3 + 2, none⟩ = some (.int .i64 (es k)) ∧ w'.cell? ⟨w.heap.size + 1, 0, none⟩ = some (.bool (neg (dm (firstD maxB xs k)))) ∧ w'.cell? ⟨w.heap.size + 1, 1, none⟩ = some (.string (mag (dm (firstD maxB xs k)))) ∧ w'.cell? ⟨w.heap.size + 1, 2, none⟩ = some (.int .i64 (de (firstD maxB xs k)))) (first | exact ⟨g1, g2, g3, q1, q2, q5⟩ | exact ⟨cell_later ha g1, cell_later ha g2, cell_later ha g3, cell_later ha q1, cell_later ha q2, cell_later ha q5⟩)
          (first
            | (go_at_call 99; refine (cC.out wr.drew).mono ?_; rintro e wa ⟨rfl, ha'⟩; have ha := undrew ha'; clear ha'))
        obtain ⟨Y1, Y2, hB2⟩ := HK.out
        replace Y1 := Y1.later ha
        replace Y2 := Y2.later ha
        replace hB2 := nxt hB2 ha
        replace g1 := cell_later ha g1
        replace g2 := cell_later ha g2
        replace g3 := cell_later ha g3
        clear ha HK q1 q2 q5 q3 q4 q6
        have HK := Lib.hid (And.intro Y1 (And.intro Y2 hB2))
        clear Y1 Y2 hB2
        by_cases hz : 0 < z
        · rw [decide_eq_true hz] at HT1
          go_wp2_with fail
          refine (cF.out _).mono ?_
          rintro e w5 ⟨rfl, hb⟩
          obtain ⟨Y1, Y2, hB2⟩ := HK.out
          replace Y1 := Y1.later hb
          replace Y2 := Y2.later hb
          replace hB2 := nxt hB2 hb
          clear hb HK g1 g2 g3
          obtain ⟨q1, q2, q5, q3, q4, q6⟩ := Y2.three
          have HK := Lib.hid (And.intro Y1 (And.intro Y2 hB2))
          clear Y1 Y2 hB2
          go_wp2
          obtain ⟨Y1, Y2, hB2⟩ := HK.out
          exact ⟨⟨k + 1, hlt, by rw [HI.out]; go_num, Bx.far3 Y1 HE.out _ _ _, by rw [HT1.out]; exact Y2.set3 _ _ _, st3 hB2 (Nat.le_add_right _ 1) _ _ _⟩, by simp [intOf]; omega⟩
        · rw [decide_eq_false hz] at HT1
          go_wp2
          obtain ⟨Y1, Y2, hB2⟩ := HK.out
          exact ⟨⟨k + 1, hlt, by rw [HI.out]; go_num, Y1, by rw [HT1.out]; exact Y2, hB2⟩, by simp [intOf]; omega⟩
    · obtain rfl : k = n := by omega
      obtain ⟨p1, p2, p5, p3, p4, p6⟩ := Y1.three
      obtain ⟨q1, q2, q5, _, _, _⟩ := Y2.three
      have HY := Lib.hid Y1
      clear Y1 Y2 X1 X2 hB
      go_wp2_with fail
      exact bodyPost_ret (v := .agg #[.bool (neg (dm (firstD maxB xs k))), .string (mag (dm (firstD maxB xs k))), .int .i64 (de (firstD maxB xs k))]) (by simp [results, Tryz.results97, go_sem, (HY.out.set3 _ _ _).cel]) rfl ⟨rfl, st3 hB2 (Nat.le_refl _) _ _ _⟩

end Go.Proofs.YtchfglbkiebfpaaGreatDoor

namespace Go.Proofs.YtchfglbkiebfpaaGreatDoor
open Go.RowKit

theorem Bx.six {w : World} {g : Nat} {t : TypeId} {x0 x1 x2 x3 x4 x5 : Value} (h : Bx w g t #[x0, x1, x2, x3, x4, x5]) : w.cell? ⟨g, 0, none⟩ = some x0 ∧ w.cell? ⟨g, 1, none⟩ = some x1 ∧ w.cell? ⟨g, 2, none⟩ = some x2 ∧ w.cell? ⟨g, 3, none⟩ = some x3 ∧ w.cell? ⟨g, 4, none⟩ = some x4 ∧ w.cell? ⟨g, 5, none⟩ = some x5 ∧
    w.frozen? ⟨g, 0, none⟩ = false ∧ w.frozen? ⟨g, 1, none⟩ = false ∧ w.frozen? ⟨g, 2, none⟩ = false ∧ w.frozen? ⟨g, 3, none⟩ = false ∧ w.frozen? ⟨g, 4, none⟩ = false ∧ w.frozen? ⟨g, 5, none⟩ = false :=
  ⟨h.cel 0, h.cel 1, h.cel 2, h.cel 3, h.cel 4, h.cel 5, h.free 0, h.free 1, h.free 2, h.free 3, h.free 4, h.free 5⟩
theorem Bx.set6 {w : World} {g : Nat} {t : TypeId} {x0 x1 x2 x3 x4 x5 : Value} (h : Bx w g t #[x0, x1, x2, x3, x4, x5]) (a b c d e f : Value) : Bx ((((((w.setCell ⟨g, 0, none⟩ a).setCell ⟨g, 1, none⟩ b).setCell ⟨g, 2, none⟩ c).setCell ⟨g, 3, none⟩ d).setCell ⟨g, 4, none⟩ e).setCell ⟨g, 5, none⟩ f) g t #[a, b, c, d, e, f] := (((((h.set 0 a).set 1 b).set 2 c).set 3 d).set 4 e).set 5 f
theorem st6 {B : Nat} {a w : World} (h : Below B a w) {g : Nat} (hg : B ≤ g) (x0 x1 x2 x3 x4 x5 : Value) : Below B a ((((((w.setCell ⟨g, 0, none⟩ x0).setCell ⟨g, 1, none⟩ x1).setCell ⟨g, 2, none⟩ x2).setCell ⟨g, 3, none⟩ x3).setCell ⟨g, 4, none⟩ x4).setCell ⟨g, 5, none⟩ x5) := (((((h.setCell hg x0).setCell hg x1).setCell hg x2).setCell hg x3).setCell hg x4).setCell hg x5
/-- The lesser, the greater one. -/
def dmin (x y : Dyadic) : Dyadic := if y < x then y else x
def dmax (x y : Dyadic) : Dyadic := if x < y then y else x
theorem min2 (x y : Dyadic) : firstD minB (fun j => if j = 0 then x else y) 2 = dmin x y := by
  show (if minB y x = true then y else x) = _
  unfold dmin minB
  by_cases h : y < x
  · rw [if_pos h, if_pos (decide_eq_true (dsgn_lt.2 (by grind)))]
  · rw [if_neg h, if_neg (by rw [decide_eq_true_eq, dsgn_lt]; grind)]
theorem max2 (x y : Dyadic) : firstD maxB (fun j => if j = 0 then x else y) 2 = dmax x y := by
  show (if maxB y x = true then y else x) = _
  unfold dmax maxB
  by_cases h : x < y
  · rw [if_pos h, if_pos (decide_eq_true (dsgn_gt.2 (by grind)))]
  · rw [if_neg h, if_neg (by rw [decide_eq_true_eq, dsgn_gt]; grind)]

set_option maxRecDepth 100000 in
set_option maxHeartbeats 1000000 in
theorem sOf_x (A : Option Addr) (n c : Nat) (x y : Dyadic) (w : World)
    (cL : Hid (∀ W : World, Below w.heap.size w W → Calls Tryz.prog 91 #[.slice A n c] W fun r w' => r = .returned (.agg #[.bool (neg (dm (x))), .string (mag (dm (x))), .int .i64 (de (x))]) ∧ Below W.heap.size W w'))
    (cH : Hid (∀ W : World, Below w.heap.size w W → Calls Tryz.prog 92 #[.slice A n c] W fun r w' => r = .returned (.agg #[.bool (neg (dm (y))), .string (mag (dm (y))), .int .i64 (de (y))]) ∧ Below W.heap.size W w'))
    :
    Calls Tryz.prog 46 #[.slice A n c] w fun r w' => r = .returned (.agg #[.bool (neg (dm (x))), .string (mag (dm (x))), .int .i64 (de (x)), .bool (neg (dm (y))), .string (mag (dm (y))), .int .i64 (de (y))]) ∧ Below w.heap.size w w' := by
  go_enter Tryz.func46, Tryz.ntmps46
  go_upto_region 1 with (fail)
  have X1 := Bx.new w 27 #[.bool false, .string ⟨#[]⟩, .int .i64 0, .bool false, .string ⟨#[]⟩, .int .i64 0]
  have hB := b1 w (.cells #[.bool false, .string ⟨#[]⟩, .int .i64 0, .bool false, .string ⟨#[]⟩, .int .i64 0] 27)
  generalize w.alloc (.cells #[.bool false, .string ⟨#[]⟩, .int .i64 0, .bool false, .string ⟨#[]⟩, .int .i64 0] 27) = w0 at *
  have hl0 := X1.lt
  obtain ⟨p1, p2, p3, p4, p5, p6, p7, p8, p9, p10, p11, p12⟩ := X1.six
  go_wp2_with fail
  refine (cL.out _ hB).mono ?_
  rintro e w1 ⟨rfl, hb⟩
  replace X1 := X1.later hb
  replace hB := nxt hB hb
  clear hb
  clear p1 p2 p3 p4 p5 p6 p7 p8 p9 p10 p11 p12
  obtain ⟨p1, p2, p3, p4, p5, p6, p7, p8, p9, p10, p11, p12⟩ := X1.six
  go_wp2_with fail
  refine (cH.out _ hB).mono ?_
  rintro e w2 ⟨rfl, hb⟩
  replace X1 := X1.later hb
  replace hB := nxt hB hb
  clear hb
  clear p1 p2 p3 p4 p5 p6 p7 p8 p9 p10 p11 p12
  obtain ⟨p1, p2, p3, p4, p5, p6, p7, p8, p9, p10, p11, p12⟩ := X1.six
  go_wp2_with fail
  exact bodyPost_ret (v := .agg #[.bool (neg (dm (x))), .string (mag (dm (x))), .int .i64 (de (x)), .bool (neg (dm (y))), .string (mag (dm (y))), .int .i64 (de (y))]) (by simp [results, Tryz.results46, go_sem, (X1.set6 _ _ _ _ _ _).cel]) rfl ⟨rfl, st6 hB (Nat.le_refl _) _ _ _ _ _ _⟩
theorem sOf_any (A : Option Addr) (n c : Nat) (bs : Nat → Bool) (ss : Nat → ByteArray) (es : Nat → Int) (xs : Nat → Dyadic) (w : World) (hn : n ≤ 1000000) (hnd : ∀ j, ND (bs j) (ss j) (es j) (xs j)) (hr : RdN w A n bs ss es) (hT : TabAt 0 Lib.deBruijn64tab w) :
    Calls Tryz.prog 46 #[.slice A n c] w fun r w' => r = .returned (.agg #[.bool (neg (dm (firstD minB xs n))), .string (mag (dm (firstD minB xs n))), .int .i64 (de (firstD minB xs n)), .bool (neg (dm (firstD maxB xs n))), .string (mag (dm (firstD maxB xs n))), .int .i64 (de (firstD maxB xs n))]) ∧ Below w.heap.size w w' := by
  exact sOf_x A n c _ _ w (Lib.hid fun W hB => dMin_any A n c bs ss es xs W hn hnd (hr.below hB) (tab_keep hT hB)) (Lib.hid fun W hB => dMax_any A n c bs ss es xs W hn hnd (hr.below hB) (tab_keep hT hB))
theorem sOf2 {b c : Bool} {s t : ByteArray} {e f : Int} {x y : Dyadic} {g : Nat} {w : World} (n1 : ND b s e x) (n2 : ND c t f y) (hT : TabAt 0 Lib.deBruijn64tab w) (h : Bx w g 25 #[.bool b, .string s, .int .i64 e, .bool c, .string t, .int .i64 f]) :
    Calls Tryz.prog 46 #[.slice (some ⟨g, 0, none⟩) 2 2] w fun r w' => r = .returned (.agg #[.bool (neg (dm (dmin x y))), .string (mag (dm (dmin x y))), .int .i64 (de (dmin x y)), .bool (neg (dm (dmax x y))), .string (mag (dm (dmax x y))), .int .i64 (de (dmax x y))]) ∧ Below w.heap.size w w' := by
  have h := sOf_any _ 2 2 _ _ _ (fun j => if j = 0 then x else y) w (by decide) (fun j => by by_cases h0 : j = 0 <;> simp only [h0, if_true, if_false] <;> assumption) (rdN2B h) hT
  rwa [min2, max2] at h

set_option maxRecDepth 100000 in
set_option maxHeartbeats 1000000 in
theorem sof_x (s t : ByteArray) (b c : Bool) (e f : Int) (x y : Dyadic) (w : World) (hT : TabAt 0 Lib.deBruijn64tab w)
    (cO : Hid (∀ (g : Nat) (W : World), TabAt 0 Lib.deBruijn64tab W → Bx W g 25 #[.bool b, .string s, .int .i64 e, .bool c, .string t, .int .i64 f] → Calls Tryz.prog 46 #[.slice (some ⟨g, 0, none⟩) 2 2] W fun r w' => r = .returned (.agg #[.bool (neg (dm (x))), .string (mag (dm (x))), .int .i64 (de (x)), .bool (neg (dm (y))), .string (mag (dm (y))), .int .i64 (de (y))]) ∧ Below W.heap.size W w'))
    :
    Calls Tryz.prog 72 #[.agg #[.bool b, .string s, .int .i64 e, .bool c, .string t, .int .i64 f]] w fun r w' => r = .returned (.agg #[.bool (neg (dm (x))), .string (mag (dm (x))), .int .i64 (de (x)), .bool (neg (dm (y))), .string (mag (dm (y))), .int .i64 (de (y))]) ∧ Below w.heap.size w w' := by
  have HT := Lib.hid hT
  clear hT
  go_enter Tryz.func72, Tryz.ntmps72
  go_upto_region 1 with (fail)
  have X1 := (Bx.new w 27 #[.bool b, .string s, .int .i64 e, .bool c, .string t, .int .i64 f]).alloc (.cells #[.bool false, .string ⟨#[]⟩, .int .i64 0, .bool false, .string ⟨#[]⟩, .int .i64 0] 88)
  have X2 := Bx.at1 w (.cells #[.bool b, .string s, .int .i64 e, .bool c, .string t, .int .i64 f] 27) 88 #[.bool false, .string ⟨#[]⟩, .int .i64 0, .bool false, .string ⟨#[]⟩, .int .i64 0]
  have hB := b2 w (.cells #[.bool b, .string s, .int .i64 e, .bool c, .string t, .int .i64 f] 27) (.cells #[.bool false, .string ⟨#[]⟩, .int .i64 0, .bool false, .string ⟨#[]⟩, .int .i64 0] 88)
  generalize (w.alloc (.cells #[.bool b, .string s, .int .i64 e, .bool c, .string t, .int .i64 f] 27)).alloc (.cells #[.bool false, .string ⟨#[]⟩, .int .i64 0, .bool false, .string ⟨#[]⟩, .int .i64 0] 88) = w0 at *
  have hl0 := X1.lt
  have hl1 := X2.lt
  obtain ⟨p1, p2, p3, p4, p5, p6, p7, p8, p9, p10, p11, p12⟩ := X1.six
  obtain ⟨q1, q2, q3, q4, q5, q6, q7, q8, q9, q10, q11, q12⟩ := X2.six
  go_wp2_with fail
  refine (cO.out _ _ (tab_keep HT.out (nxtA hB (.cells #[.bool b, .string s, .int .i64 e, .bool c, .string t, .int .i64 f] 25))) (Bx.new _ _ _)).mono ?_
  rintro e w1 ⟨rfl, hb⟩
  replace X1 := (X1.alloc (.cells #[.bool b, .string s, .int .i64 e, .bool c, .string t, .int .i64 f] 25)).later hb
  replace X2 := (X2.alloc (.cells #[.bool b, .string s, .int .i64 e, .bool c, .string t, .int .i64 f] 25)).later hb
  replace hB := nxt (nxtA hB (.cells #[.bool b, .string s, .int .i64 e, .bool c, .string t, .int .i64 f] 25)) hb
  clear hb
  clear p1 p2 p3 p4 p5 p6 p7 p8 p9 p10 p11 p12 q1 q2 q3 q4 q5 q6 q7 q8 q9 q10 q11 q12
  obtain ⟨p1, p2, p3, p4, p5, p6, p7, p8, p9, p10, p11, p12⟩ := X1.six
  obtain ⟨q1, q2, q3, q4, q5, q6, q7, q8, q9, q10, q11, q12⟩ := X2.six
  go_wp2_with fail
  exact bodyPost_ret (v := .agg #[.bool (neg (dm (x))), .string (mag (dm (x))), .int .i64 (de (x)), .bool (neg (dm (y))), .string (mag (dm (y))), .int .i64 (de (y))]) (by simp [results, Tryz.results72, go_sem, (X2.set6 _ _ _ _ _ _).cel]) rfl ⟨rfl, st6 hB (Nat.le_add_right _ 1) _ _ _ _ _ _⟩
theorem sof_any {b c : Bool} {s t : ByteArray} {e f : Int} {x y : Dyadic} (w : World) (n1 : ND b s e x) (n2 : ND c t f y) (hT : TabAt 0 Lib.deBruijn64tab w) :
    Calls Tryz.prog 72 #[.agg #[.bool b, .string s, .int .i64 e, .bool c, .string t, .int .i64 f]] w fun r w' => r = .returned (.agg #[.bool (neg (dm (dmin x y))), .string (mag (dm (dmin x y))), .int .i64 (de (dmin x y)), .bool (neg (dm (dmax x y))), .string (mag (dm (dmax x y))), .int .i64 (de (dmax x y))]) ∧ Below w.heap.size w w' := by
  exact sof_x s t b c e f _ _ w hT (Lib.hid fun _ W h hx => sOf2 n1 n2 h hx)

theorem run_field_ends (x0 x1 x2 x3 x4 x5 : Value) (W : World) : (Instr.field 88 (.agg #[x0, x1, x2, x3, x4, x5]) 0).run Tryz.prog W = .ok (.agg #[x0, x1, x2, x3, x4, x5]) W := by
  first | kernel_rfl | (simp [Instr.field, go_sem]; done)

set_option maxRecDepth 100000 in
set_option maxHeartbeats 1000000 in
theorem sForm_x (s t : ByteArray) (b c : Bool) (e f : Int) (x y : Dyadic) (w : World) (hT : TabAt 0 Lib.deBruijn64tab w)
    (cO : Hid (∀ W : World, TabAt 0 Lib.deBruijn64tab W → Calls Tryz.prog 72 #[.agg #[.bool b, .string s, .int .i64 e, .bool c, .string t, .int .i64 f]] W fun r w' => r = .returned (.agg #[.bool (neg (dm (x))), .string (mag (dm (x))), .int .i64 (de (x)), .bool (neg (dm (y))), .string (mag (dm (y))), .int .i64 (de (y))]) ∧ Below W.heap.size W w'))
    :
    Calls Tryz.prog 40 #[.agg #[.bool b, .string s, .int .i64 e, .bool c, .string t, .int .i64 f]] w fun r w' => r = .returned (.agg #[.bool (neg (dm (x))), .string (mag (dm (x))), .int .i64 (de (x)), .bool (neg (dm (y))), .string (mag (dm (y))), .int .i64 (de (y))]) ∧ Below w.heap.size w w' := by
  have HT := Lib.hid hT
  clear hT
  go_enter Tryz.func40, Tryz.ntmps40
  go_upto_region 1 with (fail)
  have X1 := (Bx.new w 27 #[.bool b, .string s, .int .i64 e, .bool c, .string t, .int .i64 f]).alloc (.cells #[.bool false, .string ⟨#[]⟩, .int .i64 0, .bool false, .string ⟨#[]⟩, .int .i64 0] 27)
  have X2 := Bx.at1 w (.cells #[.bool b, .string s, .int .i64 e, .bool c, .string t, .int .i64 f] 27) 27 #[.bool false, .string ⟨#[]⟩, .int .i64 0, .bool false, .string ⟨#[]⟩, .int .i64 0]
  have hB := b2 w (.cells #[.bool b, .string s, .int .i64 e, .bool c, .string t, .int .i64 f] 27) (.cells #[.bool false, .string ⟨#[]⟩, .int .i64 0, .bool false, .string ⟨#[]⟩, .int .i64 0] 27)
  generalize (w.alloc (.cells #[.bool b, .string s, .int .i64 e, .bool c, .string t, .int .i64 f] 27)).alloc (.cells #[.bool false, .string ⟨#[]⟩, .int .i64 0, .bool false, .string ⟨#[]⟩, .int .i64 0] 27) = w0 at *
  have hl0 := X1.lt
  have hl1 := X2.lt
  obtain ⟨p1, p2, p3, p4, p5, p6, p7, p8, p9, p10, p11, p12⟩ := X1.six
  obtain ⟨q1, q2, q3, q4, q5, q6, q7, q8, q9, q10, q11, q12⟩ := X2.six
  go_wp2_with fail
  refine (cO.out _ (tab_keep HT.out hB)).mono ?_
  rintro e w1 ⟨rfl, hb⟩
  replace X1 := X1.later hb
  replace X2 := X2.later hb
  replace hB := nxt hB hb
  clear hb
  clear p1 p2 p3 p4 p5 p6 p7 p8 p9 p10 p11 p12 q1 q2 q3 q4 q5 q6 q7 q8 q9 q10 q11 q12
  obtain ⟨p1, p2, p3, p4, p5, p6, p7, p8, p9, p10, p11, p12⟩ := X1.six
  obtain ⟨q1, q2, q3, q4, q5, q6, q7, q8, q9, q10, q11, q12⟩ := X2.six
  have hfd := run_field_ends (.bool (neg (dm (x)))) (.string (mag (dm (x)))) (.int .i64 (de (x))) (.bool (neg (dm (y)))) (.string (mag (dm (y)))) (.int .i64 (de (y)))
  go_wp2_with fail
  exact bodyPost_ret (v := .agg #[.bool (neg (dm (x))), .string (mag (dm (x))), .int .i64 (de (x)), .bool (neg (dm (y))), .string (mag (dm (y))), .int .i64 (de (y))]) (by simp [results, Tryz.results40, go_sem, (X2.set6 _ _ _ _ _ _).cel]) rfl ⟨rfl, st6 hB (Nat.le_add_right _ 1) _ _ _ _ _ _⟩
theorem sForm_any {b c : Bool} {s t : ByteArray} {e f : Int} {x y : Dyadic} (w : World) (n1 : ND b s e x) (n2 : ND c t f y) (hT : TabAt 0 Lib.deBruijn64tab w) :
    Calls Tryz.prog 40 #[.agg #[.bool b, .string s, .int .i64 e, .bool c, .string t, .int .i64 f]] w fun r w' => r = .returned (.agg #[.bool (neg (dm (dmin x y))), .string (mag (dm (dmin x y))), .int .i64 (de (dmin x y)), .bool (neg (dm (dmax x y))), .string (mag (dm (dmax x y))), .int .i64 (de (dmax x y))]) ∧ Below w.heap.size w w' := by
  exact sForm_x s t b c e f _ _ w hT (Lib.hid fun W h => sof_any W n1 n2 h)

end Go.Proofs.YtchfglbkiebfpaaGreatDoor

namespace Go.Proofs.YtchfglbkiebfpaaGreatDoor
open Go.RowKit

/-- Is it between them, whichever is the lesser one? -/
def hasB (x y a : Dyadic) : Bool := decide (dsgn (dmin x y - a) ≤ 0) && decide (dsgn (a - dmax x y) ≤ 0)
theorem db_dmin {L T0 : Nat} {x y : Dyadic} (h1 : DB L T0 x) (h2 : DB L T0 y) : DB L T0 (dmin x y) := by unfold dmin; split <;> assumption
theorem db_dmax {L T0 : Nat} {x y : Dyadic} (h1 : DB L T0 x) (h2 : DB L T0 y) : DB L T0 (dmax x y) := by unfold dmax; split <;> assumption

set_option maxRecDepth 100000 in
set_option maxHeartbeats 1000000 in
theorem sHas_no (s t : ByteArray) (b c : Bool) (e f : Int) (u : ByteArray) (d : Bool) (h p : Int) (x y : Dyadic) (w : World) (hp : ¬ p ≤ 0) (hT : TabAt 0 Lib.deBruijn64tab w)
    (cO : Hid (∀ W : World, TabAt 0 Lib.deBruijn64tab W → Calls Tryz.prog 72 #[.agg #[.bool b, .string s, .int .i64 e, .bool c, .string t, .int .i64 f]] W fun r w' => r = .returned (.agg #[.bool (neg (dm (x))), .string (mag (dm (x))), .int .i64 (de (x)), .bool (neg (dm (y))), .string (mag (dm (y))), .int .i64 (de (y))]) ∧ Below W.heap.size W w'))
    (c1 : Hid (∀ W : World, TabAt 0 Lib.deBruijn64tab W → Calls Tryz.prog 51 #[.agg #[.bool (neg (dm (x))), .string (mag (dm (x))), .int .i64 (de (x))], .agg #[.bool d, .string u, .int .i64 h]] W fun r w' => r = .returned (.int .i64 p) ∧ Below W.heap.size W w'))
    :
    Calls Tryz.prog 37 #[.agg #[.bool b, .string s, .int .i64 e, .bool c, .string t, .int .i64 f], .agg #[.bool d, .string u, .int .i64 h]] w fun r w' => r = .returned (.bool false) ∧ Below w.heap.size w w' := by
  have HT := Lib.hid hT
  clear hT
  go_enter Tryz.func37, Tryz.ntmps37
  go_upto_region 1 with (fail)
  have X1 := (Bx.new w 27 #[.bool b, .string s, .int .i64 e, .bool c, .string t, .int .i64 f]).alloc (.cells #[.bool d, .string u, .int .i64 h] 25)
  have X2 := Bx.at1 w (.cells #[.bool b, .string s, .int .i64 e, .bool c, .string t, .int .i64 f] 27) 25 #[.bool d, .string u, .int .i64 h]
  have hB := b2 w (.cells #[.bool b, .string s, .int .i64 e, .bool c, .string t, .int .i64 f] 27) (.cells #[.bool d, .string u, .int .i64 h] 25)
  generalize (w.alloc (.cells #[.bool b, .string s, .int .i64 e, .bool c, .string t, .int .i64 f] 27)).alloc (.cells #[.bool d, .string u, .int .i64 h] 25) = w0 at *
  have hl0 := X1.lt
  have hl1 := X2.lt
  obtain ⟨p1, p2, p3, p4, p5, p6, p7, p8, p9, p10, p11, p12⟩ := X1.six
  obtain ⟨q1, q2, q5, q3, q4, q6⟩ := X2.three
  go_wp2_with fail
  refine (cO.out _ (tab_keep HT.out hB)).mono ?_
  rintro e w1 ⟨rfl, hb⟩
  replace X1 := X1.later hb
  replace X2 := X2.later hb
  replace hB := nxt hB hb
  clear hb
  clear p1 p2 p3 p4 p5 p6 p7 p8 p9 p10 p11 p12 q1 q2 q3 q4 q5 q6
  obtain ⟨p1, p2, p3, p4, p5, p6, p7, p8, p9, p10, p11, p12⟩ := X1.six
  obtain ⟨q1, q2, q5, q3, q4, q6⟩ := X2.three
  have X3 := Bx.new w1 88 #[.bool (neg (dm (x))), .string (mag (dm (x))), .int .i64 (de (x)), .bool (neg (dm (y))), .string (mag (dm (y))), .int .i64 (de (y))]
  replace X1 := X1.alloc (.cells #[.bool (neg (dm (x))), .string (mag (dm (x))), .int .i64 (de (x)), .bool (neg (dm (y))), .string (mag (dm (y))), .int .i64 (de (y))] 88)
  replace X2 := X2.alloc (.cells #[.bool (neg (dm (x))), .string (mag (dm (x))), .int .i64 (de (x)), .bool (neg (dm (y))), .string (mag (dm (y))), .int .i64 (de (y))] 88)
  replace hB := nxtA hB (.cells #[.bool (neg (dm (x))), .string (mag (dm (x))), .int .i64 (de (x)), .bool (neg (dm (y))), .string (mag (dm (y))), .int .i64 (de (y))] 88)
  clear p1 p2 p3 p4 p5 p6 p7 p8 p9 p10 p11 p12 q1 q2 q3 q4 q5 q6
  obtain ⟨p1, p2, p3, p4, p5, p6, p7, p8, p9, p10, p11, p12⟩ := X1.six
  obtain ⟨q1, q2, q5, q3, q4, q6⟩ := X2.three
  obtain ⟨r1, r2, r3, r4, r5, r6, r7, r8, r9, r10, r11, r12⟩ := X3.six
  go_wp2_with fail
  refine (c1.out _ (tab_keep HT.out hB)).mono ?_
  rintro e w2 ⟨rfl, hb⟩
  replace X1 := X1.later hb
  replace X2 := X2.later hb
  replace X3 := X3.later hb
  replace hB := nxt hB hb
  clear hb
  clear p1 p2 p3 p4 p5 p6 p7 p8 p9 p10 p11 p12 q1 q2 q3 q4 q5 q6 r1 r2 r3 r4 r5 r6 r7 r8 r9 r10 r11 r12
  obtain ⟨p1, p2, p3, p4, p5, p6, p7, p8, p9, p10, p11, p12⟩ := X1.six
  obtain ⟨q1, q2, q5, q3, q4, q6⟩ := X2.three
  obtain ⟨r1, r2, r3, r4, r5, r6, r7, r8, r9, r10, r11, r12⟩ := X3.six
  go_wp2
  go_ret
  exact ⟨rfl, hB⟩
set_option maxRecDepth 100000 in
set_option maxHeartbeats 1000000 in
theorem sHas_yes (s t : ByteArray) (b c : Bool) (e f : Int) (u : ByteArray) (d : Bool) (h p q : Int) (x y : Dyadic) (w : World) (hp : p ≤ 0) (hT : TabAt 0 Lib.deBruijn64tab w)
    (cO : Hid (∀ W : World, TabAt 0 Lib.deBruijn64tab W → Calls Tryz.prog 72 #[.agg #[.bool b, .string s, .int .i64 e, .bool c, .string t, .int .i64 f]] W fun r w' => r = .returned (.agg #[.bool (neg (dm (x))), .string (mag (dm (x))), .int .i64 (de (x)), .bool (neg (dm (y))), .string (mag (dm (y))), .int .i64 (de (y))]) ∧ Below W.heap.size W w'))
    (c1 : Hid (∀ W : World, TabAt 0 Lib.deBruijn64tab W → Calls Tryz.prog 51 #[.agg #[.bool (neg (dm (x))), .string (mag (dm (x))), .int .i64 (de (x))], .agg #[.bool d, .string u, .int .i64 h]] W fun r w' => r = .returned (.int .i64 p) ∧ Below W.heap.size W w'))
    (c2 : Hid (∀ W : World, TabAt 0 Lib.deBruijn64tab W → Calls Tryz.prog 51 #[.agg #[.bool d, .string u, .int .i64 h], .agg #[.bool (neg (dm (y))), .string (mag (dm (y))), .int .i64 (de (y))]] W fun r w' => r = .returned (.int .i64 q) ∧ Below W.heap.size W w'))
    :
    Calls Tryz.prog 37 #[.agg #[.bool b, .string s, .int .i64 e, .bool c, .string t, .int .i64 f], .agg #[.bool d, .string u, .int .i64 h]] w fun r w' => r = .returned (.bool (decide (q ≤ 0))) ∧ Below w.heap.size w w' := by
  have HT := Lib.hid hT
  clear hT
  go_enter Tryz.func37, Tryz.ntmps37
  go_upto_region 1 with (fail)
  have X1 := (Bx.new w 27 #[.bool b, .string s, .int .i64 e, .bool c, .string t, .int .i64 f]).alloc (.cells #[.bool d, .string u, .int .i64 h] 25)
  have X2 := Bx.at1 w (.cells #[.bool b, .string s, .int .i64 e, .bool c, .string t, .int .i64 f] 27) 25 #[.bool d, .string u, .int .i64 h]
  have hB := b2 w (.cells #[.bool b, .string s, .int .i64 e, .bool c, .string t, .int .i64 f] 27) (.cells #[.bool d, .string u, .int .i64 h] 25)
  generalize (w.alloc (.cells #[.bool b, .string s, .int .i64 e, .bool c, .string t, .int .i64 f] 27)).alloc (.cells #[.bool d, .string u, .int .i64 h] 25) = w0 at *
  have hl0 := X1.lt
  have hl1 := X2.lt
  obtain ⟨p1, p2, p3, p4, p5, p6, p7, p8, p9, p10, p11, p12⟩ := X1.six
  obtain ⟨q1, q2, q5, q3, q4, q6⟩ := X2.three
  go_wp2_with fail
  refine (cO.out _ (tab_keep HT.out hB)).mono ?_
  rintro e w1 ⟨rfl, hb⟩
  replace X1 := X1.later hb
  replace X2 := X2.later hb
  replace hB := nxt hB hb
  clear hb
  clear p1 p2 p3 p4 p5 p6 p7 p8 p9 p10 p11 p12 q1 q2 q3 q4 q5 q6
  obtain ⟨p1, p2, p3, p4, p5, p6, p7, p8, p9, p10, p11, p12⟩ := X1.six
  obtain ⟨q1, q2, q5, q3, q4, q6⟩ := X2.three
  have X3 := Bx.new w1 88 #[.bool (neg (dm (x))), .string (mag (dm (x))), .int .i64 (de (x)), .bool (neg (dm (y))), .string (mag (dm (y))), .int .i64 (de (y))]
  replace X1 := X1.alloc (.cells #[.bool (neg (dm (x))), .string (mag (dm (x))), .int .i64 (de (x)), .bool (neg (dm (y))), .string (mag (dm (y))), .int .i64 (de (y))] 88)
  replace X2 := X2.alloc (.cells #[.bool (neg (dm (x))), .string (mag (dm (x))), .int .i64 (de (x)), .bool (neg (dm (y))), .string (mag (dm (y))), .int .i64 (de (y))] 88)
  replace hB := nxtA hB (.cells #[.bool (neg (dm (x))), .string (mag (dm (x))), .int .i64 (de (x)), .bool (neg (dm (y))), .string (mag (dm (y))), .int .i64 (de (y))] 88)
  clear p1 p2 p3 p4 p5 p6 p7 p8 p9 p10 p11 p12 q1 q2 q3 q4 q5 q6
  obtain ⟨p1, p2, p3, p4, p5, p6, p7, p8, p9, p10, p11, p12⟩ := X1.six
  obtain ⟨q1, q2, q5, q3, q4, q6⟩ := X2.three
  obtain ⟨r1, r2, r3, r4, r5, r6, r7, r8, r9, r10, r11, r12⟩ := X3.six
  go_wp2_with fail
  refine (c1.out _ (tab_keep HT.out hB)).mono ?_
  rintro e w2 ⟨rfl, hb⟩
  replace X1 := X1.later hb
  replace X2 := X2.later hb
  replace X3 := X3.later hb
  replace hB := nxt hB hb
  clear hb
  clear p1 p2 p3 p4 p5 p6 p7 p8 p9 p10 p11 p12 q1 q2 q3 q4 q5 q6 r1 r2 r3 r4 r5 r6 r7 r8 r9 r10 r11 r12
  obtain ⟨p1, p2, p3, p4, p5, p6, p7, p8, p9, p10, p11, p12⟩ := X1.six
  obtain ⟨q1, q2, q5, q3, q4, q6⟩ := X2.three
  obtain ⟨r1, r2, r3, r4, r5, r6, r7, r8, r9, r10, r11, r12⟩ := X3.six
  go_wp2_with fail
  refine (c2.out _ (tab_keep HT.out hB)).mono ?_
  rintro e w3 ⟨rfl, hb⟩
  replace X1 := X1.later hb
  replace X2 := X2.later hb
  replace X3 := X3.later hb
  replace hB := nxt hB hb
  clear hb
  clear p1 p2 p3 p4 p5 p6 p7 p8 p9 p10 p11 p12 q1 q2 q3 q4 q5 q6 r1 r2 r3 r4 r5 r6 r7 r8 r9 r10 r11 r12
  obtain ⟨p1, p2, p3, p4, p5, p6, p7, p8, p9, p10, p11, p12⟩ := X1.six
  obtain ⟨q1, q2, q5, q3, q4, q6⟩ := X2.three
  obtain ⟨r1, r2, r3, r4, r5, r6, r7, r8, r9, r10, r11, r12⟩ := X3.six
  go_wp2
  go_ret
  exact ⟨rfl, hB⟩
theorem sHas_any {b c d : Bool} {s t u : ByteArray} {e f h : Int} {x y a : Dyadic} {L T0 : Nat} (w : World) (n1 : ND b s e x) (n2 : ND c t f y) (n3 : ND d u h a) (d1 : DB L T0 x) (d2 : DB L T0 y) (hLT : L + T0 ≤ 4000000) (hT : TabAt 0 Lib.deBruijn64tab w) :
    Calls Tryz.prog 37 #[.agg #[.bool b, .string s, .int .i64 e, .bool c, .string t, .int .i64 f], .agg #[.bool d, .string u, .int .i64 h]] w fun r w' => r = .returned (.bool (hasB x y a)) ∧ Below w.heap.size w w' := by
  have cO := Lib.hid (fun W h => sof_any W n1 n2 h)
  have c1 := Lib.hid (fun W h => dCmp_any W (nd_db (db_dmin d1 d2) hLT) n3 h)
  have c2 := Lib.hid (fun W h => dCmp_any W n3 (nd_db (db_dmax d1 d2) hLT) h)
  unfold hasB
  by_cases hp : dsgn (dmin x y - a) ≤ 0
  · rw [decide_eq_true hp, Bool.true_and]
    exact sHas_yes s t b c e f u d h _ _ _ _ w hp hT cO c1 c2
  · rw [decide_eq_false hp, Bool.false_and]
    exact sHas_no s t b c e f u d h _ _ _ w hp hT cO c1

end Go.Proofs.YtchfglbkiebfpaaGreatDoor

namespace Go.Proofs.YtchfglbkiebfpaaGreatDoor
open Go.RowKit

set_option maxRecDepth 100000 in
set_option maxHeartbeats 1000000 in
theorem sEachNeg (x y x1 y1 x2 y2 : Dyadic) (w : World) (hT : TabAt 0 Lib.deBruijn64tab w)
    (c1 : Hid (∀ W : World, TabAt 0 Lib.deBruijn64tab W → Calls Tryz.prog 63 #[.agg #[.bool (neg (dm (x))), .string (mag (dm (x))), .int .i64 (de (x))]] W fun r w' => r = .returned (.agg #[.bool (neg (dm (x1))), .string (mag (dm (x1))), .int .i64 (de (x1))]) ∧ Below W.heap.size W w'))
    (c2 : Hid (∀ W : World, TabAt 0 Lib.deBruijn64tab W → Calls Tryz.prog 63 #[.agg #[.bool (neg (dm (y))), .string (mag (dm (y))), .int .i64 (de (y))]] W fun r w' => r = .returned (.agg #[.bool (neg (dm (y1))), .string (mag (dm (y1))), .int .i64 (de (y1))]) ∧ Below W.heap.size W w'))
    (cO : Hid (∀ (g : Nat) (W : World), TabAt 0 Lib.deBruijn64tab W → Bx W g 25 #[.bool (neg (dm (x1))), .string (mag (dm (x1))), .int .i64 (de (x1)), .bool (neg (dm (y1))), .string (mag (dm (y1))), .int .i64 (de (y1))] → Calls Tryz.prog 46 #[.slice (some ⟨g, 0, none⟩) 2 2] W fun r w' => r = .returned (.agg #[.bool (neg (dm (x2))), .string (mag (dm (x2))), .int .i64 (de (x2)), .bool (neg (dm (y2))), .string (mag (dm (y2))), .int .i64 (de (y2))]) ∧ Below W.heap.size W w'))
    :
    Calls Tryz.prog 74 #[.agg #[.bool (neg (dm (x))), .string (mag (dm (x))), .int .i64 (de (x)), .bool (neg (dm (y))), .string (mag (dm (y))), .int .i64 (de (y))], .func (.func 63) #[] #[]] w fun r w' => r = .returned (.agg #[.bool (neg (dm (x2))), .string (mag (dm (x2))), .int .i64 (de (x2)), .bool (neg (dm (y2))), .string (mag (dm (y2))), .int .i64 (de (y2))]) ∧ Below w.heap.size w w' := by
  have HT := Lib.hid hT
  clear hT
  go_enter Tryz.func74, Tryz.ntmps74
  go_upto_region 1 with (fail)
  have X1 := (Bx.new w 88 #[.bool (neg (dm (x))), .string (mag (dm (x))), .int .i64 (de (x)), .bool (neg (dm (y))), .string (mag (dm (y))), .int .i64 (de (y))]).alloc (.cells #[.bool false, .string ⟨#[]⟩, .int .i64 0, .bool false, .string ⟨#[]⟩, .int .i64 0] 27)
  have X2 := Bx.at1 w (.cells #[.bool (neg (dm (x))), .string (mag (dm (x))), .int .i64 (de (x)), .bool (neg (dm (y))), .string (mag (dm (y))), .int .i64 (de (y))] 88) 27 #[.bool false, .string ⟨#[]⟩, .int .i64 0, .bool false, .string ⟨#[]⟩, .int .i64 0]
  have hB := b2 w (.cells #[.bool (neg (dm (x))), .string (mag (dm (x))), .int .i64 (de (x)), .bool (neg (dm (y))), .string (mag (dm (y))), .int .i64 (de (y))] 88) (.cells #[.bool false, .string ⟨#[]⟩, .int .i64 0, .bool false, .string ⟨#[]⟩, .int .i64 0] 27)
  generalize (w.alloc (.cells #[.bool (neg (dm (x))), .string (mag (dm (x))), .int .i64 (de (x)), .bool (neg (dm (y))), .string (mag (dm (y))), .int .i64 (de (y))] 88)).alloc (.cells #[.bool false, .string ⟨#[]⟩, .int .i64 0, .bool false, .string ⟨#[]⟩, .int .i64 0] 27) = w0 at *
  have hl0 := X1.lt
  have hl1 := X2.lt
  refine wp_region_k [5, 6, 7, 8, 9, 10, 11, 12, 13, 14, 15, 16] [.eq (.func (.func 63) #[] #[]), .eq (.pointer (some ⟨w.heap.size, 0, none⟩)), .eq (.pointer (some ⟨w.heap.size, 0, none⟩)), .eq (.agg #[.bool (neg (dm (x))), .string (mag (dm (x))), .int .i64 (de (x))]), .eq (.agg #[.bool (neg (dm (x1))), .string (mag (dm (x1))), .int .i64 (de (x1))]), .eq (.func (.func 63) #[] #[]), .eq (.pointer (some ⟨w.heap.size, 0, none⟩)), .eq (.pointer (some ⟨w.heap.size, 3, none⟩)), .eq (.agg #[.bool (neg (dm (y))), .string (mag (dm (y))), .int .i64 (de (y))]), .eq (.agg #[.bool (neg (dm (y1))), .string (mag (dm (y1))), .int .i64 (de (y1))]), .sli w0.heap.size 25 2 #[.bool (neg (dm (x1))), .string (mag (dm (x1))), .int .i64 (de (x1)), .bool (neg (dm (y1))), .string (mag (dm (y1))), .int .i64 (de (y1))], .eq (.agg #[.bool (neg (dm (x2))), .string (mag (dm (x2))), .int .i64 (de (x2)), .bool (neg (dm (y2))), .string (mag (dm (y2))), .int .i64 (de (y2))])] 17 (by kernel_rfl) (by exact fun _ _ _ _ _ h => h) (by kernel_rfl) (by rfl) ?hop ?htail
  case hop =>
    intro A hA
    have hN : A.tmps.size = 17 := by rw [hA]; rfl
    have q2 : A.tmps.getD 2 undef = .pointer (some ⟨w.heap.size, 0, none⟩) := by rw [hA]; rfl
    have q1 : A.tmps.getD 1 undef = .func (.func 63) #[] #[] := by rw [hA]; rfl
    clear hA
    refine ⟨?_, ?_, ?_, ?_, ?_, ?_, ?_, ?_, ?_, ?_, ?_, ?_, trivial⟩
    · refine kok hN fun u W ev ec ef E B hG hf => ?_
      exact k_val _ rfl rfl hG (by simp [go_sem, B 1 rfl rfl q1]) rfl
    · refine kok hN fun u W ev ec ef E B hG hf => ?_
      exact k_val _ rfl rfl hG (by simp [go_sem, B 2 rfl rfl q2]) rfl
    · refine kok hN fun u W ev ec ef E B hG hf => ?_
      exact k_val _ rfl rfl hG (by simp [go_sem, E 6 1 rfl rfl (hf 1 rfl)]) rfl
    · refine kok hN fun u W ev ec ef E B hG hf => ?_
      exact k_val _ rfl rfl hG (by simp [go_sem, E 7 2 rfl rfl (hf 2 rfl), (X1.later hG).cel]) rfl
    · refine kok hN fun u W ev ec ef E B hG hf => ?_
      exact k_cl rfl rfl (by simp [go_sem, E 5 0 rfl rfl (hf 0 rfl), E 8 3 rfl rfl (hf 3 rfl)]) (c1.out W (tab_keep HT.out (nxt hB hG))) hG (fun _ _ => rfl)
    · refine kok hN fun u W ev ec ef E B hG hf => ?_
      exact k_val _ rfl rfl hG (by simp [go_sem, B 1 rfl rfl q1]) rfl
    · refine kok hN fun u W ev ec ef E B hG hf => ?_
      exact k_val _ rfl rfl hG (by simp [go_sem, B 2 rfl rfl q2]) rfl
    · refine kok hN fun u W ev ec ef E B hG hf => ?_
      exact k_val _ rfl rfl hG (by simp [go_sem, E 11 6 rfl rfl (hf 6 rfl)]) rfl
    · refine kok hN fun u W ev ec ef E B hG hf => ?_
      exact k_val _ rfl rfl hG (by simp [go_sem, E 12 7 rfl rfl (hf 7 rfl), (X1.later hG).cel]) rfl
    · refine kok hN fun u W ev ec ef E B hG hf => ?_
      exact k_cl rfl rfl (by simp [go_sem, E 10 5 rfl rfl (hf 5 rfl), E 13 8 rfl rfl (hf 8 rfl)]) (c2.out W (tab_keep HT.out (nxt hB hG))) hG (fun _ _ => rfl)
    · refine kok hN fun u W ev ec ef E B hG hf => ?_
      exact k_new _ _ rfl (by simp [go_sem, E 9 4 rfl rfl (hf 4 rfl), E 14 9 rfl rfl (hf 9 rfl)]) (nxtA hG _) ⟨_, rfl, below_le hG, Bx.new _ _ _⟩ rfl
    · refine kok hN fun u W ev ec ef E B hG hf => ?_
      obtain ⟨g15, f15, hb15, hx15⟩ := hf 10 rfl
      exact k_cl rfl rfl (by simp [go_sem, ef, E 15 10 rfl rfl f15]) (cO.out _ W (tab_keep HT.out (nxt hB hG)) hx15) hG (fun _ _ => rfl)
  case htail =>
    intro u w' hG hP hD
    have f16 : u 11 = .agg #[.bool (neg (dm (x2))), .string (mag (dm (x2))), .int .i64 (de (x2)), .bool (neg (dm (y2))), .string (mag (dm (y2))), .int .i64 (de (y2))] := hP 11 (by decide)
    simp only [putAll, Act.put, List.setIfInBounds_toArray, List.set_cons_zero, List.set_cons_succ, List.length_cons, List.length_nil, Nat.reduceAdd, List.drop_succ_cons, List.drop_zero, f16]
    have hB := Lib.hid (nxt hB hG)
    replace X2 := X2.later hG
    have HX := Lib.hid X2
    obtain ⟨q1, q2, q3, q4, q5, q6, q7, q8, q9, q10, q11, q12⟩ := X2.six
    clear X1 X2 hP hD hG f16
    go_wp2_with fail
    exact bodyPost_ret (v := .agg #[.bool (neg (dm (x2))), .string (mag (dm (x2))), .int .i64 (de (x2)), .bool (neg (dm (y2))), .string (mag (dm (y2))), .int .i64 (de (y2))]) (by simp [results, Tryz.results74, go_sem, (HX.out.set6 _ _ _ _ _ _).cel]) rfl ⟨rfl, st6 hB.out (Nat.le_add_right _ 1) _ _ _ _ _ _⟩

set_option maxRecDepth 100000 in
set_option maxHeartbeats 1000000 in
theorem sNeg_x (s t : ByteArray) (b c : Bool) (e f : Int) (x y x2 y2 : Dyadic) (w : World) (hT : TabAt 0 Lib.deBruijn64tab w)
    (cO : Hid (∀ W : World, TabAt 0 Lib.deBruijn64tab W → Calls Tryz.prog 72 #[.agg #[.bool b, .string s, .int .i64 e, .bool c, .string t, .int .i64 f]] W fun r w' => r = .returned (.agg #[.bool (neg (dm (x))), .string (mag (dm (x))), .int .i64 (de (x)), .bool (neg (dm (y))), .string (mag (dm (y))), .int .i64 (de (y))]) ∧ Below W.heap.size W w'))
    (cE : Hid (∀ W : World, TabAt 0 Lib.deBruijn64tab W → Calls Tryz.prog 74 #[.agg #[.bool (neg (dm (x))), .string (mag (dm (x))), .int .i64 (de (x)), .bool (neg (dm (y))), .string (mag (dm (y))), .int .i64 (de (y))], .func (.func 63) #[] #[]] W fun r w' => r = .returned (.agg #[.bool (neg (dm (x2))), .string (mag (dm (x2))), .int .i64 (de (x2)), .bool (neg (dm (y2))), .string (mag (dm (y2))), .int .i64 (de (y2))]) ∧ Below W.heap.size W w'))
    :
    Calls Tryz.prog 18 #[.agg #[.bool b, .string s, .int .i64 e, .bool c, .string t, .int .i64 f]] w fun r w' => r = .returned (.agg #[.bool (neg (dm (x2))), .string (mag (dm (x2))), .int .i64 (de (x2)), .bool (neg (dm (y2))), .string (mag (dm (y2))), .int .i64 (de (y2))]) ∧ Below w.heap.size w w' := by
  have HT := Lib.hid hT
  clear hT
  go_enter Tryz.func18, Tryz.ntmps18
  go_upto_region 1 with (fail)
  have X1 := (Bx.new w 27 #[.bool b, .string s, .int .i64 e, .bool c, .string t, .int .i64 f]).alloc (.cells #[.bool false, .string ⟨#[]⟩, .int .i64 0, .bool false, .string ⟨#[]⟩, .int .i64 0] 27)
  have X2 := Bx.at1 w (.cells #[.bool b, .string s, .int .i64 e, .bool c, .string t, .int .i64 f] 27) 27 #[.bool false, .string ⟨#[]⟩, .int .i64 0, .bool false, .string ⟨#[]⟩, .int .i64 0]
  have hB := b2 w (.cells #[.bool b, .string s, .int .i64 e, .bool c, .string t, .int .i64 f] 27) (.cells #[.bool false, .string ⟨#[]⟩, .int .i64 0, .bool false, .string ⟨#[]⟩, .int .i64 0] 27)
  generalize (w.alloc (.cells #[.bool b, .string s, .int .i64 e, .bool c, .string t, .int .i64 f] 27)).alloc (.cells #[.bool false, .string ⟨#[]⟩, .int .i64 0, .bool false, .string ⟨#[]⟩, .int .i64 0] 27) = w0 at *
  have hl0 := X1.lt
  have hl1 := X2.lt
  obtain ⟨p1, p2, p3, p4, p5, p6, p7, p8, p9, p10, p11, p12⟩ := X1.six
  obtain ⟨q1, q2, q3, q4, q5, q6, q7, q8, q9, q10, q11, q12⟩ := X2.six
  go_wp2_with fail
  refine (cO.out _ (tab_keep HT.out hB)).mono ?_
  rintro e w1 ⟨rfl, hb⟩
  replace X1 := X1.later hb
  replace X2 := X2.later hb
  replace hB := nxt hB hb
  clear hb
  clear p1 p2 p3 p4 p5 p6 p7 p8 p9 p10 p11 p12 q1 q2 q3 q4 q5 q6 q7 q8 q9 q10 q11 q12
  obtain ⟨p1, p2, p3, p4, p5, p6, p7, p8, p9, p10, p11, p12⟩ := X1.six
  obtain ⟨q1, q2, q3, q4, q5, q6, q7, q8, q9, q10, q11, q12⟩ := X2.six
  go_wp2_with fail
  refine (cE.out _ (tab_keep HT.out hB)).mono ?_
  rintro e w2 ⟨rfl, hb⟩
  replace X1 := X1.later hb
  replace X2 := X2.later hb
  replace hB := nxt hB hb
  clear hb
  clear p1 p2 p3 p4 p5 p6 p7 p8 p9 p10 p11 p12 q1 q2 q3 q4 q5 q6 q7 q8 q9 q10 q11 q12
  obtain ⟨p1, p2, p3, p4, p5, p6, p7, p8, p9, p10, p11, p12⟩ := X1.six
  obtain ⟨q1, q2, q3, q4, q5, q6, q7, q8, q9, q10, q11, q12⟩ := X2.six
  go_wp2_with fail
  exact bodyPost_ret (v := .agg #[.bool (neg (dm (x2))), .string (mag (dm (x2))), .int .i64 (de (x2)), .bool (neg (dm (y2))), .string (mag (dm (y2))), .int .i64 (de (y2))]) (by simp [results, Tryz.results18, go_sem, (X2.set6 _ _ _ _ _ _).cel]) rfl ⟨rfl, st6 hB (Nat.le_add_right _ 1) _ _ _ _ _ _⟩
theorem dNeg_vn {L T0 : Nat} {x : Dyadic} (d1 : DB L T0 x) (hLT : L + T0 ≤ 4000000) :
    Hid (∀ W : World, TabAt 0 Lib.deBruijn64tab W → Calls Tryz.prog 63 #[.agg #[.bool (neg (dm (x))), .string (mag (dm (x))), .int .i64 (de (x))]] W fun r w' => r = .returned (.agg #[.bool (neg (dm (-x))), .string (mag (dm (-x))), .int .i64 (de (-x))]) ∧ Below W.heap.size W w') := by
  have n := nd_db d1 hLT
  have c := Lib.hid (fun W h => dNeg_any (mag (dm x)) (neg (dm x)) (de x) W (Nat.le_trans n.size (by decide)) (by have := n.lo; omega) (by have := n.hi; omega) h)
  rw [ival_mk, dy_dm] at c
  exact c
theorem dmin_neg (x y : Dyadic) : dmin (-dmin x y) (-dmax x y) = -dmax x y := by unfold dmin dmax; grind
theorem dmax_neg (x y : Dyadic) : dmax (-dmin x y) (-dmax x y) = -dmin x y := by unfold dmin dmax; grind

theorem sNeg_any {b c : Bool} {s t : ByteArray} {e f : Int} {x y : Dyadic} {L T0 : Nat} (w : World) (n1 : ND b s e x) (n2 : ND c t f y) (d1 : DB L T0 x) (d2 : DB L T0 y) (hLT : L + T0 ≤ 3000000) (hT : TabAt 0 Lib.deBruijn64tab w) :
    Calls Tryz.prog 18 #[.agg #[.bool b, .string s, .int .i64 e, .bool c, .string t, .int .i64 f]] w fun r w' => r = .returned (.agg #[.bool (neg (dm (-dmax x y))), .string (mag (dm (-dmax x y))), .int .i64 (de (-dmax x y)), .bool (neg (dm (-dmin x y))), .string (mag (dm (-dmin x y))), .int .i64 (de (-dmin x y))]) ∧ Below w.heap.size w w' := by
  have m1 := db_dmin d1 d2
  have m2 := db_dmax d1 d2
  have cO := Lib.hid (fun g W h hx => sOf2 (g := g) (w := W) (nd_db (db_neg m1) (by omega)) (nd_db (db_neg m2) (by omega)) h hx)
  rw [dmin_neg, dmax_neg] at cO
  exact sNeg_x s t b c e f _ _ _ _ w hT (Lib.hid fun W h => sof_any W n1 n2 h) (Lib.hid fun W h => sEachNeg _ _ _ _ _ _ W h (dNeg_vn m1 (by omega)) (dNeg_vn m2 (by omega)) cO)

set_option maxRecDepth 100000 in
set_option maxHeartbeats 1000000 in
theorem sMul1_x (s t : ByteArray) (b c : Bool) (e f : Int) (z : Dyadic) (w : World) (hT : TabAt 0 Lib.deBruijn64tab w)
    (cO : Hid (∀ (g : Nat) (W : World), TabAt 0 Lib.deBruijn64tab W → Bx W g 25 #[.bool b, .string s, .int .i64 e, .bool c, .string t, .int .i64 f] → Calls Tryz.prog 39 #[.slice (some ⟨g, 0, none⟩) 2 2] W fun r w' => r = .returned (.agg #[.bool (neg (dm (z))), .string (mag (dm (z))), .int .i64 (de (z))]) ∧ Below W.heap.size W w'))
    :
    Calls Tryz.prog 77 #[.agg #[.bool b, .string s, .int .i64 e], .agg #[.bool c, .string t, .int .i64 f]] w fun r w' => r = .returned (.agg #[.bool (neg (dm (z))), .string (mag (dm (z))), .int .i64 (de (z))]) ∧ Below w.heap.size w w' := by
  have HT := Lib.hid hT
  clear hT
  go_enter Tryz.func77, Tryz.ntmps77
  go_upto_region 1 with (fail)
  have X1 := ((Bx.new w 25 #[.bool b, .string s, .int .i64 e]).alloc (.cells #[.bool c, .string t, .int .i64 f] 25)).alloc (.cells #[.bool false, .string ⟨#[]⟩, .int .i64 0] 25)
  have X2 := (Bx.at1 w (.cells #[.bool b, .string s, .int .i64 e] 25) 25 #[.bool c, .string t, .int .i64 f]).alloc (.cells #[.bool false, .string ⟨#[]⟩, .int .i64 0] 25)
  have X3 := Bx.at2 w (.cells #[.bool b, .string s, .int .i64 e] 25) (.cells #[.bool c, .string t, .int .i64 f] 25) 25 #[.bool false, .string ⟨#[]⟩, .int .i64 0]
  have hB := b3 w (.cells #[.bool b, .string s, .int .i64 e] 25) (.cells #[.bool c, .string t, .int .i64 f] 25) (.cells #[.bool false, .string ⟨#[]⟩, .int .i64 0] 25)
  generalize ((w.alloc (.cells #[.bool b, .string s, .int .i64 e] 25)).alloc (.cells #[.bool c, .string t, .int .i64 f] 25)).alloc (.cells #[.bool false, .string ⟨#[]⟩, .int .i64 0] 25) = w0 at *
  have hl0 := X1.lt
  have hl1 := X2.lt
  have hl2 := X3.lt
  obtain ⟨p1, p2, p5, p3, p4, p6⟩ := X1.three
  obtain ⟨q1, q2, q5, q3, q4, q6⟩ := X2.three
  obtain ⟨r1, r2, r5, r3, r4, r6⟩ := X3.three
  go_wp2_with fail
  refine (cO.out _ _ (tab_keep HT.out (nxtA hB (.cells #[.bool b, .string s, .int .i64 e, .bool c, .string t, .int .i64 f] 25))) (Bx.new _ _ _)).mono ?_
  rintro e w1 ⟨rfl, hb⟩
  replace X1 := (X1.alloc (.cells #[.bool b, .string s, .int .i64 e, .bool c, .string t, .int .i64 f] 25)).later hb
  replace X2 := (X2.alloc (.cells #[.bool b, .string s, .int .i64 e, .bool c, .string t, .int .i64 f] 25)).later hb
  replace X3 := (X3.alloc (.cells #[.bool b, .string s, .int .i64 e, .bool c, .string t, .int .i64 f] 25)).later hb
  replace hB := nxt (nxtA hB (.cells #[.bool b, .string s, .int .i64 e, .bool c, .string t, .int .i64 f] 25)) hb
  clear hb
  clear p1 p2 p3 p4 p5 p6 q1 q2 q3 q4 q5 q6 r1 r2 r3 r4 r5 r6
  obtain ⟨p1, p2, p5, p3, p4, p6⟩ := X1.three
  obtain ⟨q1, q2, q5, q3, q4, q6⟩ := X2.three
  obtain ⟨r1, r2, r5, r3, r4, r6⟩ := X3.three
  go_wp2_with fail
  exact bodyPost_ret (v := .agg #[.bool (neg (dm (z))), .string (mag (dm (z))), .int .i64 (de (z))]) (by simp [results, Tryz.results77, go_sem, (X3.set3 _ _ _).cel]) rfl ⟨rfl, st3 hB (Nat.le_add_right _ 2) _ _ _⟩
theorem dMul2N {b c : Bool} {s t : ByteArray} {e f : Int} {x y : Dyadic} {L T0 : Nat} {g : Nat} {w : World} (n1 : ND b s e x) (n2 : ND c t f y) (d1 : DB L T0 x) (d2 : DB L T0 y) (hLT : L + T0 ≤ 1500000) (hT : TabAt 0 Lib.deBruijn64tab w) (h : Bx w g 25 #[.bool b, .string s, .int .i64 e, .bool c, .string t, .int .i64 f]) :
    Calls Tryz.prog 39 #[.slice (some ⟨g, 0, none⟩) 2 2] w fun r w' => r = .returned (.agg #[.bool (neg (dm (x * y))), .string (mag (dm (x * y))), .int .i64 (de (x * y))]) ∧ Below w.heap.size w w' := by
  have h := dMul_any _ 2 2 _ _ _ (fun j => if j = 0 then x else y) L T0 w (by decide) (fun j => by by_cases h0 : j = 0 <;> simp only [h0, if_true, if_false] <;> assumption) (fun j => by by_cases h0 : j = 0 <;> simp only [h0, if_true, if_false] <;> assumption) (by omega) (rdN2B h) hT
  have e1 : prodD (fun j => if j = 0 then x else y) 2 = x * y := by
    show (1 * x) * y = _
    rw [Dyadic.one_mul]
  rwa [e1] at h
theorem sMul1_any {b c : Bool} {s t : ByteArray} {e f : Int} {x y : Dyadic} {L T0 : Nat} (w : World) (n1 : ND b s e x) (n2 : ND c t f y) (d1 : DB L T0 x) (d2 : DB L T0 y) (hLT : L + T0 ≤ 1500000) (hT : TabAt 0 Lib.deBruijn64tab w) :
    Calls Tryz.prog 77 #[.agg #[.bool b, .string s, .int .i64 e], .agg #[.bool c, .string t, .int .i64 f]] w fun r w' => r = .returned (.agg #[.bool (neg (dm (x * y))), .string (mag (dm (x * y))), .int .i64 (de (x * y))]) ∧ Below w.heap.size w w' := by
  exact sMul1_x s t b c e f _ w hT (Lib.hid fun _ W h hx => dMul2N n1 n2 d1 d2 hLT h hx)

end Go.Proofs.YtchfglbkiebfpaaGreatDoor

namespace Go.Proofs.YtchfglbkiebfpaaGreatDoor
open Go.RowKit

theorem Bx.twelve {w : World} {g : Nat} {t : TypeId} {x0 x1 x2 x3 x4 x5 x6 x7 x8 x9 x10 x11 : Value} (h : Bx w g t #[x0, x1, x2, x3, x4, x5, x6, x7, x8, x9, x10, x11]) : w.cell? ⟨g, 0, none⟩ = some x0 ∧ w.cell? ⟨g, 1, none⟩ = some x1 ∧ w.cell? ⟨g, 2, none⟩ = some x2 ∧ w.cell? ⟨g, 3, none⟩ = some x3 ∧ w.cell? ⟨g, 4, none⟩ = some x4 ∧ w.cell? ⟨g, 5, none⟩ = some x5 ∧ w.cell? ⟨g, 6, none⟩ = some x6 ∧ w.cell? ⟨g, 7, none⟩ = some x7 ∧ w.cell? ⟨g, 8, none⟩ = some x8 ∧ w.cell? ⟨g, 9, none⟩ = some x9 ∧ w.cell? ⟨g, 10, none⟩ = some x10 ∧ w.cell? ⟨g, 11, none⟩ = some x11 ∧ w.frozen? ⟨g, 0, none⟩ = false ∧ w.frozen? ⟨g, 1, none⟩ = false ∧ w.frozen? ⟨g, 2, none⟩ = false ∧ w.frozen? ⟨g, 3, none⟩ = false ∧ w.frozen? ⟨g, 4, none⟩ = false ∧ w.frozen? ⟨g, 5, none⟩ = false ∧ w.frozen? ⟨g, 6, none⟩ = false ∧ w.frozen? ⟨g, 7, none⟩ = false ∧ w.frozen? ⟨g, 8, none⟩ = false ∧ w.frozen? ⟨g, 9, none⟩ = false ∧ w.frozen? ⟨g, 10, none⟩ = false ∧ w.frozen? ⟨g, 11, none⟩ = false :=
  ⟨h.cel 0, h.cel 1, h.cel 2, h.cel 3, h.cel 4, h.cel 5, h.cel 6, h.cel 7, h.cel 8, h.cel 9, h.cel 10, h.cel 11, h.free 0, h.free 1, h.free 2, h.free 3, h.free 4, h.free 5, h.free 6, h.free 7, h.free 8, h.free 9, h.free 10, h.free 11⟩
theorem Bx.set12 {w : World} {g : Nat} {t : TypeId} {x0 x1 x2 x3 x4 x5 x6 x7 x8 x9 x10 x11 : Value} (h : Bx w g t #[x0, x1, x2, x3, x4, x5, x6, x7, x8, x9, x10, x11]) (y0 y1 y2 y3 y4 y5 y6 y7 y8 y9 y10 y11 : Value) : Bx ((((((((((((w.setCell ⟨g, 0, none⟩ y0).setCell ⟨g, 1, none⟩ y1).setCell ⟨g, 2, none⟩ y2).setCell ⟨g, 3, none⟩ y3).setCell ⟨g, 4, none⟩ y4).setCell ⟨g, 5, none⟩ y5).setCell ⟨g, 6, none⟩ y6).setCell ⟨g, 7, none⟩ y7).setCell ⟨g, 8, none⟩ y8).setCell ⟨g, 9, none⟩ y9).setCell ⟨g, 10, none⟩ y10).setCell ⟨g, 11, none⟩ y11) g t #[y0, y1, y2, y3, y4, y5, y6, y7, y8, y9, y10, y11] := by
  have h0 : Bx (w.setCell ⟨g, 0, none⟩ y0) g t #[y0, x1, x2, x3, x4, x5, x6, x7, x8, x9, x10, x11] := h.set 0 y0
  have h1 : Bx ((w.setCell ⟨g, 0, none⟩ y0).setCell ⟨g, 1, none⟩ y1) g t #[y0, y1, x2, x3, x4, x5, x6, x7, x8, x9, x10, x11] := h0.set 1 y1
  have h2 : Bx (((w.setCell ⟨g, 0, none⟩ y0).setCell ⟨g, 1, none⟩ y1).setCell ⟨g, 2, none⟩ y2) g t #[y0, y1, y2, x3, x4, x5, x6, x7, x8, x9, x10, x11] := h1.set 2 y2
  have h3 : Bx ((((w.setCell ⟨g, 0, none⟩ y0).setCell ⟨g, 1, none⟩ y1).setCell ⟨g, 2, none⟩ y2).setCell ⟨g, 3, none⟩ y3) g t #[y0, y1, y2, y3, x4, x5, x6, x7, x8, x9, x10, x11] := h2.set 3 y3
  have h4 : Bx (((((w.setCell ⟨g, 0, none⟩ y0).setCell ⟨g, 1, none⟩ y1).setCell ⟨g, 2, none⟩ y2).setCell ⟨g, 3, none⟩ y3).setCell ⟨g, 4, none⟩ y4) g t #[y0, y1, y2, y3, y4, x5, x6, x7, x8, x9, x10, x11] := h3.set 4 y4
  have h5 : Bx ((((((w.setCell ⟨g, 0, none⟩ y0).setCell ⟨g, 1, none⟩ y1).setCell ⟨g, 2, none⟩ y2).setCell ⟨g, 3, none⟩ y3).setCell ⟨g, 4, none⟩ y4).setCell ⟨g, 5, none⟩ y5) g t #[y0, y1, y2, y3, y4, y5, x6, x7, x8, x9, x10, x11] := h4.set 5 y5
  have h6 : Bx (((((((w.setCell ⟨g, 0, none⟩ y0).setCell ⟨g, 1, none⟩ y1).setCell ⟨g, 2, none⟩ y2).setCell ⟨g, 3, none⟩ y3).setCell ⟨g, 4, none⟩ y4).setCell ⟨g, 5, none⟩ y5).setCell ⟨g, 6, none⟩ y6) g t #[y0, y1, y2, y3, y4, y5, y6, x7, x8, x9, x10, x11] := h5.set 6 y6
  have h7 : Bx ((((((((w.setCell ⟨g, 0, none⟩ y0).setCell ⟨g, 1, none⟩ y1).setCell ⟨g, 2, none⟩ y2).setCell ⟨g, 3, none⟩ y3).setCell ⟨g, 4, none⟩ y4).setCell ⟨g, 5, none⟩ y5).setCell ⟨g, 6, none⟩ y6).setCell ⟨g, 7, none⟩ y7) g t #[y0, y1, y2, y3, y4, y5, y6, y7, x8, x9, x10, x11] := h6.set 7 y7
  have h8 : Bx (((((((((w.setCell ⟨g, 0, none⟩ y0).setCell ⟨g, 1, none⟩ y1).setCell ⟨g, 2, none⟩ y2).setCell ⟨g, 3, none⟩ y3).setCell ⟨g, 4, none⟩ y4).setCell ⟨g, 5, none⟩ y5).setCell ⟨g, 6, none⟩ y6).setCell ⟨g, 7, none⟩ y7).setCell ⟨g, 8, none⟩ y8) g t #[y0, y1, y2, y3, y4, y5, y6, y7, y8, x9, x10, x11] := h7.set 8 y8
  have h9 : Bx ((((((((((w.setCell ⟨g, 0, none⟩ y0).setCell ⟨g, 1, none⟩ y1).setCell ⟨g, 2, none⟩ y2).setCell ⟨g, 3, none⟩ y3).setCell ⟨g, 4, none⟩ y4).setCell ⟨g, 5, none⟩ y5).setCell ⟨g, 6, none⟩ y6).setCell ⟨g, 7, none⟩ y7).setCell ⟨g, 8, none⟩ y8).setCell ⟨g, 9, none⟩ y9) g t #[y0, y1, y2, y3, y4, y5, y6, y7, y8, y9, x10, x11] := h8.set 9 y9
  have h10 : Bx (((((((((((w.setCell ⟨g, 0, none⟩ y0).setCell ⟨g, 1, none⟩ y1).setCell ⟨g, 2, none⟩ y2).setCell ⟨g, 3, none⟩ y3).setCell ⟨g, 4, none⟩ y4).setCell ⟨g, 5, none⟩ y5).setCell ⟨g, 6, none⟩ y6).setCell ⟨g, 7, none⟩ y7).setCell ⟨g, 8, none⟩ y8).setCell ⟨g, 9, none⟩ y9).setCell ⟨g, 10, none⟩ y10) g t #[y0, y1, y2, y3, y4, y5, y6, y7, y8, y9, y10, x11] := h9.set 10 y10
  have h11 : Bx ((((((((((((w.setCell ⟨g, 0, none⟩ y0).setCell ⟨g, 1, none⟩ y1).setCell ⟨g, 2, none⟩ y2).setCell ⟨g, 3, none⟩ y3).setCell ⟨g, 4, none⟩ y4).setCell ⟨g, 5, none⟩ y5).setCell ⟨g, 6, none⟩ y6).setCell ⟨g, 7, none⟩ y7).setCell ⟨g, 8, none⟩ y8).setCell ⟨g, 9, none⟩ y9).setCell ⟨g, 10, none⟩ y10).setCell ⟨g, 11, none⟩ y11) g t #[y0, y1, y2, y3, y4, y5, y6, y7, y8, y9, y10, y11] := h10.set 11 y11
  exact h11
theorem st12 {B : Nat} {a w : World} (h : Below B a w) {g : Nat} (hg : B ≤ g) (y0 y1 y2 y3 y4 y5 y6 y7 y8 y9 y10 y11 : Value) : Below B a ((((((((((((w.setCell ⟨g, 0, none⟩ y0).setCell ⟨g, 1, none⟩ y1).setCell ⟨g, 2, none⟩ y2).setCell ⟨g, 3, none⟩ y3).setCell ⟨g, 4, none⟩ y4).setCell ⟨g, 5, none⟩ y5).setCell ⟨g, 6, none⟩ y6).setCell ⟨g, 7, none⟩ y7).setCell ⟨g, 8, none⟩ y8).setCell ⟨g, 9, none⟩ y9).setCell ⟨g, 10, none⟩ y10).setCell ⟨g, 11, none⟩ y11) := (((((((((((h.setCell hg y0).setCell hg y1).setCell hg y2).setCell hg y3).setCell hg y4).setCell hg y5).setCell hg y6).setCell hg y7).setCell hg y8).setCell hg y9).setCell hg y10).setCell hg y11

set_option maxRecDepth 100000 in
set_option maxHeartbeats 1000000 in
theorem sFourMul (s t s' t' : ByteArray) (b c b' c' : Bool) (e f e' f' : Int) (z1 z2 z3 z4 : Dyadic) (w : World) (hT : TabAt 0 Lib.deBruijn64tab w)
    (c1 : Hid (∀ W : World, TabAt 0 Lib.deBruijn64tab W → Calls Tryz.prog 77 #[.agg #[.bool b, .string s, .int .i64 e], .agg #[.bool b', .string s', .int .i64 e']] W fun r w' => r = .returned (.agg #[.bool (neg (dm (z1))), .string (mag (dm (z1))), .int .i64 (de (z1))]) ∧ Below W.heap.size W w'))
    (c2 : Hid (∀ W : World, TabAt 0 Lib.deBruijn64tab W → Calls Tryz.prog 77 #[.agg #[.bool b, .string s, .int .i64 e], .agg #[.bool c', .string t', .int .i64 f']] W fun r w' => r = .returned (.agg #[.bool (neg (dm (z2))), .string (mag (dm (z2))), .int .i64 (de (z2))]) ∧ Below W.heap.size W w'))
    (c3 : Hid (∀ W : World, TabAt 0 Lib.deBruijn64tab W → Calls Tryz.prog 77 #[.agg #[.bool c, .string t, .int .i64 f], .agg #[.bool b', .string s', .int .i64 e']] W fun r w' => r = .returned (.agg #[.bool (neg (dm (z3))), .string (mag (dm (z3))), .int .i64 (de (z3))]) ∧ Below W.heap.size W w'))
    (c4 : Hid (∀ W : World, TabAt 0 Lib.deBruijn64tab W → Calls Tryz.prog 77 #[.agg #[.bool c, .string t, .int .i64 f], .agg #[.bool c', .string t', .int .i64 f']] W fun r w' => r = .returned (.agg #[.bool (neg (dm (z4))), .string (mag (dm (z4))), .int .i64 (de (z4))]) ∧ Below W.heap.size W w'))
    :
    Calls Tryz.prog 76 #[.agg #[.bool b, .string s, .int .i64 e, .bool c, .string t, .int .i64 f], .agg #[.bool b', .string s', .int .i64 e', .bool c', .string t', .int .i64 f'], .func (.func 77) #[] #[]] w fun r w' => r = .returned (.agg #[.bool (neg (dm (z1))), .string (mag (dm (z1))), .int .i64 (de (z1)), .bool (neg (dm (z2))), .string (mag (dm (z2))), .int .i64 (de (z2)), .bool (neg (dm (z3))), .string (mag (dm (z3))), .int .i64 (de (z3)), .bool (neg (dm (z4))), .string (mag (dm (z4))), .int .i64 (de (z4))]) ∧ Below w.heap.size w w' := by
  have HT := Lib.hid hT
  clear hT
  go_enter Tryz.func76, Tryz.ntmps76
  go_upto_region 1 with (fail)
  have X1 := ((Bx.new w 27 #[.bool b, .string s, .int .i64 e, .bool c, .string t, .int .i64 f]).alloc (.cells #[.bool b', .string s', .int .i64 e', .bool c', .string t', .int .i64 f'] 27)).alloc (.cells #[.bool false, .string ⟨#[]⟩, .int .i64 0, .bool false, .string ⟨#[]⟩, .int .i64 0, .bool false, .string ⟨#[]⟩, .int .i64 0, .bool false, .string ⟨#[]⟩, .int .i64 0] 91)
  have X2 := (Bx.at1 w (.cells #[.bool b, .string s, .int .i64 e, .bool c, .string t, .int .i64 f] 27) 27 #[.bool b', .string s', .int .i64 e', .bool c', .string t', .int .i64 f']).alloc (.cells #[.bool false, .string ⟨#[]⟩, .int .i64 0, .bool false, .string ⟨#[]⟩, .int .i64 0, .bool false, .string ⟨#[]⟩, .int .i64 0, .bool false, .string ⟨#[]⟩, .int .i64 0] 91)
  have X3 := Bx.at2 w (.cells #[.bool b, .string s, .int .i64 e, .bool c, .string t, .int .i64 f] 27) (.cells #[.bool b', .string s', .int .i64 e', .bool c', .string t', .int .i64 f'] 27) 91 #[.bool false, .string ⟨#[]⟩, .int .i64 0, .bool false, .string ⟨#[]⟩, .int .i64 0, .bool false, .string ⟨#[]⟩, .int .i64 0, .bool false, .string ⟨#[]⟩, .int .i64 0]
  have hB := b3 w (.cells #[.bool b, .string s, .int .i64 e, .bool c, .string t, .int .i64 f] 27) (.cells #[.bool b', .string s', .int .i64 e', .bool c', .string t', .int .i64 f'] 27) (.cells #[.bool false, .string ⟨#[]⟩, .int .i64 0, .bool false, .string ⟨#[]⟩, .int .i64 0, .bool false, .string ⟨#[]⟩, .int .i64 0, .bool false, .string ⟨#[]⟩, .int .i64 0] 91)
  generalize ((w.alloc (.cells #[.bool b, .string s, .int .i64 e, .bool c, .string t, .int .i64 f] 27)).alloc (.cells #[.bool b', .string s', .int .i64 e', .bool c', .string t', .int .i64 f'] 27)).alloc (.cells #[.bool false, .string ⟨#[]⟩, .int .i64 0, .bool false, .string ⟨#[]⟩, .int .i64 0, .bool false, .string ⟨#[]⟩, .int .i64 0, .bool false, .string ⟨#[]⟩, .int .i64 0] 91) = w0 at *
  have hl0 := X1.lt
  have hl1 := X2.lt
  have hl2 := X3.lt
  refine wp_region_k [7, 8, 9, 10, 11, 12, 13, 14, 15, 16, 17, 18, 19, 20, 21, 22, 23, 24, 25, 26, 27, 28, 29, 30, 31] [.eq (.func (.func 77) #[] #[]), .eq (.pointer (some ⟨w.heap.size, 0, none⟩)), .eq (.agg #[.bool b, .string s, .int .i64 e]), .eq (.pointer (some ⟨w.heap.size + 1, 0, none⟩)), .eq (.agg #[.bool b', .string s', .int .i64 e']), .eq (.agg #[.bool (neg (dm (z1))), .string (mag (dm (z1))), .int .i64 (de (z1))]), .eq (.func (.func 77) #[] #[]), .eq (.pointer (some ⟨w.heap.size, 0, none⟩)), .eq (.agg #[.bool b, .string s, .int .i64 e]), .eq (.pointer (some ⟨w.heap.size + 1, 3, none⟩)), .eq (.agg #[.bool c', .string t', .int .i64 f']), .eq (.agg #[.bool (neg (dm (z2))), .string (mag (dm (z2))), .int .i64 (de (z2))]), .eq (.func (.func 77) #[] #[]), .eq (.pointer (some ⟨w.heap.size, 3, none⟩)), .eq (.agg #[.bool c, .string t, .int .i64 f]), .eq (.pointer (some ⟨w.heap.size + 1, 0, none⟩)), .eq (.agg #[.bool b', .string s', .int .i64 e']), .eq (.agg #[.bool (neg (dm (z3))), .string (mag (dm (z3))), .int .i64 (de (z3))]), .eq (.func (.func 77) #[] #[]), .eq (.pointer (some ⟨w.heap.size, 3, none⟩)), .eq (.agg #[.bool c, .string t, .int .i64 f]), .eq (.pointer (some ⟨w.heap.size + 1, 3, none⟩)), .eq (.agg #[.bool c', .string t', .int .i64 f']), .eq (.agg #[.bool (neg (dm (z4))), .string (mag (dm (z4))), .int .i64 (de (z4))]), .eq (.agg #[.bool (neg (dm (z1))), .string (mag (dm (z1))), .int .i64 (de (z1)), .bool (neg (dm (z2))), .string (mag (dm (z2))), .int .i64 (de (z2)), .bool (neg (dm (z3))), .string (mag (dm (z3))), .int .i64 (de (z3)), .bool (neg (dm (z4))), .string (mag (dm (z4))), .int .i64 (de (z4))])] 32 (by kernel_rfl) (by exact fun _ _ _ _ _ h => h) (by kernel_rfl) (by rfl) ?hop ?htail
  case hop =>
    intro A hA
    have hN : A.tmps.size = 32 := by rw [hA]; rfl
    have q3 : A.tmps.getD 3 undef = .pointer (some ⟨w.heap.size, 0, none⟩) := by rw [hA]; rfl
    have q4 : A.tmps.getD 4 undef = .pointer (some ⟨w.heap.size + 1, 0, none⟩) := by rw [hA]; rfl
    have q2 : A.tmps.getD 2 undef = .func (.func 77) #[] #[] := by rw [hA]; rfl
    clear hA
    refine ⟨?_, ?_, ?_, ?_, ?_, ?_, ?_, ?_, ?_, ?_, ?_, ?_, ?_, ?_, ?_, ?_, ?_, ?_, ?_, ?_, ?_, ?_, ?_, ?_, ?_, trivial⟩
    · refine kok hN fun u W ev ec ef E B hG hf => ?_
      exact k_val _ rfl rfl hG (by simp [go_sem, B 2 rfl rfl q2]) rfl
    · refine kok hN fun u W ev ec ef E B hG hf => ?_
      exact k_val _ rfl rfl hG (by simp [go_sem, B 3 rfl rfl q3]) rfl
    · refine kok hN fun u W ev ec ef E B hG hf => ?_
      exact k_val _ rfl rfl hG (by simp [go_sem, E 8 1 rfl rfl (hf 1 rfl), (X1.later hG).cel]) rfl
    · refine kok hN fun u W ev ec ef E B hG hf => ?_
      exact k_val _ rfl rfl hG (by simp [go_sem, B 4 rfl rfl q4]) rfl
    · refine kok hN fun u W ev ec ef E B hG hf => ?_
      exact k_val _ rfl rfl hG (by simp [go_sem, E 10 3 rfl rfl (hf 3 rfl), (X2.later hG).cel]) rfl
    · refine kok hN fun u W ev ec ef E B hG hf => ?_
      exact k_cl rfl rfl (by simp [go_sem, E 7 0 rfl rfl (hf 0 rfl), E 9 2 rfl rfl (hf 2 rfl), E 11 4 rfl rfl (hf 4 rfl)]) (c1.out W (tab_keep HT.out (nxt hB hG))) hG (fun _ _ => rfl)
    · refine kok hN fun u W ev ec ef E B hG hf => ?_
      exact k_val _ rfl rfl hG (by simp [go_sem, B 2 rfl rfl q2]) rfl
    · refine kok hN fun u W ev ec ef E B hG hf => ?_
      exact k_val _ rfl rfl hG (by simp [go_sem, B 3 rfl rfl q3]) rfl
    · refine kok hN fun u W ev ec ef E B hG hf => ?_
      exact k_val _ rfl rfl hG (by simp [go_sem, E 14 7 rfl rfl (hf 7 rfl), (X1.later hG).cel]) rfl
    · refine kok hN fun u W ev ec ef E B hG hf => ?_
      exact k_val _ rfl rfl hG (by simp [go_sem, B 4 rfl rfl q4]) rfl
    · refine kok hN fun u W ev ec ef E B hG hf => ?_
      exact k_val _ rfl rfl hG (by simp [go_sem, E 16 9 rfl rfl (hf 9 rfl), (X2.later hG).cel]) rfl
    · refine kok hN fun u W ev ec ef E B hG hf => ?_
      exact k_cl rfl rfl (by simp [go_sem, E 13 6 rfl rfl (hf 6 rfl), E 15 8 rfl rfl (hf 8 rfl), E 17 10 rfl rfl (hf 10 rfl)]) (c2.out W (tab_keep HT.out (nxt hB hG))) hG (fun _ _ => rfl)
    · refine kok hN fun u W ev ec ef E B hG hf => ?_
      exact k_val _ rfl rfl hG (by simp [go_sem, B 2 rfl rfl q2]) rfl
    · refine kok hN fun u W ev ec ef E B hG hf => ?_
      exact k_val _ rfl rfl hG (by simp [go_sem, B 3 rfl rfl q3]) rfl
    · refine kok hN fun u W ev ec ef E B hG hf => ?_
      exact k_val _ rfl rfl hG (by simp [go_sem, E 20 13 rfl rfl (hf 13 rfl), (X1.later hG).cel]) rfl
    · refine kok hN fun u W ev ec ef E B hG hf => ?_
      exact k_val _ rfl rfl hG (by simp [go_sem, B 4 rfl rfl q4]) rfl
    · refine kok hN fun u W ev ec ef E B hG hf => ?_
      exact k_val _ rfl rfl hG (by simp [go_sem, E 22 15 rfl rfl (hf 15 rfl), (X2.later hG).cel]) rfl
    · refine kok hN fun u W ev ec ef E B hG hf => ?_
      exact k_cl rfl rfl (by simp [go_sem, E 19 12 rfl rfl (hf 12 rfl), E 21 14 rfl rfl (hf 14 rfl), E 23 16 rfl rfl (hf 16 rfl)]) (c3.out W (tab_keep HT.out (nxt hB hG))) hG (fun _ _ => rfl)
    · refine kok hN fun u W ev ec ef E B hG hf => ?_
      exact k_val _ rfl rfl hG (by simp [go_sem, B 2 rfl rfl q2]) rfl
    · refine kok hN fun u W ev ec ef E B hG hf => ?_
      exact k_val _ rfl rfl hG (by simp [go_sem, B 3 rfl rfl q3]) rfl
    · refine kok hN fun u W ev ec ef E B hG hf => ?_
      exact k_val _ rfl rfl hG (by simp [go_sem, E 26 19 rfl rfl (hf 19 rfl), (X1.later hG).cel]) rfl
    · refine kok hN fun u W ev ec ef E B hG hf => ?_
      exact k_val _ rfl rfl hG (by simp [go_sem, B 4 rfl rfl q4]) rfl
    · refine kok hN fun u W ev ec ef E B hG hf => ?_
      exact k_val _ rfl rfl hG (by simp [go_sem, E 28 21 rfl rfl (hf 21 rfl), (X2.later hG).cel]) rfl
    · refine kok hN fun u W ev ec ef E B hG hf => ?_
      exact k_cl rfl rfl (by simp [go_sem, E 25 18 rfl rfl (hf 18 rfl), E 27 20 rfl rfl (hf 20 rfl), E 29 22 rfl rfl (hf 22 rfl)]) (c4.out W (tab_keep HT.out (nxt hB hG))) hG (fun _ _ => rfl)
    · refine kok hN fun u W ev ec ef E B hG hf => ?_
      exact k_val _ rfl rfl hG (by simp [go_sem, E 12 5 rfl rfl (hf 5 rfl), E 18 11 rfl rfl (hf 11 rfl), E 24 17 rfl rfl (hf 17 rfl), E 30 23 rfl rfl (hf 23 rfl)]) rfl
  case htail =>
    intro u w' hG hP hD
    have f31 : u 24 = .agg #[.bool (neg (dm (z1))), .string (mag (dm (z1))), .int .i64 (de (z1)), .bool (neg (dm (z2))), .string (mag (dm (z2))), .int .i64 (de (z2)), .bool (neg (dm (z3))), .string (mag (dm (z3))), .int .i64 (de (z3)), .bool (neg (dm (z4))), .string (mag (dm (z4))), .int .i64 (de (z4))] := hP 24 (by decide)
    simp only [putAll, Act.put, List.setIfInBounds_toArray, List.set_cons_zero, List.set_cons_succ, List.length_cons, List.length_nil, Nat.reduceAdd, List.drop_succ_cons, List.drop_zero, f31]
    have hB := Lib.hid (nxt hB hG)
    replace X3 := X3.later hG
    have HX := Lib.hid X3
    obtain ⟨q1, q2, q3, q4, q5, q6, q7, q8, q9, q10, q11, q12, q13, q14, q15, q16, q17, q18, q19, q20, q21, q22, q23, q24⟩ := X3.twelve
    clear X1 X2 X3 hP hD hG f31
    go_wp2_with fail
    exact bodyPost_ret (v := .agg #[.bool (neg (dm (z1))), .string (mag (dm (z1))), .int .i64 (de (z1)), .bool (neg (dm (z2))), .string (mag (dm (z2))), .int .i64 (de (z2)), .bool (neg (dm (z3))), .string (mag (dm (z3))), .int .i64 (de (z3)), .bool (neg (dm (z4))), .string (mag (dm (z4))), .int .i64 (de (z4))]) (by simp [results, Tryz.results76, go_sem, (HX.out.set12 _ _ _ _ _ _ _ _ _ _ _ _).cel]) rfl ⟨rfl, st12 hB.out (Nat.le_add_right _ 2) _ _ _ _ _ _ _ _ _ _ _ _⟩

set_option maxRecDepth 100000 in
set_option maxHeartbeats 1000000 in
theorem sMul_x (s t s' t' : ByteArray) (b c b' c' : Bool) (e f e' f' : Int) (z1 z2 z3 z4 x2 y2 : Dyadic) (w : World) (hT : TabAt 0 Lib.deBruijn64tab w)
    (cF : Hid (∀ W : World, TabAt 0 Lib.deBruijn64tab W → Calls Tryz.prog 76 #[.agg #[.bool b, .string s, .int .i64 e, .bool c, .string t, .int .i64 f], .agg #[.bool b', .string s', .int .i64 e', .bool c', .string t', .int .i64 f'], .func (.func 77) #[] #[]] W fun r w' => r = .returned (.agg #[.bool (neg (dm (z1))), .string (mag (dm (z1))), .int .i64 (de (z1)), .bool (neg (dm (z2))), .string (mag (dm (z2))), .int .i64 (de (z2)), .bool (neg (dm (z3))), .string (mag (dm (z3))), .int .i64 (de (z3)), .bool (neg (dm (z4))), .string (mag (dm (z4))), .int .i64 (de (z4))]) ∧ Below W.heap.size W w'))
    (cO : Hid (∀ (g : Nat) (W : World), TabAt 0 Lib.deBruijn64tab W → Bx W g 91 #[.bool (neg (dm (z1))), .string (mag (dm (z1))), .int .i64 (de (z1)), .bool (neg (dm (z2))), .string (mag (dm (z2))), .int .i64 (de (z2)), .bool (neg (dm (z3))), .string (mag (dm (z3))), .int .i64 (de (z3)), .bool (neg (dm (z4))), .string (mag (dm (z4))), .int .i64 (de (z4))] → Calls Tryz.prog 46 #[.slice (some ⟨g, 0, none⟩) 4 4] W fun r w' => r = .returned (.agg #[.bool (neg (dm (x2))), .string (mag (dm (x2))), .int .i64 (de (x2)), .bool (neg (dm (y2))), .string (mag (dm (y2))), .int .i64 (de (y2))]) ∧ Below W.heap.size W w'))
    :
    Calls Tryz.prog 20 #[.agg #[.bool b, .string s, .int .i64 e, .bool c, .string t, .int .i64 f], .agg #[.bool b', .string s', .int .i64 e', .bool c', .string t', .int .i64 f']] w fun r w' => r = .returned (.agg #[.bool (neg (dm (x2))), .string (mag (dm (x2))), .int .i64 (de (x2)), .bool (neg (dm (y2))), .string (mag (dm (y2))), .int .i64 (de (y2))]) ∧ Below w.heap.size w w' := by
  have HT := Lib.hid hT
  clear hT
  go_enter Tryz.func20, Tryz.ntmps20
  go_upto_region 1 with (fail)
  have X1 := ((Bx.new w 27 #[.bool b, .string s, .int .i64 e, .bool c, .string t, .int .i64 f]).alloc (.cells #[.bool b', .string s', .int .i64 e', .bool c', .string t', .int .i64 f'] 27)).alloc (.cells #[.bool false, .string ⟨#[]⟩, .int .i64 0, .bool false, .string ⟨#[]⟩, .int .i64 0] 27)
  have X2 := (Bx.at1 w (.cells #[.bool b, .string s, .int .i64 e, .bool c, .string t, .int .i64 f] 27) 27 #[.bool b', .string s', .int .i64 e', .bool c', .string t', .int .i64 f']).alloc (.cells #[.bool false, .string ⟨#[]⟩, .int .i64 0, .bool false, .string ⟨#[]⟩, .int .i64 0] 27)
  have X3 := Bx.at2 w (.cells #[.bool b, .string s, .int .i64 e, .bool c, .string t, .int .i64 f] 27) (.cells #[.bool b', .string s', .int .i64 e', .bool c', .string t', .int .i64 f'] 27) 27 #[.bool false, .string ⟨#[]⟩, .int .i64 0, .bool false, .string ⟨#[]⟩, .int .i64 0]
  have hB := b3 w (.cells #[.bool b, .string s, .int .i64 e, .bool c, .string t, .int .i64 f] 27) (.cells #[.bool b', .string s', .int .i64 e', .bool c', .string t', .int .i64 f'] 27) (.cells #[.bool false, .string ⟨#[]⟩, .int .i64 0, .bool false, .string ⟨#[]⟩, .int .i64 0] 27)
  generalize ((w.alloc (.cells #[.bool b, .string s, .int .i64 e, .bool c, .string t, .int .i64 f] 27)).alloc (.cells #[.bool b', .string s', .int .i64 e', .bool c', .string t', .int .i64 f'] 27)).alloc (.cells #[.bool false, .string ⟨#[]⟩, .int .i64 0, .bool false, .string ⟨#[]⟩, .int .i64 0] 27) = w0 at *
  have hl0 := X1.lt
  have hl1 := X2.lt
  have hl2 := X3.lt
  obtain ⟨p1, p2, p3, p4, p5, p6, p7, p8, p9, p10, p11, p12⟩ := X1.six
  obtain ⟨q1, q2, q3, q4, q5, q6, q7, q8, q9, q10, q11, q12⟩ := X2.six
  obtain ⟨r1, r2, r3, r4, r5, r6, r7, r8, r9, r10, r11, r12⟩ := X3.six
  go_wp2_with fail
  refine (cF.out _ (tab_keep HT.out hB)).mono ?_
  rintro e w1 ⟨rfl, hb⟩
  replace X1 := X1.later hb
  replace X2 := X2.later hb
  replace X3 := X3.later hb
  replace hB := nxt hB hb
  clear hb
  clear p1 p2 p3 p4 p5 p6 p7 p8 p9 p10 p11 p12 q1 q2 q3 q4 q5 q6 q7 q8 q9 q10 q11 q12 r1 r2 r3 r4 r5 r6 r7 r8 r9 r10 r11 r12
  obtain ⟨p1, p2, p3, p4, p5, p6, p7, p8, p9, p10, p11, p12⟩ := X1.six
  obtain ⟨q1, q2, q3, q4, q5, q6, q7, q8, q9, q10, q11, q12⟩ := X2.six
  obtain ⟨r1, r2, r3, r4, r5, r6, r7, r8, r9, r10, r11, r12⟩ := X3.six
  have l3 := X3.lt
  have X4 := Bx.new w1 91 #[.bool (neg (dm (z1))), .string (mag (dm (z1))), .int .i64 (de (z1)), .bool (neg (dm (z2))), .string (mag (dm (z2))), .int .i64 (de (z2)), .bool (neg (dm (z3))), .string (mag (dm (z3))), .int .i64 (de (z3)), .bool (neg (dm (z4))), .string (mag (dm (z4))), .int .i64 (de (z4))]
  replace X1 := X1.alloc (.cells #[.bool (neg (dm (z1))), .string (mag (dm (z1))), .int .i64 (de (z1)), .bool (neg (dm (z2))), .string (mag (dm (z2))), .int .i64 (de (z2)), .bool (neg (dm (z3))), .string (mag (dm (z3))), .int .i64 (de (z3)), .bool (neg (dm (z4))), .string (mag (dm (z4))), .int .i64 (de (z4))] 91)
  replace X2 := X2.alloc (.cells #[.bool (neg (dm (z1))), .string (mag (dm (z1))), .int .i64 (de (z1)), .bool (neg (dm (z2))), .string (mag (dm (z2))), .int .i64 (de (z2)), .bool (neg (dm (z3))), .string (mag (dm (z3))), .int .i64 (de (z3)), .bool (neg (dm (z4))), .string (mag (dm (z4))), .int .i64 (de (z4))] 91)
  replace X3 := X3.alloc (.cells #[.bool (neg (dm (z1))), .string (mag (dm (z1))), .int .i64 (de (z1)), .bool (neg (dm (z2))), .string (mag (dm (z2))), .int .i64 (de (z2)), .bool (neg (dm (z3))), .string (mag (dm (z3))), .int .i64 (de (z3)), .bool (neg (dm (z4))), .string (mag (dm (z4))), .int .i64 (de (z4))] 91)
  replace hB := nxtA hB (.cells #[.bool (neg (dm (z1))), .string (mag (dm (z1))), .int .i64 (de (z1)), .bool (neg (dm (z2))), .string (mag (dm (z2))), .int .i64 (de (z2)), .bool (neg (dm (z3))), .string (mag (dm (z3))), .int .i64 (de (z3)), .bool (neg (dm (z4))), .string (mag (dm (z4))), .int .i64 (de (z4))] 91)
  clear p1 p2 p3 p4 p5 p6 p7 p8 p9 p10 p11 p12 q1 q2 q3 q4 q5 q6 q7 q8 q9 q10 q11 q12 r1 r2 r3 r4 r5 r6 r7 r8 r9 r10 r11 r12
  obtain ⟨p1, p2, p3, p4, p5, p6, p7, p8, p9, p10, p11, p12⟩ := X1.six
  obtain ⟨q1, q2, q3, q4, q5, q6, q7, q8, q9, q10, q11, q12⟩ := X2.six
  obtain ⟨r1, r2, r3, r4, r5, r6, r7, r8, r9, r10, r11, r12⟩ := X3.six
  obtain ⟨t1, t2, t3, t4, t5, t6, t7, t8, t9, t10, t11, t12, t13, t14, t15, t16, t17, t18, t19, t20, t21, t22, t23, t24⟩ := X4.twelve
  have HR := X4
  go_wp2_with fail
  refine (cO.out _ _ (tab_keep HT.out hB) HR).mono ?_
  rintro e w2 ⟨rfl, hb⟩
  replace X3 := X3.later hb
  replace hB := nxt hB hb
  clear hb HR X1 X2 X4 p1 p2 p3 p4 p5 p6 p7 p8 p9 p10 p11 p12 q1 q2 q3 q4 q5 q6 q7 q8 q9 q10 q11 q12 r1 r2 r3 r4 r5 r6 r7 r8 r9 r10 r11 r12 t1 t2 t3 t4 t5 t6 t7 t8 t9 t10 t11 t12 t13 t14 t15 t16 t17 t18 t19 t20 t21 t22 t23 t24
  obtain ⟨r1, r2, r3, r4, r5, r6, r7, r8, r9, r10, r11, r12⟩ := X3.six
  go_wp2_with fail
  exact bodyPost_ret (v := .agg #[.bool (neg (dm (x2))), .string (mag (dm (x2))), .int .i64 (de (x2)), .bool (neg (dm (y2))), .string (mag (dm (y2))), .int .i64 (de (y2))]) (by simp [results, Tryz.results20, go_sem, (X3.set6 _ _ _ _ _ _).cel]) rfl ⟨rfl, st6 hB (Nat.le_add_right _ 2) _ _ _ _ _ _⟩
end Go.Proofs.YtchfglbkiebfpaaGreatDoor

namespace Go.Proofs.YtchfglbkiebfpaaGreatDoor
open Go.RowKit

theorem first_min (f : Nat → Dyadic) {k : Nat} (h : k ≠ 0) : firstD minB f (k + 1) = dmin (firstD minB f k) (f k) := by
  show (if k = 0 then _ else if minB (f k) (firstD minB f k) = true then f k else firstD minB f k) = _
  rw [if_neg h]
  unfold dmin
  generalize firstD minB f k = z
  unfold minB
  by_cases h1 : f k < z
  · rw [if_pos h1, if_pos (decide_eq_true (dsgn_lt.2 (by grind)))]
  · rw [if_neg h1, if_neg (by rw [decide_eq_true_eq, dsgn_lt]; grind)]
theorem first_max (f : Nat → Dyadic) {k : Nat} (h : k ≠ 0) : firstD maxB f (k + 1) = dmax (firstD maxB f k) (f k) := by
  show (if k = 0 then _ else if maxB (f k) (firstD maxB f k) = true then f k else firstD maxB f k) = _
  rw [if_neg h]
  unfold dmax
  generalize firstD maxB f k = z
  unfold maxB
  by_cases h1 : z < f k
  · rw [if_pos h1, if_pos (decide_eq_true (dsgn_gt.2 (by grind)))]
  · rw [if_neg h1, if_neg (by rw [decide_eq_true_eq, dsgn_gt]; grind)]
def four4 (z1 z2 z3 z4 : Dyadic) (j : Nat) : Dyadic := if j = 0 then z1 else if j = 1 then z2 else if j = 2 then z3 else z4
def dmin4 (z1 z2 z3 z4 : Dyadic) : Dyadic := dmin (dmin (dmin z1 z2) z3) z4
def dmax4 (z1 z2 z3 z4 : Dyadic) : Dyadic := dmax (dmax (dmax z1 z2) z3) z4
theorem min4 (z1 z2 z3 z4 : Dyadic) : firstD minB (four4 z1 z2 z3 z4) 4 = dmin4 z1 z2 z3 z4 := by
  rw [first_min _ (k := 3) (by decide), first_min _ (k := 2) (by decide), first_min _ (k := 1) (by decide)]; rfl
theorem max4 (z1 z2 z3 z4 : Dyadic) : firstD maxB (four4 z1 z2 z3 z4) 4 = dmax4 z1 z2 z3 z4 := by
  rw [first_max _ (k := 3) (by decide), first_max _ (k := 2) (by decide), first_max _ (k := 1) (by decide)]; rfl

theorem rdN4B {w : World} {g : Nat} {t : TypeId} {z1 z2 z3 z4 : Dyadic} (h : Bx w g t #[.bool (neg (dm (z1))), .string (mag (dm (z1))), .int .i64 (de (z1)), .bool (neg (dm (z2))), .string (mag (dm (z2))), .int .i64 (de (z2)), .bool (neg (dm (z3))), .string (mag (dm (z3))), .int .i64 (de (z3)), .bool (neg (dm (z4))), .string (mag (dm (z4))), .int .i64 (de (z4))]) : RdN w (some ⟨g, 0, none⟩) 4 (fun j => neg (dm (four4 z1 z2 z3 z4 j))) (fun j => mag (dm (four4 z1 z2 z3 z4 j))) (fun j => de (four4 z1 z2 z3 z4 j)) := fun _ =>
  ⟨g, 0, rfl, fun j hj => by
    have : j = 0 ∨ j = 1 ∨ j = 2 ∨ j = 3 := by omega
    rcases this with rfl | rfl | rfl | rfl
    · exact ⟨h.cel 0, h.cel 1, h.cel 2⟩
    · exact ⟨h.cel 3, h.cel 4, h.cel 5⟩
    · exact ⟨h.cel 6, h.cel 7, h.cel 8⟩
    · exact ⟨h.cel 9, h.cel 10, h.cel 11⟩⟩
theorem db_four {L T0 : Nat} {z1 z2 z3 z4 : Dyadic} (h1 : DB L T0 z1) (h2 : DB L T0 z2) (h3 : DB L T0 z3) (h4 : DB L T0 z4) (j : Nat) : DB L T0 (four4 z1 z2 z3 z4 j) := by
  unfold four4; split
  · exact h1
  · split
    · exact h2
    · split
      · exact h3
      · exact h4
theorem sOf4 {z1 z2 z3 z4 : Dyadic} {L T0 : Nat} {g : Nat} {t : TypeId} {w : World} (d1 : DB L T0 z1) (d2 : DB L T0 z2) (d3 : DB L T0 z3) (d4 : DB L T0 z4) (hLT : L + T0 ≤ 4000000) (hT : TabAt 0 Lib.deBruijn64tab w) (h : Bx w g t #[.bool (neg (dm (z1))), .string (mag (dm (z1))), .int .i64 (de (z1)), .bool (neg (dm (z2))), .string (mag (dm (z2))), .int .i64 (de (z2)), .bool (neg (dm (z3))), .string (mag (dm (z3))), .int .i64 (de (z3)), .bool (neg (dm (z4))), .string (mag (dm (z4))), .int .i64 (de (z4))]) :
    Calls Tryz.prog 46 #[.slice (some ⟨g, 0, none⟩) 4 4] w fun r w' => r = .returned (.agg #[.bool (neg (dm (dmin4 z1 z2 z3 z4))), .string (mag (dm (dmin4 z1 z2 z3 z4))), .int .i64 (de (dmin4 z1 z2 z3 z4)), .bool (neg (dm (dmax4 z1 z2 z3 z4))), .string (mag (dm (dmax4 z1 z2 z3 z4))), .int .i64 (de (dmax4 z1 z2 z3 z4))]) ∧ Below w.heap.size w w' := by
  have h := sOf_any _ 4 4 _ _ _ (four4 z1 z2 z3 z4) w (by decide) (fun j => nd_db (db_four d1 d2 d3 d4 j) hLT) (rdN4B h) hT
  rwa [min4, max4] at h
theorem sMul_any {b c b' c' : Bool} {s t s' t' : ByteArray} {e f e' f' : Int} {x y x' y' : Dyadic} {L T0 : Nat} (w : World) (n1 : ND b s e x) (n2 : ND c t f y) (m1 : ND b' s' e' x') (m2 : ND c' t' f' y') (d1 : DB L T0 x) (d2 : DB L T0 y) (k1 : DB L T0 x') (k2 : DB L T0 y') (hLT : L + T0 ≤ 1500000) (hT : TabAt 0 Lib.deBruijn64tab w) :
    Calls Tryz.prog 20 #[.agg #[.bool b, .string s, .int .i64 e, .bool c, .string t, .int .i64 f], .agg #[.bool b', .string s', .int .i64 e', .bool c', .string t', .int .i64 f']] w fun r w' => r = .returned (.agg #[.bool (neg (dm (dmin4 (x * x') (x * y') (y * x') (y * y')))), .string (mag (dm (dmin4 (x * x') (x * y') (y * x') (y * y')))), .int .i64 (de (dmin4 (x * x') (x * y') (y * x') (y * y'))), .bool (neg (dm (dmax4 (x * x') (x * y') (y * x') (y * y')))), .string (mag (dm (dmax4 (x * x') (x * y') (y * x') (y * y')))), .int .i64 (de (dmax4 (x * x') (x * y') (y * x') (y * y')))]) ∧ Below w.heap.size w w' := by
  have z1 := db_mul d1 k1
  have z2 := db_mul d1 k2
  have z3 := db_mul d2 k1
  have z4 := db_mul d2 k2
  exact sMul_x s t s' t' b c b' c' e f e' f' _ _ _ _ _ _ w hT
    (Lib.hid fun W h => sFourMul s t s' t' b c b' c' e f e' f' _ _ _ _ W h (Lib.hid fun W h => sMul1_any W n1 m1 d1 k1 hLT h) (Lib.hid fun W h => sMul1_any W n1 m2 d1 k2 hLT h) (Lib.hid fun W h => sMul1_any W n2 m1 d2 k1 hLT h) (Lib.hid fun W h => sMul1_any W n2 m2 d2 k2 hLT h))
    (Lib.hid fun _ W h hx => sOf4 z1 z2 z3 z4 (by omega) h hx)

set_option maxRecDepth 100000 in
set_option maxHeartbeats 1000000 in
theorem sOut_x (s t : ByteArray) (b c : Bool) (e f : Int) (p : Int) (x y x1 y1 : Dyadic) (w : World) (hT : TabAt 0 Lib.deBruijn64tab w)
    (cO : Hid (∀ W : World, TabAt 0 Lib.deBruijn64tab W → Calls Tryz.prog 72 #[.agg #[.bool b, .string s, .int .i64 e, .bool c, .string t, .int .i64 f]] W fun r w' => r = .returned (.agg #[.bool (neg (dm (x))), .string (mag (dm (x))), .int .i64 (de (x)), .bool (neg (dm (y))), .string (mag (dm (y))), .int .i64 (de (y))]) ∧ Below W.heap.size W w'))
    (cF : Hid (∀ W : World, TabAt 0 Lib.deBruijn64tab W → Calls Tryz.prog 93 #[.agg #[.bool (neg (dm (x))), .string (mag (dm (x))), .int .i64 (de (x))], .int .i64 p] W fun r w' => r = .returned (.agg #[.bool (neg (dm (x1))), .string (mag (dm (x1))), .int .i64 (de (x1))]) ∧ Below W.heap.size W w'))
    (cC : Hid (∀ W : World, TabAt 0 Lib.deBruijn64tab W → Calls Tryz.prog 94 #[.agg #[.bool (neg (dm (y))), .string (mag (dm (y))), .int .i64 (de (y))], .int .i64 p] W fun r w' => r = .returned (.agg #[.bool (neg (dm (y1))), .string (mag (dm (y1))), .int .i64 (de (y1))]) ∧ Below W.heap.size W w'))
    :
    Calls Tryz.prog 28 #[.agg #[.bool b, .string s, .int .i64 e, .bool c, .string t, .int .i64 f], .int .i64 p] w fun r w' => r = .returned (.agg #[.bool (neg (dm (x1))), .string (mag (dm (x1))), .int .i64 (de (x1)), .bool (neg (dm (y1))), .string (mag (dm (y1))), .int .i64 (de (y1))]) ∧ Below w.heap.size w w' := by
  have HT := Lib.hid hT
  clear hT
  go_enter Tryz.func28, Tryz.ntmps28
  go_upto_region 1 with (fail)
  have X1 := (Bx.new w 27 #[.bool b, .string s, .int .i64 e, .bool c, .string t, .int .i64 f]).alloc (.cells #[.bool false, .string ⟨#[]⟩, .int .i64 0, .bool false, .string ⟨#[]⟩, .int .i64 0] 27)
  have X2 := Bx.at1 w (.cells #[.bool b, .string s, .int .i64 e, .bool c, .string t, .int .i64 f] 27) 27 #[.bool false, .string ⟨#[]⟩, .int .i64 0, .bool false, .string ⟨#[]⟩, .int .i64 0]
  have hB := b2 w (.cells #[.bool b, .string s, .int .i64 e, .bool c, .string t, .int .i64 f] 27) (.cells #[.bool false, .string ⟨#[]⟩, .int .i64 0, .bool false, .string ⟨#[]⟩, .int .i64 0] 27)
  generalize (w.alloc (.cells #[.bool b, .string s, .int .i64 e, .bool c, .string t, .int .i64 f] 27)).alloc (.cells #[.bool false, .string ⟨#[]⟩, .int .i64 0, .bool false, .string ⟨#[]⟩, .int .i64 0] 27) = w0 at *
  have hl0 := X1.lt
  have hl1 := X2.lt
  obtain ⟨p1, p2, p3, p4, p5, p6, p7, p8, p9, p10, p11, p12⟩ := X1.six
  obtain ⟨q1, q2, q3, q4, q5, q6, q7, q8, q9, q10, q11, q12⟩ := X2.six
  go_wp2_with fail
  refine (cO.out _ (tab_keep HT.out hB)).mono ?_
  rintro e w1 ⟨rfl, hb⟩
  replace X1 := X1.later hb
  replace X2 := X2.later hb
  replace hB := nxt hB hb
  clear hb
  clear p1 p2 p3 p4 p5 p6 p7 p8 p9 p10 p11 p12 q1 q2 q3 q4 q5 q6 q7 q8 q9 q10 q11 q12
  obtain ⟨p1, p2, p3, p4, p5, p6, p7, p8, p9, p10, p11, p12⟩ := X1.six
  obtain ⟨q1, q2, q3, q4, q5, q6, q7, q8, q9, q10, q11, q12⟩ := X2.six
  have X3 := Bx.new w1 88 #[.bool (neg (dm (x))), .string (mag (dm (x))), .int .i64 (de (x)), .bool (neg (dm (y))), .string (mag (dm (y))), .int .i64 (de (y))]
  replace X1 := X1.alloc (.cells #[.bool (neg (dm (x))), .string (mag (dm (x))), .int .i64 (de (x)), .bool (neg (dm (y))), .string (mag (dm (y))), .int .i64 (de (y))] 88)
  replace X2 := X2.alloc (.cells #[.bool (neg (dm (x))), .string (mag (dm (x))), .int .i64 (de (x)), .bool (neg (dm (y))), .string (mag (dm (y))), .int .i64 (de (y))] 88)
  replace hB := nxtA hB (.cells #[.bool (neg (dm (x))), .string (mag (dm (x))), .int .i64 (de (x)), .bool (neg (dm (y))), .string (mag (dm (y))), .int .i64 (de (y))] 88)
  clear p1 p2 p3 p4 p5 p6 p7 p8 p9 p10 p11 p12 q1 q2 q3 q4 q5 q6 q7 q8 q9 q10 q11 q12
  obtain ⟨p1, p2, p3, p4, p5, p6, p7, p8, p9, p10, p11, p12⟩ := X1.six
  obtain ⟨q1, q2, q3, q4, q5, q6, q7, q8, q9, q10, q11, q12⟩ := X2.six
  obtain ⟨r1, r2, r3, r4, r5, r6, r7, r8, r9, r10, r11, r12⟩ := X3.six
  have HX := Lib.hid (And.intro X2 (And.intro X3 hB))
  clear X1 X2 X3 hB
  go_upto_region 2 with (fail)
  obtain ⟨X2, X3, hB⟩ := HX.out
  clear HX p1 p2 p3 p4 p5 p6 p7 p8 p9 p10 p11 p12 q1 q2 q3 q4 q5 q6 q7 q8 q9 q10 q11 q12 r1 r2 r3 r4 r5 r6 r7 r8 r9 r10 r11 r12
  generalize w1.alloc (.cells #[.bool (neg (dm (x))), .string (mag (dm (x))), .int .i64 (de (x)), .bool (neg (dm (y))), .string (mag (dm (y))), .int .i64 (de (y))] 88) = w2 at *
  generalize w1.heap.size = g5 at *
  refine wp_region_k [8, 9, 10, 11, 12, 13, 14, 15, 16, 17, 18] [.eq (.pointer (some ⟨g5, 0, none⟩)), .eq (.pointer (some ⟨g5, 0, none⟩)), .eq (.agg #[.bool (neg (dm (x))), .string (mag (dm (x))), .int .i64 (de (x))]), .eq (.int .i64 (p)), .eq (.agg #[.bool (neg (dm (x1))), .string (mag (dm (x1))), .int .i64 (de (x1))]), .eq (.pointer (some ⟨g5, 0, none⟩)), .eq (.pointer (some ⟨g5, 3, none⟩)), .eq (.agg #[.bool (neg (dm (y))), .string (mag (dm (y))), .int .i64 (de (y))]), .eq (.int .i64 (p)), .eq (.agg #[.bool (neg (dm (y1))), .string (mag (dm (y1))), .int .i64 (de (y1))]), .eq (.agg #[.bool (neg (dm (x1))), .string (mag (dm (x1))), .int .i64 (de (x1)), .bool (neg (dm (y1))), .string (mag (dm (y1))), .int .i64 (de (y1))])] 19 (by kernel_rfl) (by exact fun _ _ _ _ _ h => h) (by kernel_rfl) (by rfl) ?hop ?htail
  case hop =>
    intro A hA
    have hN : A.tmps.size = 19 := by rw [hA]; rfl
    have q5 : A.tmps.getD 5 undef = .pointer (some ⟨g5, 0, none⟩) := by rw [hA]; rfl
    have q1 : A.tmps.getD 1 undef = .int .i64 (p) := by rw [hA]; rfl
    clear hA
    refine ⟨?_, ?_, ?_, ?_, ?_, ?_, ?_, ?_, ?_, ?_, ?_, trivial⟩
    · refine kok hN fun u W ev ec ef E B hG hf => ?_
      exact k_val _ rfl rfl hG (by simp [go_sem, B 5 rfl rfl q5]) rfl
    · refine kok hN fun u W ev ec ef E B hG hf => ?_
      exact k_val _ rfl rfl hG (by simp [go_sem, E 8 0 rfl rfl (hf 0 rfl)]) rfl
    · refine kok hN fun u W ev ec ef E B hG hf => ?_
      exact k_val _ rfl rfl hG (by simp [go_sem, E 9 1 rfl rfl (hf 1 rfl), (X3.later hG).cel]) rfl
    · refine kok hN fun u W ev ec ef E B hG hf => ?_
      exact k_val _ rfl rfl hG (by simp [go_sem, B 1 rfl rfl q1]) rfl
    · refine kok hN fun u W ev ec ef E B hG hf => ?_
      exact k_cl rfl rfl (by simp [go_sem, ef, E 10 2 rfl rfl (hf 2 rfl), E 11 3 rfl rfl (hf 3 rfl)]) (cF.out W (tab_keep HT.out (nxt hB hG))) hG (fun _ _ => rfl)
    · refine kok hN fun u W ev ec ef E B hG hf => ?_
      exact k_val _ rfl rfl hG (by simp [go_sem, B 5 rfl rfl q5]) rfl
    · refine kok hN fun u W ev ec ef E B hG hf => ?_
      exact k_val _ rfl rfl hG (by simp [go_sem, E 13 5 rfl rfl (hf 5 rfl)]) rfl
    · refine kok hN fun u W ev ec ef E B hG hf => ?_
      exact k_val _ rfl rfl hG (by simp [go_sem, E 14 6 rfl rfl (hf 6 rfl), (X3.later hG).cel]) rfl
    · refine kok hN fun u W ev ec ef E B hG hf => ?_
      exact k_val _ rfl rfl hG (by simp [go_sem, B 1 rfl rfl q1]) rfl
    · refine kok hN fun u W ev ec ef E B hG hf => ?_
      exact k_cl rfl rfl (by simp [go_sem, ef, E 15 7 rfl rfl (hf 7 rfl), E 16 8 rfl rfl (hf 8 rfl)]) (cC.out W (tab_keep HT.out (nxt hB hG))) hG (fun _ _ => rfl)
    · refine kok hN fun u W ev ec ef E B hG hf => ?_
      exact k_val _ rfl rfl hG (by simp [go_sem, E 12 4 rfl rfl (hf 4 rfl), E 17 9 rfl rfl (hf 9 rfl)]) rfl
  case htail =>
    intro u w' hG hP hD
    have f18 : u 10 = .agg #[.bool (neg (dm (x1))), .string (mag (dm (x1))), .int .i64 (de (x1)), .bool (neg (dm (y1))), .string (mag (dm (y1))), .int .i64 (de (y1))] := hP 10 (by decide)
    simp only [putAll, Act.put, List.setIfInBounds_toArray, List.set_cons_zero, List.set_cons_succ, List.length_cons, List.length_nil, Nat.reduceAdd, List.drop_succ_cons, List.drop_zero, f18]
    have hB := Lib.hid (nxt hB hG)
    replace X2 := X2.later hG
    have HX := Lib.hid X2
    obtain ⟨q1, q2, q3, q4, q5, q6, q7, q8, q9, q10, q11, q12⟩ := X2.six
    clear X2 X3 hP hD hG f18
    go_wp2_with fail
    exact bodyPost_ret (v := .agg #[.bool (neg (dm (x1))), .string (mag (dm (x1))), .int .i64 (de (x1)), .bool (neg (dm (y1))), .string (mag (dm (y1))), .int .i64 (de (y1))]) (by simp [results, Tryz.results28, go_sem, (HX.out.set6 _ _ _ _ _ _).cel]) rfl ⟨rfl, st6 hB.out (Nat.le_add_right _ 1) _ _ _ _ _ _⟩

theorem sOut_any {b c : Bool} {s t : ByteArray} {e f : Int} {x y : Dyadic} {L T0 : Nat} (p : Int) (w : World) (n1 : ND b s e x) (n2 : ND c t f y) (d1 : DB L T0 x) (d2 : DB L T0 y) (hLT : L + T0 ≤ 4000000) (hp1 : -1000000000 ≤ p) (hp2 : p ≤ 1000000000) (hT : TabAt 0 Lib.deBruijn64tab w) :
    Calls Tryz.prog 28 #[.agg #[.bool b, .string s, .int .i64 e, .bool c, .string t, .int .i64 f], .int .i64 p] w fun r w' => r = .returned (.agg #[.bool (neg (dm ((dmin x y).roundDown p))), .string (mag (dm ((dmin x y).roundDown p))), .int .i64 (de ((dmin x y).roundDown p)), .bool (neg (dm ((dmax x y).roundUp p))), .string (mag (dm ((dmax x y).roundUp p))), .int .i64 (de ((dmax x y).roundUp p))]) ∧ Below w.heap.size w w' := by
  exact sOut_x s t b c e f p _ _ _ _ w hT (Lib.hid fun W h => sof_any W n1 n2 h) (Lib.hid fun W h => dFloor_any p W (nd_db (db_dmin d1 d2) hLT) hp1 hp2 h) (Lib.hid fun W h => dCeil_any p W (nd_db (db_dmax d1 d2) hLT) (db_dmax d1 d2) hLT hp1 hp2 h)

end Go.Proofs.YtchfglbkiebfpaaGreatDoor

namespace Go.Proofs.YtchfglbkiebfpaaGreatDoor
open Go.RowKit

set_option maxRecDepth 100000 in
set_option maxHeartbeats 1000000 in
theorem sBelow_up (x y z : Dyadic) (p n n0 g q r0 m1 : Int) (w : World) (hw1 : IntKind.i64.wrap (de x - de y) = n0) (hw2 : IntKind.i64.wrap (n0 + p) = n) (hw3 : IntKind.i64.wrap (-p) = -p) (hn : 0 ≤ n) (hg : 0 ≤ g) (hT : TabAt 0 Lib.deBruijn64tab w)
    (cH : Hid (∀ W : World, TabAt 0 Lib.deBruijn64tab W → Calls Tryz.prog 122 #[.agg #[.bool (neg (dm (x))), .string (mag (dm (x)))], .int .i64 n] W fun r w' => r = .returned (.agg #[.bool (neg (m1)), .string (mag (m1))]) ∧ Below W.heap.size W w'))
    (cS : Hid (∀ W : World, Calls Tryz.prog 106 #[.agg #[.bool (neg (dm (y))), .string (mag (dm (y)))]] W fun r w' => r = .returned (.int .i64 g) ∧ Below W.heap.size W w'))
    (cD : Hid (∀ W : World, Calls Tryz.prog 123 #[.agg #[.bool (neg (m1)), .string (mag (m1))], .agg #[.bool (neg (dm (y))), .string (mag (dm (y)))]] W fun r w' => r = .returned (.tuple #[.agg #[.bool (neg (q)), .string (mag (q))], .agg #[.bool (neg (r0)), .string (mag (r0))], .bool true]) ∧ Below W.heap.size W w'))
    (cM : Hid (∀ W : World, TabAt 0 Lib.deBruijn64tab W → Calls Tryz.prog 101 #[.agg #[.bool (neg (q)), .string (mag (q))], .int .i64 (-p)] W fun r w' => r = .returned (.agg #[.bool (neg (dm (z))), .string (mag (dm (z))), .int .i64 (de (z))]) ∧ Below W.heap.size W w'))
    :
    Calls Tryz.prog 80 #[.agg #[.bool (neg (dm (x))), .string (mag (dm (x))), .int .i64 (de (x))], .agg #[.bool (neg (dm (y))), .string (mag (dm (y))), .int .i64 (de (y))], .int .i64 p] w fun r w' => r = .returned (.agg #[.bool (neg (dm (z))), .string (mag (dm (z))), .int .i64 (de (z))]) ∧ Below w.heap.size w w' := by
  have HT := Lib.hid hT
  clear hT
  go_enter Tryz.func80, Tryz.ntmps80
  go_upto_region 1 with (fail)
  have X1 := ((Bx.new w 25 #[.bool (neg (dm (x))), .string (mag (dm (x))), .int .i64 (de (x))]).alloc (.cells #[.bool (neg (dm (y))), .string (mag (dm (y))), .int .i64 (de (y))] 25)).alloc (.cells #[.bool false, .string ⟨#[]⟩, .int .i64 0] 25)
  have X2 := (Bx.at1 w (.cells #[.bool (neg (dm (x))), .string (mag (dm (x))), .int .i64 (de (x))] 25) 25 #[.bool (neg (dm (y))), .string (mag (dm (y))), .int .i64 (de (y))]).alloc (.cells #[.bool false, .string ⟨#[]⟩, .int .i64 0] 25)
  have X3 := Bx.at2 w (.cells #[.bool (neg (dm (x))), .string (mag (dm (x))), .int .i64 (de (x))] 25) (.cells #[.bool (neg (dm (y))), .string (mag (dm (y))), .int .i64 (de (y))] 25) 25 #[.bool false, .string ⟨#[]⟩, .int .i64 0]
  have hB := b3 w (.cells #[.bool (neg (dm (x))), .string (mag (dm (x))), .int .i64 (de (x))] 25) (.cells #[.bool (neg (dm (y))), .string (mag (dm (y))), .int .i64 (de (y))] 25) (.cells #[.bool false, .string ⟨#[]⟩, .int .i64 0] 25)
  generalize ((w.alloc (.cells #[.bool (neg (dm (x))), .string (mag (dm (x))), .int .i64 (de (x))] 25)).alloc (.cells #[.bool (neg (dm (y))), .string (mag (dm (y))), .int .i64 (de (y))] 25)).alloc (.cells #[.bool false, .string ⟨#[]⟩, .int .i64 0] 25) = w0 at *
  have hl0 := X1.lt
  have hl1 := X2.lt
  have hl2 := X3.lt
  obtain ⟨p1, p2, p5, p3, p4, p6⟩ := X1.three
  obtain ⟨q1, q2, q5, q3, q4, q6⟩ := X2.three
  have HK := Lib.hid (And.intro X1 (And.intro X2 (And.intro X3 hB)))
  clear X1 X2 X3 hB
  go_upto_region 2 with (fail)
  obtain ⟨X1, X2, X3, hB⟩ := HK.out
  have hl3 := X3.lt
  go_cut [8, 9] (fun s8 s9 wx => ∃ g8 g9 : Nat, s8 = .pointer (some ⟨g8, 0, none⟩) ∧ s9 = .pointer (some ⟨g9, 0, none⟩) ∧ g8 ≠ g9 ∧ w.heap.size + 2 < g8 ∧ w.heap.size + 2 < g9 ∧ Bx wx g8 23 #[.bool (neg (dm (x))), .string (mag (dm (x)))] ∧ Bx wx g9 23 #[.bool (neg (dm (y))), .string (mag (dm (y)))] ∧ Bx wx (w.heap.size + 2) 25 #[.bool false, .string ⟨#[]⟩, .int .i64 0] ∧ Below w.heap.size w wx)
  case first =>
    go_region
    all_goals
      go_wp2_with fail
      go_meet
      first
        | exact ⟨_, _, rfl, rfl, by omega, by omega, by omega, (Bx.new w0 _ _).alloc _, Bx.at1 w0 _ _ _, (X3.alloc _).alloc _, (nxtA (nxtA hB _) _).drew⟩
        | exact ⟨_, _, rfl, rfl, by omega, by omega, by omega, Bx.at1 w0 _ _ _, (Bx.new w0 _ _).alloc _, (X3.alloc _).alloc _, (nxtA (nxtA hB _) _).drew⟩
  case rest =>
    clear HK p1 p2 p5 p3 p4 p6 q1 q2 q5 q3 q4 q6 X1 X2 X3 hB hl3
    obtain ⟨g8, g9, rfl, rfl, hne, n8', n9', Z8, Z9, Z3, hB⟩ := hcut
    have n8 : w.heap.size + 2 ≠ g8 := Nat.ne_of_lt n8'
    have n9 : w.heap.size + 2 ≠ g9 := Nat.ne_of_lt n9'
    have h8 : w.heap.size ≤ g8 := by omega
    have h9 : w.heap.size ≤ g9 := by omega
    have HE := Lib.hid (And.intro hne (And.intro n8 (And.intro n9 (And.intro h8 h9))))
    clear hne n8' n9' n8 n9 h8 h9
    obtain ⟨p1, p2, p3, p4⟩ := Z8.two
    obtain ⟨q1, q2, q3, q4⟩ := Z9.two
    go_wp2_with fail
    refine (cH.out _ (tab_keep HT.out hB)).mono ?_
    rintro e w3 ⟨rfl, hb⟩
    replace Z8 := Z8.later hb
    replace Z9 := Z9.later hb
    replace Z3 := Z3.later hb
    replace hB := nxt hB hb
    clear hb
    clear p1 p2 p3 p4 q1 q2 q3 q4
    obtain ⟨hne, n8, n9, h8, h9⟩ := HE.out
    obtain ⟨v1, v2, v3, v4⟩ := Z8.two
    replace Z8 := Z8.set2 (.bool (neg (m1))) (.string (mag (m1)))
    replace Z9 := Bx.far2 (i := 0) (j := 1) (Z9) (Ne.symm hne) (.bool (neg (m1))) (.string (mag (m1)))
    replace Z3 := Bx.far2 (i := 0) (j := 1) (Z3) n8 (.bool (neg (m1))) (.string (mag (m1)))
    replace hB := st2 hB h8 (.bool (neg (m1))) (.string (mag (m1)))
    obtain ⟨p1, p2, p3, p4⟩ := Z8.two
    obtain ⟨q1, q2, q3, q4⟩ := Z9.two
    have HK := Lib.hid (And.intro Z8 (And.intro Z9 (And.intro Z3 hB)))
    clear Z8 Z9 Z3 hB
    clear hne n8 n9 h8 h9
    go_wp2_with fail
    obtain ⟨Z8, Z9, Z3, hB⟩ := HK.out
    clear HK
    clear p1 p2 p3 p4 q1 q2 q3 q4
    clear v1 v2 v3 v4
    generalize (w3.setCell ⟨g8, 0, none⟩ (.bool (neg (m1)))).setCell ⟨g8, 1, none⟩ (.string (mag (m1))) = w4 at *
    refine (cS.out _).mono ?_
    rintro e w5 ⟨rfl, hb⟩
    replace Z8 := Z8.later hb
    replace Z9 := Z9.later hb
    replace Z3 := Z3.later hb
    replace hB := nxt hB hb
    clear hb
    obtain ⟨p1, p2, p3, p4⟩ := Z8.two
    obtain ⟨q1, q2, q3, q4⟩ := Z9.two
    clear p3 p4 q3 q4
    go_wp2_with fail
    clear p1 p2 q1 q2
    refine (cD.out _).mono ?_
    rintro e w9 ⟨rfl, hb⟩
    replace Z3 := Z3.later hb
    replace hB := nxt hB hb
    clear hb Z8 Z9
    have X10 := (Bx.new w9 23 #[.bool (neg (q)), .string (mag (q))]).alloc (.cells #[.bool (neg (r0)), .string (mag (r0))] 23)
    replace Z3 := (Z3.alloc (.cells #[.bool (neg (q)), .string (mag (q))] 23)).alloc (.cells #[.bool (neg (r0)), .string (mag (r0))] 23)
    replace hB := nxtA (nxtA hB (.cells #[.bool (neg (q)), .string (mag (q))] 23)) (.cells #[.bool (neg (r0)), .string (mag (r0))] 23)
    obtain ⟨p1, p2, _, _⟩ := X10.two
    clear X10
    go_wp2_with fail
    refine (cM.out _ (tab_keep HT.out hB)).mono ?_
    rintro e w10 ⟨rfl, hb⟩
    replace Z3 := Z3.later hb
    replace hB := nxt hB hb
    clear hb p1 p2
    obtain ⟨t1, t2, t5, t3, t4, t6⟩ := Z3.three
    go_wp2_with fail
    exact bodyPost_ret (v := .agg #[.bool (neg (dm (z))), .string (mag (dm (z))), .int .i64 (de (z))]) (by simp [results, Tryz.results80, go_sem, (Z3.set3 _ _ _).cel]) rfl ⟨rfl, st3 hB (Nat.le_add_right _ 2) _ _ _⟩

set_option maxRecDepth 100000 in
set_option maxHeartbeats 1000000 in
theorem sBelow_upn (x y z : Dyadic) (p n n0 g q r0 m1 m2 d2 : Int) (w : World) (hw1 : IntKind.i64.wrap (de x - de y) = n0) (hw2 : IntKind.i64.wrap (n0 + p) = n) (hw3 : IntKind.i64.wrap (-p) = -p) (hn : 0 ≤ n) (hg : g < 0) (hT : TabAt 0 Lib.deBruijn64tab w)
    (cH : Hid (∀ W : World, TabAt 0 Lib.deBruijn64tab W → Calls Tryz.prog 122 #[.agg #[.bool (neg (dm (x))), .string (mag (dm (x)))], .int .i64 n] W fun r w' => r = .returned (.agg #[.bool (neg (m1)), .string (mag (m1))]) ∧ Below W.heap.size W w'))
    (cS : Hid (∀ W : World, Calls Tryz.prog 106 #[.agg #[.bool (neg (dm (y))), .string (mag (dm (y)))]] W fun r w' => r = .returned (.int .i64 g) ∧ Below W.heap.size W w'))
    (cN1 : Hid (∀ W : World, Calls Tryz.prog 117 #[.agg #[.bool (neg (m1)), .string (mag (m1))]] W fun r w' => r = .returned (.agg #[.bool (neg (m2)), .string (mag (m2))]) ∧ Below W.heap.size W w'))
    (cN2 : Hid (∀ W : World, Calls Tryz.prog 117 #[.agg #[.bool (neg (dm (y))), .string (mag (dm (y)))]] W fun r w' => r = .returned (.agg #[.bool (neg (d2)), .string (mag (d2))]) ∧ Below W.heap.size W w'))
    (cD : Hid (∀ W : World, Calls Tryz.prog 123 #[.agg #[.bool (neg (m2)), .string (mag (m2))], .agg #[.bool (neg (d2)), .string (mag (d2))]] W fun r w' => r = .returned (.tuple #[.agg #[.bool (neg (q)), .string (mag (q))], .agg #[.bool (neg (r0)), .string (mag (r0))], .bool true]) ∧ Below W.heap.size W w'))
    (cM : Hid (∀ W : World, TabAt 0 Lib.deBruijn64tab W → Calls Tryz.prog 101 #[.agg #[.bool (neg (q)), .string (mag (q))], .int .i64 (-p)] W fun r w' => r = .returned (.agg #[.bool (neg (dm (z))), .string (mag (dm (z))), .int .i64 (de (z))]) ∧ Below W.heap.size W w'))
    :
    Calls Tryz.prog 80 #[.agg #[.bool (neg (dm (x))), .string (mag (dm (x))), .int .i64 (de (x))], .agg #[.bool (neg (dm (y))), .string (mag (dm (y))), .int .i64 (de (y))], .int .i64 p] w fun r w' => r = .returned (.agg #[.bool (neg (dm (z))), .string (mag (dm (z))), .int .i64 (de (z))]) ∧ Below w.heap.size w w' := by
  have HT := Lib.hid hT
  clear hT
  go_enter Tryz.func80, Tryz.ntmps80
  go_upto_region 1 with (fail)
  have X1 := ((Bx.new w 25 #[.bool (neg (dm (x))), .string (mag (dm (x))), .int .i64 (de (x))]).alloc (.cells #[.bool (neg (dm (y))), .string (mag (dm (y))), .int .i64 (de (y))] 25)).alloc (.cells #[.bool false, .string ⟨#[]⟩, .int .i64 0] 25)
  have X2 := (Bx.at1 w (.cells #[.bool (neg (dm (x))), .string (mag (dm (x))), .int .i64 (de (x))] 25) 25 #[.bool (neg (dm (y))), .string (mag (dm (y))), .int .i64 (de (y))]).alloc (.cells #[.bool false, .string ⟨#[]⟩, .int .i64 0] 25)
  have X3 := Bx.at2 w (.cells #[.bool (neg (dm (x))), .string (mag (dm (x))), .int .i64 (de (x))] 25) (.cells #[.bool (neg (dm (y))), .string (mag (dm (y))), .int .i64 (de (y))] 25) 25 #[.bool false, .string ⟨#[]⟩, .int .i64 0]
  have hB := b3 w (.cells #[.bool (neg (dm (x))), .string (mag (dm (x))), .int .i64 (de (x))] 25) (.cells #[.bool (neg (dm (y))), .string (mag (dm (y))), .int .i64 (de (y))] 25) (.cells #[.bool false, .string ⟨#[]⟩, .int .i64 0] 25)
  generalize ((w.alloc (.cells #[.bool (neg (dm (x))), .string (mag (dm (x))), .int .i64 (de (x))] 25)).alloc (.cells #[.bool (neg (dm (y))), .string (mag (dm (y))), .int .i64 (de (y))] 25)).alloc (.cells #[.bool false, .string ⟨#[]⟩, .int .i64 0] 25) = w0 at *
  have hl0 := X1.lt
  have hl1 := X2.lt
  have hl2 := X3.lt
  obtain ⟨p1, p2, p5, p3, p4, p6⟩ := X1.three
  obtain ⟨q1, q2, q5, q3, q4, q6⟩ := X2.three
  have HK := Lib.hid (And.intro X1 (And.intro X2 (And.intro X3 hB)))
  clear X1 X2 X3 hB
  go_upto_region 2 with (fail)
  obtain ⟨X1, X2, X3, hB⟩ := HK.out
  have hl3 := X3.lt
  go_cut [8, 9] (fun s8 s9 wx => ∃ g8 g9 : Nat, s8 = .pointer (some ⟨g8, 0, none⟩) ∧ s9 = .pointer (some ⟨g9, 0, none⟩) ∧ g8 ≠ g9 ∧ w.heap.size + 2 < g8 ∧ w.heap.size + 2 < g9 ∧ Bx wx g8 23 #[.bool (neg (dm (x))), .string (mag (dm (x)))] ∧ Bx wx g9 23 #[.bool (neg (dm (y))), .string (mag (dm (y)))] ∧ Bx wx (w.heap.size + 2) 25 #[.bool false, .string ⟨#[]⟩, .int .i64 0] ∧ Below w.heap.size w wx)
  case first =>
    go_region
    all_goals
      go_wp2_with fail
      go_meet
      first
        | exact ⟨_, _, rfl, rfl, by omega, by omega, by omega, (Bx.new w0 _ _).alloc _, Bx.at1 w0 _ _ _, (X3.alloc _).alloc _, (nxtA (nxtA hB _) _).drew⟩
        | exact ⟨_, _, rfl, rfl, by omega, by omega, by omega, Bx.at1 w0 _ _ _, (Bx.new w0 _ _).alloc _, (X3.alloc _).alloc _, (nxtA (nxtA hB _) _).drew⟩
  case rest =>
    clear HK p1 p2 p5 p3 p4 p6 q1 q2 q5 q3 q4 q6 X1 X2 X3 hB hl3
    obtain ⟨g8, g9, rfl, rfl, hne, n8', n9', Z8, Z9, Z3, hB⟩ := hcut
    have n8 : w.heap.size + 2 ≠ g8 := Nat.ne_of_lt n8'
    have n9 : w.heap.size + 2 ≠ g9 := Nat.ne_of_lt n9'
    have h8 : w.heap.size ≤ g8 := by omega
    have h9 : w.heap.size ≤ g9 := by omega
    have HE := Lib.hid (And.intro hne (And.intro n8 (And.intro n9 (And.intro h8 h9))))
    clear hne n8' n9' n8 n9 h8 h9
    obtain ⟨p1, p2, p3, p4⟩ := Z8.two
    obtain ⟨q1, q2, q3, q4⟩ := Z9.two
    go_wp2_with fail
    refine (cH.out _ (tab_keep HT.out hB)).mono ?_
    rintro e w3 ⟨rfl, hb⟩
    replace Z8 := Z8.later hb
    replace Z9 := Z9.later hb
    replace Z3 := Z3.later hb
    replace hB := nxt hB hb
    clear hb
    clear p1 p2 p3 p4 q1 q2 q3 q4
    obtain ⟨hne, n8, n9, h8, h9⟩ := HE.out
    obtain ⟨v1, v2, v3, v4⟩ := Z8.two
    replace Z8 := Z8.set2 (.bool (neg (m1))) (.string (mag (m1)))
    replace Z9 := Bx.far2 (i := 0) (j := 1) (Z9) (Ne.symm hne) (.bool (neg (m1))) (.string (mag (m1)))
    replace Z3 := Bx.far2 (i := 0) (j := 1) (Z3) n8 (.bool (neg (m1))) (.string (mag (m1)))
    replace hB := st2 hB h8 (.bool (neg (m1))) (.string (mag (m1)))
    obtain ⟨p1, p2, p3, p4⟩ := Z8.two
    obtain ⟨q1, q2, q3, q4⟩ := Z9.two
    have HK := Lib.hid (And.intro Z8 (And.intro Z9 (And.intro Z3 hB)))
    clear Z8 Z9 Z3 hB
    clear hne n8 n9 h8 h9
    go_wp2_with fail
    obtain ⟨Z8, Z9, Z3, hB⟩ := HK.out
    clear HK
    clear p1 p2 p3 p4 q1 q2 q3 q4
    clear v1 v2 v3 v4
    generalize (w3.setCell ⟨g8, 0, none⟩ (.bool (neg (m1)))).setCell ⟨g8, 1, none⟩ (.string (mag (m1))) = w4 at *
    refine (cS.out _).mono ?_
    rintro e w5 ⟨rfl, hb⟩
    replace Z8 := Z8.later hb
    replace Z9 := Z9.later hb
    replace Z3 := Z3.later hb
    replace hB := nxt hB hb
    clear hb
    obtain ⟨p1, p2, p3, p4⟩ := Z8.two
    obtain ⟨q1, q2, q3, q4⟩ := Z9.two
    have HK := Lib.hid (And.intro Z8 (And.intro Z9 (And.intro Z3 hB)))
    clear Z8 Z9 Z3 hB
    go_upto_region 7 with (fail)
    obtain ⟨Z8, Z9, Z3, hB⟩ := HK.out
    clear HK
    clear p1 p2 p3 p4 q1 q2 q3 q4
    refine wp_region_k [36, 37, 38, 39] [.eq (.agg #[.bool (neg (m1)), .string (mag (m1))]), .eq (.agg #[.bool (neg (m2)), .string (mag (m2))]), .eq (.agg #[.bool (neg (dm (y))), .string (mag (dm (y)))]), .eq (.agg #[.bool (neg (d2)), .string (mag (d2))])] 51 (by kernel_rfl) (by exact fun _ _ _ _ _ h => h) (by kernel_rfl) (by rfl) ?hop ?htail
    case hop =>
      intro A hA
      have hN : A.tmps.size = 51 := by rw [hA]; rfl
      have q8 : A.tmps.getD 8 undef = .pointer (some ⟨g8, 0, none⟩) := by rw [hA]; rfl
      have q9 : A.tmps.getD 9 undef = .pointer (some ⟨g9, 0, none⟩) := by rw [hA]; rfl
      clear hA
      refine ⟨?_, ?_, ?_, ?_, trivial⟩
      · refine kok hN fun u W ev ec ef E B hG hf => ?_
        exact k_val _ rfl rfl hG (by simp [go_sem, B 8 rfl rfl q8, (Z8.later hG).cel]) rfl
      · refine kok hN fun u W ev ec ef E B hG hf => ?_
        exact k_cl rfl rfl (by simp [go_sem, ef, E 36 0 rfl rfl (hf 0 rfl)]) (cN1.out W) hG (fun _ _ => rfl)
      · refine kok hN fun u W ev ec ef E B hG hf => ?_
        exact k_val _ rfl rfl hG (by simp [go_sem, B 9 rfl rfl q9, (Z9.later hG).cel]) rfl
      · refine kok hN fun u W ev ec ef E B hG hf => ?_
        exact k_cl rfl rfl (by simp [go_sem, ef, E 38 2 rfl rfl (hf 2 rfl)]) (cN2.out W) hG (fun _ _ => rfl)
    case htail =>
      intro u w6 hG hP hD
      have f37 : u 1 = .agg #[.bool (neg (m2)), .string (mag (m2))] := hP 1 (by decide)
      have f39 : u 3 = .agg #[.bool (neg (d2)), .string (mag (d2))] := hP 3 (by decide)
      simp only [putAll, Act.put, List.setIfInBounds_toArray, List.set_cons_zero, List.set_cons_succ, List.length_cons, List.length_nil, Nat.reduceAdd, List.drop_succ_cons, List.drop_zero, f37, f39]
      obtain ⟨hne, n8, n9, h8, h9⟩ := HE.out
      replace Z8 := Z8.later hG
      replace Z9 := Z9.later hG
      replace Z3 := Z3.later hG
      replace hB := nxt hB hG
      obtain ⟨v1, v2, v3, v4⟩ := Z8.two
      have Y9 := Bx.far2 (i := 0) (j := 1) (Z9) (Ne.symm hne) (.bool (neg (m2))) (.string (mag (m2)))
      obtain ⟨t1, t2, t3, t4⟩ := Y9.two
      replace Z8 := Bx.far2 (i := 0) (j := 1) (Z8.set2 (.bool (neg (m2))) (.string (mag (m2)))) hne (.bool (neg (d2))) (.string (mag (d2)))
      replace Z9 := Y9.set2 (.bool (neg (d2))) (.string (mag (d2)))
      replace Z3 := Bx.far2 (i := 0) (j := 1) (Bx.far2 (i := 0) (j := 1) (Z3) n8 (.bool (neg (m2))) (.string (mag (m2)))) n9 (.bool (neg (d2))) (.string (mag (d2)))
      replace hB := st2 (st2 hB h8 (.bool (neg (m2))) (.string (mag (m2)))) h9 (.bool (neg (d2))) (.string (mag (d2)))
      obtain ⟨p1, p2, p3, p4⟩ := Z8.two
      obtain ⟨q1, q2, q3, q4⟩ := Z9.two
      have HK := Lib.hid (And.intro Z8 (And.intro Z9 (And.intro Z3 hB)))
      clear Z8 Z9 Z3 hB
      clear hne n8 n9 h8 h9 hP hD hG f37 f39 Y9
      go_wp2_with fail
      obtain ⟨Z8, Z9, Z3, hB⟩ := HK.out
      clear HK
      clear p1 p2 p3 p4 q1 q2 q3 q4
      clear v1 v2 v3 v4 t1 t2 t3 t4
      generalize (((w6.setCell ⟨g8, 0, none⟩ (.bool (neg (m2)))).setCell ⟨g8, 1, none⟩ (.string (mag (m2)))).setCell ⟨g9, 0, none⟩ (.bool (neg (d2)))).setCell ⟨g9, 1, none⟩ (.string (mag (d2))) = w8 at *
      refine (cD.out _).mono ?_
      rintro e w9 ⟨rfl, hb⟩
      replace Z3 := Z3.later hb
      replace hB := nxt hB hb
      clear hb Z8 Z9
      have X10 := (Bx.new w9 23 #[.bool (neg (q)), .string (mag (q))]).alloc (.cells #[.bool (neg (r0)), .string (mag (r0))] 23)
      replace Z3 := (Z3.alloc (.cells #[.bool (neg (q)), .string (mag (q))] 23)).alloc (.cells #[.bool (neg (r0)), .string (mag (r0))] 23)
      replace hB := nxtA (nxtA hB (.cells #[.bool (neg (q)), .string (mag (q))] 23)) (.cells #[.bool (neg (r0)), .string (mag (r0))] 23)
      obtain ⟨p1, p2, _, _⟩ := X10.two
      clear X10
      go_wp2_with fail
      refine (cM.out _ (tab_keep HT.out hB)).mono ?_
      rintro e w10 ⟨rfl, hb⟩
      replace Z3 := Z3.later hb
      replace hB := nxt hB hb
      clear hb p1 p2
      obtain ⟨t1, t2, t5, t3, t4, t6⟩ := Z3.three
      go_wp2_with fail
      exact bodyPost_ret (v := .agg #[.bool (neg (dm (z))), .string (mag (dm (z))), .int .i64 (de (z))]) (by simp [results, Tryz.results80, go_sem, (Z3.set3 _ _ _).cel]) rfl ⟨rfl, st3 hB (Nat.le_add_right _ 2) _ _ _⟩

set_option maxRecDepth 100000 in
set_option maxHeartbeats 1000000 in
theorem sBelow_dn (x y z : Dyadic) (p n n0 g q r0 d1 : Int) (w : World) (hw1 : IntKind.i64.wrap (de x - de y) = n0) (hw2 : IntKind.i64.wrap (n0 + p) = n) (hw3 : IntKind.i64.wrap (-p) = -p) (hw4 : IntKind.i64.wrap (-n) = -n) (hn : n < 0) (hg : 0 ≤ g) (hT : TabAt 0 Lib.deBruijn64tab w)
    (cH : Hid (∀ W : World, TabAt 0 Lib.deBruijn64tab W → Calls Tryz.prog 122 #[.agg #[.bool (neg (dm (y))), .string (mag (dm (y)))], .int .i64 (-n)] W fun r w' => r = .returned (.agg #[.bool (neg (d1)), .string (mag (d1))]) ∧ Below W.heap.size W w'))
    (cS : Hid (∀ W : World, Calls Tryz.prog 106 #[.agg #[.bool (neg (d1)), .string (mag (d1))]] W fun r w' => r = .returned (.int .i64 g) ∧ Below W.heap.size W w'))
    (cD : Hid (∀ W : World, Calls Tryz.prog 123 #[.agg #[.bool (neg (dm (x))), .string (mag (dm (x)))], .agg #[.bool (neg (d1)), .string (mag (d1))]] W fun r w' => r = .returned (.tuple #[.agg #[.bool (neg (q)), .string (mag (q))], .agg #[.bool (neg (r0)), .string (mag (r0))], .bool true]) ∧ Below W.heap.size W w'))
    (cM : Hid (∀ W : World, TabAt 0 Lib.deBruijn64tab W → Calls Tryz.prog 101 #[.agg #[.bool (neg (q)), .string (mag (q))], .int .i64 (-p)] W fun r w' => r = .returned (.agg #[.bool (neg (dm (z))), .string (mag (dm (z))), .int .i64 (de (z))]) ∧ Below W.heap.size W w'))
    :
    Calls Tryz.prog 80 #[.agg #[.bool (neg (dm (x))), .string (mag (dm (x))), .int .i64 (de (x))], .agg #[.bool (neg (dm (y))), .string (mag (dm (y))), .int .i64 (de (y))], .int .i64 p] w fun r w' => r = .returned (.agg #[.bool (neg (dm (z))), .string (mag (dm (z))), .int .i64 (de (z))]) ∧ Below w.heap.size w w' := by
  have HT := Lib.hid hT
  clear hT
  go_enter Tryz.func80, Tryz.ntmps80
  go_upto_region 1 with (fail)
  have X1 := ((Bx.new w 25 #[.bool (neg (dm (x))), .string (mag (dm (x))), .int .i64 (de (x))]).alloc (.cells #[.bool (neg (dm (y))), .string (mag (dm (y))), .int .i64 (de (y))] 25)).alloc (.cells #[.bool false, .string ⟨#[]⟩, .int .i64 0] 25)
  have X2 := (Bx.at1 w (.cells #[.bool (neg (dm (x))), .string (mag (dm (x))), .int .i64 (de (x))] 25) 25 #[.bool (neg (dm (y))), .string (mag (dm (y))), .int .i64 (de (y))]).alloc (.cells #[.bool false, .string ⟨#[]⟩, .int .i64 0] 25)
  have X3 := Bx.at2 w (.cells #[.bool (neg (dm (x))), .string (mag (dm (x))), .int .i64 (de (x))] 25) (.cells #[.bool (neg (dm (y))), .string (mag (dm (y))), .int .i64 (de (y))] 25) 25 #[.bool false, .string ⟨#[]⟩, .int .i64 0]
  have hB := b3 w (.cells #[.bool (neg (dm (x))), .string (mag (dm (x))), .int .i64 (de (x))] 25) (.cells #[.bool (neg (dm (y))), .string (mag (dm (y))), .int .i64 (de (y))] 25) (.cells #[.bool false, .string ⟨#[]⟩, .int .i64 0] 25)
  generalize ((w.alloc (.cells #[.bool (neg (dm (x))), .string (mag (dm (x))), .int .i64 (de (x))] 25)).alloc (.cells #[.bool (neg (dm (y))), .string (mag (dm (y))), .int .i64 (de (y))] 25)).alloc (.cells #[.bool false, .string ⟨#[]⟩, .int .i64 0] 25) = w0 at *
  have hl0 := X1.lt
  have hl1 := X2.lt
  have hl2 := X3.lt
  obtain ⟨p1, p2, p5, p3, p4, p6⟩ := X1.three
  obtain ⟨q1, q2, q5, q3, q4, q6⟩ := X2.three
  have HK := Lib.hid (And.intro X1 (And.intro X2 (And.intro X3 hB)))
  clear X1 X2 X3 hB
  go_upto_region 2 with (fail)
  obtain ⟨X1, X2, X3, hB⟩ := HK.out
  have hl3 := X3.lt
  go_cut [8, 9] (fun s8 s9 wx => ∃ g8 g9 : Nat, s8 = .pointer (some ⟨g8, 0, none⟩) ∧ s9 = .pointer (some ⟨g9, 0, none⟩) ∧ g8 ≠ g9 ∧ w.heap.size + 2 < g8 ∧ w.heap.size + 2 < g9 ∧ Bx wx g8 23 #[.bool (neg (dm (x))), .string (mag (dm (x)))] ∧ Bx wx g9 23 #[.bool (neg (dm (y))), .string (mag (dm (y)))] ∧ Bx wx (w.heap.size + 2) 25 #[.bool false, .string ⟨#[]⟩, .int .i64 0] ∧ Below w.heap.size w wx)
  case first =>
    go_region
    all_goals
      go_wp2_with fail
      go_meet
      first
        | exact ⟨_, _, rfl, rfl, by omega, by omega, by omega, (Bx.new w0 _ _).alloc _, Bx.at1 w0 _ _ _, (X3.alloc _).alloc _, (nxtA (nxtA hB _) _).drew⟩
        | exact ⟨_, _, rfl, rfl, by omega, by omega, by omega, Bx.at1 w0 _ _ _, (Bx.new w0 _ _).alloc _, (X3.alloc _).alloc _, (nxtA (nxtA hB _) _).drew⟩
  case rest =>
    clear HK p1 p2 p5 p3 p4 p6 q1 q2 q5 q3 q4 q6 X1 X2 X3 hB hl3
    obtain ⟨g8, g9, rfl, rfl, hne, n8', n9', Z8, Z9, Z3, hB⟩ := hcut
    have n8 : w.heap.size + 2 ≠ g8 := Nat.ne_of_lt n8'
    have n9 : w.heap.size + 2 ≠ g9 := Nat.ne_of_lt n9'
    have h8 : w.heap.size ≤ g8 := by omega
    have h9 : w.heap.size ≤ g9 := by omega
    have HE := Lib.hid (And.intro hne (And.intro n8 (And.intro n9 (And.intro h8 h9))))
    clear hne n8' n9' n8 n9 h8 h9
    obtain ⟨p1, p2, p3, p4⟩ := Z8.two
    obtain ⟨q1, q2, q3, q4⟩ := Z9.two
    go_wp2_with fail
    refine (cH.out _ (tab_keep HT.out hB)).mono ?_
    rintro e w3 ⟨rfl, hb⟩
    replace Z8 := Z8.later hb
    replace Z9 := Z9.later hb
    replace Z3 := Z3.later hb
    replace hB := nxt hB hb
    clear hb
    clear p1 p2 p3 p4 q1 q2 q3 q4
    obtain ⟨hne, n8, n9, h8, h9⟩ := HE.out
    obtain ⟨v1, v2, v3, v4⟩ := Z9.two
    replace Z9 := Z9.set2 (.bool (neg (d1))) (.string (mag (d1)))
    replace Z8 := Bx.far2 (i := 0) (j := 1) (Z8) hne (.bool (neg (d1))) (.string (mag (d1)))
    replace Z3 := Bx.far2 (i := 0) (j := 1) (Z3) n9 (.bool (neg (d1))) (.string (mag (d1)))
    replace hB := st2 hB h9 (.bool (neg (d1))) (.string (mag (d1)))
    obtain ⟨p1, p2, p3, p4⟩ := Z8.two
    obtain ⟨q1, q2, q3, q4⟩ := Z9.two
    have HK := Lib.hid (And.intro Z8 (And.intro Z9 (And.intro Z3 hB)))
    clear Z8 Z9 Z3 hB
    clear hne n8 n9 h8 h9
    go_wp2_with fail
    obtain ⟨Z8, Z9, Z3, hB⟩ := HK.out
    clear HK
    clear p1 p2 p3 p4 q1 q2 q3 q4
    clear v1 v2 v3 v4
    generalize (w3.setCell ⟨g9, 0, none⟩ (.bool (neg (d1)))).setCell ⟨g9, 1, none⟩ (.string (mag (d1))) = w4 at *
    refine (cS.out _).mono ?_
    rintro e w5 ⟨rfl, hb⟩
    replace Z8 := Z8.later hb
    replace Z9 := Z9.later hb
    replace Z3 := Z3.later hb
    replace hB := nxt hB hb
    clear hb
    obtain ⟨p1, p2, p3, p4⟩ := Z8.two
    obtain ⟨q1, q2, q3, q4⟩ := Z9.two
    clear p3 p4 q3 q4
    go_wp2_with fail
    clear p1 p2 q1 q2
    refine (cD.out _).mono ?_
    rintro e w9 ⟨rfl, hb⟩
    replace Z3 := Z3.later hb
    replace hB := nxt hB hb
    clear hb Z8 Z9
    have X10 := (Bx.new w9 23 #[.bool (neg (q)), .string (mag (q))]).alloc (.cells #[.bool (neg (r0)), .string (mag (r0))] 23)
    replace Z3 := (Z3.alloc (.cells #[.bool (neg (q)), .string (mag (q))] 23)).alloc (.cells #[.bool (neg (r0)), .string (mag (r0))] 23)
    replace hB := nxtA (nxtA hB (.cells #[.bool (neg (q)), .string (mag (q))] 23)) (.cells #[.bool (neg (r0)), .string (mag (r0))] 23)
    obtain ⟨p1, p2, _, _⟩ := X10.two
    clear X10
    go_wp2_with fail
    refine (cM.out _ (tab_keep HT.out hB)).mono ?_
    rintro e w10 ⟨rfl, hb⟩
    replace Z3 := Z3.later hb
    replace hB := nxt hB hb
    clear hb p1 p2
    obtain ⟨t1, t2, t5, t3, t4, t6⟩ := Z3.three
    go_wp2_with fail
    exact bodyPost_ret (v := .agg #[.bool (neg (dm (z))), .string (mag (dm (z))), .int .i64 (de (z))]) (by simp [results, Tryz.results80, go_sem, (Z3.set3 _ _ _).cel]) rfl ⟨rfl, st3 hB (Nat.le_add_right _ 2) _ _ _⟩

set_option maxRecDepth 100000 in
set_option maxHeartbeats 1000000 in
theorem sBelow_dnn (x y z : Dyadic) (p n n0 g q r0 d1 m2 d2 : Int) (w : World) (hw1 : IntKind.i64.wrap (de x - de y) = n0) (hw2 : IntKind.i64.wrap (n0 + p) = n) (hw3 : IntKind.i64.wrap (-p) = -p) (hw4 : IntKind.i64.wrap (-n) = -n) (hn : n < 0) (hg : g < 0) (hT : TabAt 0 Lib.deBruijn64tab w)
    (cH : Hid (∀ W : World, TabAt 0 Lib.deBruijn64tab W → Calls Tryz.prog 122 #[.agg #[.bool (neg (dm (y))), .string (mag (dm (y)))], .int .i64 (-n)] W fun r w' => r = .returned (.agg #[.bool (neg (d1)), .string (mag (d1))]) ∧ Below W.heap.size W w'))
    (cS : Hid (∀ W : World, Calls Tryz.prog 106 #[.agg #[.bool (neg (d1)), .string (mag (d1))]] W fun r w' => r = .returned (.int .i64 g) ∧ Below W.heap.size W w'))
    (cN1 : Hid (∀ W : World, Calls Tryz.prog 117 #[.agg #[.bool (neg (dm (x))), .string (mag (dm (x)))]] W fun r w' => r = .returned (.agg #[.bool (neg (m2)), .string (mag (m2))]) ∧ Below W.heap.size W w'))
    (cN2 : Hid (∀ W : World, Calls Tryz.prog 117 #[.agg #[.bool (neg (d1)), .string (mag (d1))]] W fun r w' => r = .returned (.agg #[.bool (neg (d2)), .string (mag (d2))]) ∧ Below W.heap.size W w'))
    (cD : Hid (∀ W : World, Calls Tryz.prog 123 #[.agg #[.bool (neg (m2)), .string (mag (m2))], .agg #[.bool (neg (d2)), .string (mag (d2))]] W fun r w' => r = .returned (.tuple #[.agg #[.bool (neg (q)), .string (mag (q))], .agg #[.bool (neg (r0)), .string (mag (r0))], .bool true]) ∧ Below W.heap.size W w'))
    (cM : Hid (∀ W : World, TabAt 0 Lib.deBruijn64tab W → Calls Tryz.prog 101 #[.agg #[.bool (neg (q)), .string (mag (q))], .int .i64 (-p)] W fun r w' => r = .returned (.agg #[.bool (neg (dm (z))), .string (mag (dm (z))), .int .i64 (de (z))]) ∧ Below W.heap.size W w'))
    :
    Calls Tryz.prog 80 #[.agg #[.bool (neg (dm (x))), .string (mag (dm (x))), .int .i64 (de (x))], .agg #[.bool (neg (dm (y))), .string (mag (dm (y))), .int .i64 (de (y))], .int .i64 p] w fun r w' => r = .returned (.agg #[.bool (neg (dm (z))), .string (mag (dm (z))), .int .i64 (de (z))]) ∧ Below w.heap.size w w' := by
  have HT := Lib.hid hT
  clear hT
  go_enter Tryz.func80, Tryz.ntmps80
  go_upto_region 1 with (fail)
  have X1 := ((Bx.new w 25 #[.bool (neg (dm (x))), .string (mag (dm (x))), .int .i64 (de (x))]).alloc (.cells #[.bool (neg (dm (y))), .string (mag (dm (y))), .int .i64 (de (y))] 25)).alloc (.cells #[.bool false, .string ⟨#[]⟩, .int .i64 0] 25)
  have X2 := (Bx.at1 w (.cells #[.bool (neg (dm (x))), .string (mag (dm (x))), .int .i64 (de (x))] 25) 25 #[.bool (neg (dm (y))), .string (mag (dm (y))), .int .i64 (de (y))]).alloc (.cells #[.bool false, .string ⟨#[]⟩, .int .i64 0] 25)
  have X3 := Bx.at2 w (.cells #[.bool (neg (dm (x))), .string (mag (dm (x))), .int .i64 (de (x))] 25) (.cells #[.bool (neg (dm (y))), .string (mag (dm (y))), .int .i64 (de (y))] 25) 25 #[.bool false, .string ⟨#[]⟩, .int .i64 0]
  have hB := b3 w (.cells #[.bool (neg (dm (x))), .string (mag (dm (x))), .int .i64 (de (x))] 25) (.cells #[.bool (neg (dm (y))), .string (mag (dm (y))), .int .i64 (de (y))] 25) (.cells #[.bool false, .string ⟨#[]⟩, .int .i64 0] 25)
  generalize ((w.alloc (.cells #[.bool (neg (dm (x))), .string (mag (dm (x))), .int .i64 (de (x))] 25)).alloc (.cells #[.bool (neg (dm (y))), .string (mag (dm (y))), .int .i64 (de (y))] 25)).alloc (.cells #[.bool false, .string ⟨#[]⟩, .int .i64 0] 25) = w0 at *
  have hl0 := X1.lt
  have hl1 := X2.lt
  have hl2 := X3.lt
  obtain ⟨p1, p2, p5, p3, p4, p6⟩ := X1.three
  obtain ⟨q1, q2, q5, q3, q4, q6⟩ := X2.three
  have HK := Lib.hid (And.intro X1 (And.intro X2 (And.intro X3 hB)))
  clear X1 X2 X3 hB
  go_upto_region 2 with (fail)
  obtain ⟨X1, X2, X3, hB⟩ := HK.out
  have hl3 := X3.lt
  go_cut [8, 9] (fun s8 s9 wx => ∃ g8 g9 : Nat, s8 = .pointer (some ⟨g8, 0, none⟩) ∧ s9 = .pointer (some ⟨g9, 0, none⟩) ∧ g8 ≠ g9 ∧ w.heap.size + 2 < g8 ∧ w.heap.size + 2 < g9 ∧ Bx wx g8 23 #[.bool (neg (dm (x))), .string (mag (dm (x)))] ∧ Bx wx g9 23 #[.bool (neg (dm (y))), .string (mag (dm (y)))] ∧ Bx wx (w.heap.size + 2) 25 #[.bool false, .string ⟨#[]⟩, .int .i64 0] ∧ Below w.heap.size w wx)
  case first =>
    go_region
    all_goals
      go_wp2_with fail
      go_meet
      first
        | exact ⟨_, _, rfl, rfl, by omega, by omega, by omega, (Bx.new w0 _ _).alloc _, Bx.at1 w0 _ _ _, (X3.alloc _).alloc _, (nxtA (nxtA hB _) _).drew⟩
        | exact ⟨_, _, rfl, rfl, by omega, by omega, by omega, Bx.at1 w0 _ _ _, (Bx.new w0 _ _).alloc _, (X3.alloc _).alloc _, (nxtA (nxtA hB _) _).drew⟩
  case rest =>
    clear HK p1 p2 p5 p3 p4 p6 q1 q2 q5 q3 q4 q6 X1 X2 X3 hB hl3
    obtain ⟨g8, g9, rfl, rfl, hne, n8', n9', Z8, Z9, Z3, hB⟩ := hcut
    have n8 : w.heap.size + 2 ≠ g8 := Nat.ne_of_lt n8'
    have n9 : w.heap.size + 2 ≠ g9 := Nat.ne_of_lt n9'
    have h8 : w.heap.size ≤ g8 := by omega
    have h9 : w.heap.size ≤ g9 := by omega
    have HE := Lib.hid (And.intro hne (And.intro n8 (And.intro n9 (And.intro h8 h9))))
    clear hne n8' n9' n8 n9 h8 h9
    obtain ⟨p1, p2, p3, p4⟩ := Z8.two
    obtain ⟨q1, q2, q3, q4⟩ := Z9.two
    go_wp2_with fail
    refine (cH.out _ (tab_keep HT.out hB)).mono ?_
    rintro e w3 ⟨rfl, hb⟩
    replace Z8 := Z8.later hb
    replace Z9 := Z9.later hb
    replace Z3 := Z3.later hb
    replace hB := nxt hB hb
    clear hb
    clear p1 p2 p3 p4 q1 q2 q3 q4
    obtain ⟨hne, n8, n9, h8, h9⟩ := HE.out
    obtain ⟨v1, v2, v3, v4⟩ := Z9.two
    replace Z9 := Z9.set2 (.bool (neg (d1))) (.string (mag (d1)))
    replace Z8 := Bx.far2 (i := 0) (j := 1) (Z8) hne (.bool (neg (d1))) (.string (mag (d1)))
    replace Z3 := Bx.far2 (i := 0) (j := 1) (Z3) n9 (.bool (neg (d1))) (.string (mag (d1)))
    replace hB := st2 hB h9 (.bool (neg (d1))) (.string (mag (d1)))
    obtain ⟨p1, p2, p3, p4⟩ := Z8.two
    obtain ⟨q1, q2, q3, q4⟩ := Z9.two
    have HK := Lib.hid (And.intro Z8 (And.intro Z9 (And.intro Z3 hB)))
    clear Z8 Z9 Z3 hB
    clear hne n8 n9 h8 h9
    go_wp2_with fail
    obtain ⟨Z8, Z9, Z3, hB⟩ := HK.out
    clear HK
    clear p1 p2 p3 p4 q1 q2 q3 q4
    clear v1 v2 v3 v4
    generalize (w3.setCell ⟨g9, 0, none⟩ (.bool (neg (d1)))).setCell ⟨g9, 1, none⟩ (.string (mag (d1))) = w4 at *
    refine (cS.out _).mono ?_
    rintro e w5 ⟨rfl, hb⟩
    replace Z8 := Z8.later hb
    replace Z9 := Z9.later hb
    replace Z3 := Z3.later hb
    replace hB := nxt hB hb
    clear hb
    obtain ⟨p1, p2, p3, p4⟩ := Z8.two
    obtain ⟨q1, q2, q3, q4⟩ := Z9.two
    have HK := Lib.hid (And.intro Z8 (And.intro Z9 (And.intro Z3 hB)))
    clear Z8 Z9 Z3 hB
    go_upto_region 7 with (fail)
    obtain ⟨Z8, Z9, Z3, hB⟩ := HK.out
    clear HK
    clear p1 p2 p3 p4 q1 q2 q3 q4
    refine wp_region_k [36, 37, 38, 39] [.eq (.agg #[.bool (neg (dm (x))), .string (mag (dm (x)))]), .eq (.agg #[.bool (neg (m2)), .string (mag (m2))]), .eq (.agg #[.bool (neg (d1)), .string (mag (d1))]), .eq (.agg #[.bool (neg (d2)), .string (mag (d2))])] 51 (by kernel_rfl) (by exact fun _ _ _ _ _ h => h) (by kernel_rfl) (by rfl) ?hop ?htail
    case hop =>
      intro A hA
      have hN : A.tmps.size = 51 := by rw [hA]; rfl
      have q8 : A.tmps.getD 8 undef = .pointer (some ⟨g8, 0, none⟩) := by rw [hA]; rfl
      have q9 : A.tmps.getD 9 undef = .pointer (some ⟨g9, 0, none⟩) := by rw [hA]; rfl
      clear hA
      refine ⟨?_, ?_, ?_, ?_, trivial⟩
      · refine kok hN fun u W ev ec ef E B hG hf => ?_
        exact k_val _ rfl rfl hG (by simp [go_sem, B 8 rfl rfl q8, (Z8.later hG).cel]) rfl
      · refine kok hN fun u W ev ec ef E B hG hf => ?_
        exact k_cl rfl rfl (by simp [go_sem, ef, E 36 0 rfl rfl (hf 0 rfl)]) (cN1.out W) hG (fun _ _ => rfl)
      · refine kok hN fun u W ev ec ef E B hG hf => ?_
        exact k_val _ rfl rfl hG (by simp [go_sem, B 9 rfl rfl q9, (Z9.later hG).cel]) rfl
      · refine kok hN fun u W ev ec ef E B hG hf => ?_
        exact k_cl rfl rfl (by simp [go_sem, ef, E 38 2 rfl rfl (hf 2 rfl)]) (cN2.out W) hG (fun _ _ => rfl)
    case htail =>
      intro u w6 hG hP hD
      have f37 : u 1 = .agg #[.bool (neg (m2)), .string (mag (m2))] := hP 1 (by decide)
      have f39 : u 3 = .agg #[.bool (neg (d2)), .string (mag (d2))] := hP 3 (by decide)
      simp only [putAll, Act.put, List.setIfInBounds_toArray, List.set_cons_zero, List.set_cons_succ, List.length_cons, List.length_nil, Nat.reduceAdd, List.drop_succ_cons, List.drop_zero, f37, f39]
      obtain ⟨hne, n8, n9, h8, h9⟩ := HE.out
      replace Z8 := Z8.later hG
      replace Z9 := Z9.later hG
      replace Z3 := Z3.later hG
      replace hB := nxt hB hG
      obtain ⟨v1, v2, v3, v4⟩ := Z8.two
      have Y9 := Bx.far2 (i := 0) (j := 1) (Z9) (Ne.symm hne) (.bool (neg (m2))) (.string (mag (m2)))
      obtain ⟨t1, t2, t3, t4⟩ := Y9.two
      replace Z8 := Bx.far2 (i := 0) (j := 1) (Z8.set2 (.bool (neg (m2))) (.string (mag (m2)))) hne (.bool (neg (d2))) (.string (mag (d2)))
      replace Z9 := Y9.set2 (.bool (neg (d2))) (.string (mag (d2)))
      replace Z3 := Bx.far2 (i := 0) (j := 1) (Bx.far2 (i := 0) (j := 1) (Z3) n8 (.bool (neg (m2))) (.string (mag (m2)))) n9 (.bool (neg (d2))) (.string (mag (d2)))
      replace hB := st2 (st2 hB h8 (.bool (neg (m2))) (.string (mag (m2)))) h9 (.bool (neg (d2))) (.string (mag (d2)))
      obtain ⟨p1, p2, p3, p4⟩ := Z8.two
      obtain ⟨q1, q2, q3, q4⟩ := Z9.two
      have HK := Lib.hid (And.intro Z8 (And.intro Z9 (And.intro Z3 hB)))
      clear Z8 Z9 Z3 hB
      clear hne n8 n9 h8 h9 hP hD hG f37 f39 Y9
      go_wp2_with fail
      obtain ⟨Z8, Z9, Z3, hB⟩ := HK.out
      clear HK
      clear p1 p2 p3 p4 q1 q2 q3 q4
      clear v1 v2 v3 v4 t1 t2 t3 t4
      generalize (((w6.setCell ⟨g8, 0, none⟩ (.bool (neg (m2)))).setCell ⟨g8, 1, none⟩ (.string (mag (m2)))).setCell ⟨g9, 0, none⟩ (.bool (neg (d2)))).setCell ⟨g9, 1, none⟩ (.string (mag (d2))) = w8 at *
      refine (cD.out _).mono ?_
      rintro e w9 ⟨rfl, hb⟩
      replace Z3 := Z3.later hb
      replace hB := nxt hB hb
      clear hb Z8 Z9
      have X10 := (Bx.new w9 23 #[.bool (neg (q)), .string (mag (q))]).alloc (.cells #[.bool (neg (r0)), .string (mag (r0))] 23)
      replace Z3 := (Z3.alloc (.cells #[.bool (neg (q)), .string (mag (q))] 23)).alloc (.cells #[.bool (neg (r0)), .string (mag (r0))] 23)
      replace hB := nxtA (nxtA hB (.cells #[.bool (neg (q)), .string (mag (q))] 23)) (.cells #[.bool (neg (r0)), .string (mag (r0))] 23)
      obtain ⟨p1, p2, _, _⟩ := X10.two
      clear X10
      go_wp2_with fail
      refine (cM.out _ (tab_keep HT.out hB)).mono ?_
      rintro e w10 ⟨rfl, hb⟩
      replace Z3 := Z3.later hb
      replace hB := nxt hB hb
      clear hb p1 p2
      obtain ⟨t1, t2, t5, t3, t4, t6⟩ := Z3.three
      go_wp2_with fail
      exact bodyPost_ret (v := .agg #[.bool (neg (dm (z))), .string (mag (dm (z))), .int .i64 (de (z))]) (by simp [results, Tryz.results80, go_sem, (Z3.set3 _ _ _).cel]) rfl ⟨rfl, st3 hB (Nat.le_add_right _ 2) _ _ _⟩

end Go.Proofs.YtchfglbkiebfpaaGreatDoor

