/- The walks and plain laws beneath the statements. -/
import Derived.Test.YtkgogbmeehiloaaGreatDoorPK14
import Derived.RegionTactic
import Derived.Test.YtkgogbmeehiloaaGreatDoorPK25
import Derived.Test.YtkgogbmeehiloaaGreatDoorPK1
import Derived.Lib.ConvBytes
namespace Go.Proofs.YtkgogbmeehiloaaGreatDoor
open Go.RowKit

/-- An int64, if it is one. -/
def smallV (z : Int) : Value := if -9223372036854775808 ≤ z ∧ z ≤ 9223372036854775807 then .tuple #[.int .i64 z, .bool true] else .tuple #[.int .i64 0, .bool false]
/-- The first k bytes as a number. -/
def pre (s : ByteArray) (k : Nat) : Nat := bval (s.data.toList.take k)
theorem pre_succ (s : ByteArray) {k : Nat} (h : k < s.data.toList.length) : pre s (k + 1) = pre s k * 256 + (s.data.toList[k]).toNat := by
  unfold pre
  rw [List.take_succ_eq_append_getElem h, bval_snoc]
theorem pre_step (s : ByteArray) {k : Nat} (h : k < s.size) : pre s (k + 1) = pre s k * 256 + (s.data.toList.getD k 0).toNat := by
  have h' : k < s.data.toList.length := by simpa using h
  rw [pre_succ s h', List.getD, List.getElem?_eq_getElem h']; rfl
theorem pre_all (s : ByteArray) : pre s s.size = sval s := by
  unfold pre
  rw [List.take_of_length_le (by simp)]; rfl
theorem pre_lt (s : ByteArray) (k : Nat) : pre s k < 256 ^ k := by
  unfold pre
  exact Nat.lt_of_lt_of_le (bval_lt _) (Nat.pow_le_pow_right (by decide) (by simp; omega))
theorem or8 (p d : Nat) (hp : p < 72057594037927936) (hd : d < 256) : bits .or .u64 ((p : Int) * 256) (d : Int) = ((p * 256 + d : Nat) : Int) := by
  rw [show (p : Int) * 256 = ((p * 256 : Nat) : Int) by simp, or_u64 _ _ (by rw [LB_eq]; omega) (by rw [LB_eq]; omega)]
  have h := Nat.two_pow_add_eq_or_of_lt (i := 8) hd p
  rw [show 2 ^ 8 * p = p * 256 by omega] at h
  rw [← h]
theorem wrap_u (v : Nat) (hv : v < 18446744073709551616) : ∃ O : Int, IntKind.i64.wrap (v : Int) = O ∧ -9223372036854775808 ≤ O ∧ O ≤ 9223372036854775807 ∧ smallV (ival false v) = if O = ival false v then .tuple #[.int .i64 O, .bool true] else .tuple #[.int .i64 0, .bool false] := by
  have e : ival false v = (v : Int) := rfl
  rw [e]
  refine ⟨_, rfl, ?_⟩
  rw [IntKind.wrap_i64]
  unfold smallV
  generalize hO : ((v : Int) + 9223372036854775808) % 18446744073709551616 - 9223372036854775808 = O
  refine ⟨by omega, by omega, ?_⟩
  by_cases h : O = (v : Int)
  · rw [if_pos h, if_pos (by omega), h]
  · rw [if_neg h, if_neg (by omega)]
theorem wrap_n (v : Nat) (hv : v < 18446744073709551616) : ∃ O : Int, IntKind.i64.wrap (IntKind.u64.wrap (-(v : Int))) = O ∧ -9223372036854775808 ≤ O ∧ O ≤ 9223372036854775807 ∧ smallV (ival true v) = if O = ival true v then .tuple #[.int .i64 O, .bool true] else .tuple #[.int .i64 0, .bool false] := by
  have e : ival true v = -(v : Int) := rfl
  rw [e]
  refine ⟨_, rfl, ?_⟩
  rw [IntKind.wrap_u64, IntKind.wrap_i64]
  unfold smallV
  generalize hO : (-(v : Int) % 18446744073709551616 + 9223372036854775808) % 18446744073709551616 - 9223372036854775808 = O
  refine ⟨by omega, by omega, ?_⟩
  by_cases h : O = -(v : Int)
  · rw [if_pos h, if_pos (by omega), h]
  · rw [if_neg h, if_neg (by omega)]
theorem below_bytes (w : World) (e : TypeId) (s : ByteArray) : Below w.heap.size w (Lib.bytesWorld w e s) :=
  ⟨rfl, rfl, rfl, by rw [Lib.bytesWorld_size]; omega, fun j hj => Lib.bytesWorld_at_old w e s j hj⟩

set_option maxRecDepth 100000 in
set_option maxHeartbeats 400000 in
theorem wSmall_far (s : ByteArray) (b : Bool) (w : World) (hs : s.size ≤ 16777216) (hL : 64 < nd 1 (sval s)) :
    Calls Tryz.prog 53 #[.agg #[.bool b, .string s]] w fun e w' => e = .returned (.tuple #[.int .i64 0, .bool false]) ∧ Below w.heap.size w w' := by
  have cL := Lib.hid (fun W => nLen_any s W (by omega))
  generalize nd 1 (sval s) = N at *
  have hI : (64 : Int) < (N : Int) := by omega
  go_enter Tryz.func53, Tryz.ntmps53
  go_upto_region 1 with (fail)
  have X1 := Bx.new w 24 #[.bool b, .string s]
  have hB := b1 w (.cells #[.bool b, .string s] 24)
  generalize w.alloc (.cells #[.bool b, .string s] 24) = w0 at *
  have hl0 := X1.lt
  obtain ⟨p1, p2, _, _⟩ := X1.two
  go_wp2_with fail
  refine (cL.out _).mono ?_
  rintro e w1 ⟨rfl, hb⟩
  replace hB := nxt hB hb
  go_wp2_with fail
  exact bodyPost_ret (v := .tuple #[.int .i64 0, .bool false]) (by simp [results, Tryz.results53, go_sem]) rfl ⟨rfl, hB⟩

set_option maxRecDepth 100000 in
set_option maxHeartbeats 400000 in
theorem wSmall_false_yes (s : ByteArray) (O D : Int) (w : World) (hs : s.size ≤ 16777216) (hL : nd 1 (sval s) ≤ 64) (hO : IntKind.i64.wrap (sval s : Int) = O) (hD : D = 0)
    (cO : Hid (∀ W, Calls Tryz.prog 56 #[.int .i64 O] W fun e w' => e = .returned (.agg #[.bool (neg (O)), .string (mag (O))]) ∧ Below W.heap.size W w'))
    (cC : Hid (∀ W, Calls Tryz.prog 84 #[.agg #[.bool (neg (O)), .string (mag (O))], .agg #[.bool false, .string s]] W fun e w' => e = .returned (.int .i64 D) ∧ Below W.heap.size W w')) :
    Calls Tryz.prog 53 #[.agg #[.bool false, .string s]] w fun e w' => e = .returned (.tuple #[.int .i64 O, .bool true]) ∧ Below w.heap.size w w' := by
  have cL := Lib.hid (fun W => nLen_any s W (by omega))
  have cT := Lib.hid (fun W => nTrim_any s W)
  have hv : sval s < 18446744073709551616 := by
    have h1 := nd_lt (k := 1) (by decide) (sval s)
    exact Nat.lt_of_lt_of_le h1 (Nat.pow_le_pow_right (by decide) hL)
  have hz8 : (nstr (sval s)).size ≤ 8 := by
    rw [nstr_size]
    exact nd_le_of_lt (k := 8) (by decide) hv
  have hsv : sval (nstr (sval s)) = sval s := sval_nstr _
  have kc := fun W : World => Lib.run_convert_string_bytes (P := Tryz.prog) W 9 69 5 (nstr (sval s)) Tryz.underlying9 Tryz.underlying69 Tryz.underlying5
  generalize nd 1 (sval s) = N at *
  have hI : ¬ (64 : Int) < (N : Int) := by omega
  go_enter Tryz.func53, Tryz.ntmps53
  go_upto_region 1 with (fail)
  have X1 := Bx.new w 24 #[.bool false, .string s]
  have hB := b1 w (.cells #[.bool false, .string s] 24)
  generalize w.alloc (.cells #[.bool false, .string s] 24) = w0 at *
  have hl0 := X1.lt
  obtain ⟨p1, p2, _, _⟩ := X1.two
  go_wp2_with fail
  refine (cL.out _).mono ?_
  rintro e w1 ⟨rfl, hb⟩
  replace hB := nxt hB hb
  replace X1 := X1.later hb
  clear hb p1 p2
  obtain ⟨p1, p2, _, _⟩ := X1.two
  go_wp2_with fail
  refine (cT.out _).mono ?_
  rintro e w2 ⟨rfl, rfl⟩
  generalize hr : nstr (sval s) = r at *
  go_wp2_with fail
  replace X1 := X1.later (below_bytes w1 5 r)
  replace hB := nxt hB (below_bytes w1 5 r)
  have HC := Lib.hid (fun j (h : j < r.size) => Lib.bytesWorld_cell w1 5 r j h)
  clear kc p1 p2
  generalize Lib.bytesWorld w1 5 r = w2 at *
  generalize w1.heap.size = g at *
  generalize grownCap w1 r.size 0 5 = cap at *
  obtain ⟨p1, p2, _, _⟩ := X1.two
  go_loop [4, 17] (fun n i => ∃ k : Nat, k ≤ r.size ∧ n = .int .u64 (pre r k : Nat) ∧ i = .int .i64 (k : Nat)) (fun _ i => r.size - (intOf i).toNat)
  case atStart => exact ⟨0, Nat.zero_le _, rfl, rfl⟩
  case round =>
    obtain ⟨k, hk, rfl, rfl⟩ := hrel
    by_cases hlt : k < r.size
    · have c := HC.out k hlt
      have hst := Lib.hid (pre_step r hlt)
      have hp : pre r k < 72057594037927936 := Nat.lt_of_lt_of_le (pre_lt r k) (Nat.pow_le_pow_right (by decide) (by omega) : 256 ^ k ≤ 256 ^ 7)
      have hd : (r.data.toList.getD k 0).toNat < 256 := UInt8.toNat_lt _
      generalize (r.data.toList.getD k 0).toNat = d at *
      generalize pre r k = p at *
      go_wp2_with fail
      refine ⟨⟨k + 1, hlt, ?_, rfl⟩, ?_⟩
      · rw [or8 p d hp hd, hst.out]
      · simp [intOf]; omega
    · obtain rfl : k = r.size := by omega
      rw [pre_all, hsv]
      have hB := hB
      clear HC
      go_upto_region 12 with (fail)
      refine wp_region_know [33, 34, 35, 36, 37] (fun W => Below w2.heap.size w2 W) (kAt [eqK (.int .i64 (O)), eqK (.agg #[.bool (neg (O)), .string (mag (O))]), eqK (.agg #[.bool false, .string s]), eqK (.int .i64 (D)), eqK (.bool false)])
        (fun _ => true) (fun _ => false) (by kernel_rfl) (by kernel_rfl) (fun _ _ _ _ _ h => h) (by kernel_rfl) (by kernel_rfl) 39 rfl (by kernel_rfl) (by kernel_rfl) ?hG (fun i v w w' hi => kAt_stab (by exact ⟨stab_eq _, stab_eq _, stab_eq _, stab_eq _, stab_eq _, trivial⟩) _ i v w w' hi) (fun _ _ _ _ hf _ => absurd hf Bool.false_ne_true) ?hop ?hlate ?htail
      case hG => exact (Below.refl _ _).drew
      case hop =>
        intro A hA
        have hN : A.tmps.size = 39 := by rw [hA]; rfl
        have q7 : A.tmps.getD 7 undef = .int .i64 (O) := by rw [hA]; rfl
        have q1 : A.tmps.getD 1 undef = .pointer (some ⟨w.heap.size, 0, none⟩) := by rw [hA]; rfl
        clear hA
        refine ⟨?_, ?_, ?_, ?_, ?_, trivial⟩
        · intro u W hG hf
          have e7 := frm_base (ds := [33, 34, 35, 36, 37]) (u := u) (k := 7) (by rw [hN]; decide) rfl q7
          generalize (frm A [33, 34, 35, 36, 37] u).eval = ev at *
          refine k_val (.int .i64 (O)) rfl rfl hG ?_ rfl
          simp [go_sem, e7]
        · intro u W hG hf
          have f33 : u 0 = .int .i64 (O) := hf 0 (by decide)
          have e33 := frm_head (ds := [33, 34, 35, 36, 37]) (u := u) (k := 33) (i := 0) (by rw [hN]; decide) rfl f33
          have ef : ∀ f, (frm A [33, 34, 35, 36, 37] u).eval (.func f) = .func (.func f) #[] #[] := fun _ => rfl
          generalize (frm A [33, 34, 35, 36, 37] u).eval = ev at *
          exact k_call _ _ rfl rfl (by simp [go_sem, ef, e33]) (cO.out W) (fun w' hb => nxt hG hb) (fun _ _ => rfl)
        · intro u W hG hf
          have e1 := frm_base (ds := [33, 34, 35, 36, 37]) (u := u) (k := 1) (by rw [hN]; decide) rfl q1
          generalize (frm A [33, 34, 35, 36, 37] u).eval = ev at *
          have hx := X1.later hG
          have y0 := hx.cel 0
          have y1 := hx.cel 1
          simp at y0 y1
          refine k_val (.agg #[.bool false, .string s]) rfl rfl hG ?_ rfl
          simp [go_sem, e1, y0, y1]
        · intro u W hG hf
          have f34 : u 1 = .agg #[.bool (neg (O)), .string (mag (O))] := hf 1 (by decide)
          have e34 := frm_head (ds := [33, 34, 35, 36, 37]) (u := u) (k := 34) (i := 1) (by rw [hN]; decide) rfl f34
          have f35 : u 2 = .agg #[.bool false, .string s] := hf 2 (by decide)
          have e35 := frm_head (ds := [33, 34, 35, 36, 37]) (u := u) (k := 35) (i := 2) (by rw [hN]; decide) rfl f35
          have ef : ∀ f, (frm A [33, 34, 35, 36, 37] u).eval (.func f) = .func (.func f) #[] #[] := fun _ => rfl
          generalize (frm A [33, 34, 35, 36, 37] u).eval = ev at *
          exact k_call _ _ rfl rfl (by simp [go_sem, ef, e34, e35]) (cC.out W) (fun w' hb => nxt hG hb) (fun _ _ => rfl)
        · intro u W hG hf
          have f36 : u 3 = .int .i64 (D) := hf 3 (by decide)
          have e36 := frm_head (ds := [33, 34, 35, 36, 37]) (u := u) (k := 36) (i := 3) (by rw [hN]; decide) rfl f36
          have ec : ∀ v, (frm A [33, 34, 35, 36, 37] u).eval (.const v) = v := fun _ => rfl
          generalize (frm A [33, 34, 35, 36, 37] u).eval = ev at *
          refine k_val (.bool false) rfl rfl hG ?_ rfl
          simp [go_sem, ec, e36, hD]
      case hlate =>
        intro A _
        exact ⟨trivial, trivial, trivial, trivial, trivial, trivial⟩
      case htail =>
        intro u w' hG hP hD2
        have f37 : u 4 = .bool false := hP 4 (by decide)
        simp only [putAll, Act.put, List.setIfInBounds_toArray, List.set_cons_zero, List.set_cons_succ, List.length_cons, List.length_nil, Nat.reduceAdd, List.drop_succ_cons, List.drop_zero, f37]
        go_wp2_with fail
        exact bodyPost_ret (v := .tuple #[.int .i64 O, .bool true]) (by simp [results, Tryz.results53, go_sem]) rfl ⟨rfl, nxt hB hG⟩

set_option maxRecDepth 100000 in
set_option maxHeartbeats 400000 in
theorem wSmall_false_no (s : ByteArray) (O D : Int) (w : World) (hs : s.size ≤ 16777216) (hL : nd 1 (sval s) ≤ 64) (hO : IntKind.i64.wrap (sval s : Int) = O) (hD : D ≠ 0)
    (cO : Hid (∀ W, Calls Tryz.prog 56 #[.int .i64 O] W fun e w' => e = .returned (.agg #[.bool (neg (O)), .string (mag (O))]) ∧ Below W.heap.size W w'))
    (cC : Hid (∀ W, Calls Tryz.prog 84 #[.agg #[.bool (neg (O)), .string (mag (O))], .agg #[.bool false, .string s]] W fun e w' => e = .returned (.int .i64 D) ∧ Below W.heap.size W w')) :
    Calls Tryz.prog 53 #[.agg #[.bool false, .string s]] w fun e w' => e = .returned (.tuple #[.int .i64 0, .bool false]) ∧ Below w.heap.size w w' := by
  have cL := Lib.hid (fun W => nLen_any s W (by omega))
  have cT := Lib.hid (fun W => nTrim_any s W)
  have hv : sval s < 18446744073709551616 := by
    have h1 := nd_lt (k := 1) (by decide) (sval s)
    exact Nat.lt_of_lt_of_le h1 (Nat.pow_le_pow_right (by decide) hL)
  have hz8 : (nstr (sval s)).size ≤ 8 := by
    rw [nstr_size]
    exact nd_le_of_lt (k := 8) (by decide) hv
  have hsv : sval (nstr (sval s)) = sval s := sval_nstr _
  have kc := fun W : World => Lib.run_convert_string_bytes (P := Tryz.prog) W 9 69 5 (nstr (sval s)) Tryz.underlying9 Tryz.underlying69 Tryz.underlying5
  generalize nd 1 (sval s) = N at *
  have hI : ¬ (64 : Int) < (N : Int) := by omega
  go_enter Tryz.func53, Tryz.ntmps53
  go_upto_region 1 with (fail)
  have X1 := Bx.new w 24 #[.bool false, .string s]
  have hB := b1 w (.cells #[.bool false, .string s] 24)
  generalize w.alloc (.cells #[.bool false, .string s] 24) = w0 at *
  have hl0 := X1.lt
  obtain ⟨p1, p2, _, _⟩ := X1.two
  go_wp2_with fail
  refine (cL.out _).mono ?_
  rintro e w1 ⟨rfl, hb⟩
  replace hB := nxt hB hb
  replace X1 := X1.later hb
  clear hb p1 p2
  obtain ⟨p1, p2, _, _⟩ := X1.two
  go_wp2_with fail
  refine (cT.out _).mono ?_
  rintro e w2 ⟨rfl, rfl⟩
  generalize hr : nstr (sval s) = r at *
  go_wp2_with fail
  replace X1 := X1.later (below_bytes w1 5 r)
  replace hB := nxt hB (below_bytes w1 5 r)
  have HC := Lib.hid (fun j (h : j < r.size) => Lib.bytesWorld_cell w1 5 r j h)
  clear kc p1 p2
  generalize Lib.bytesWorld w1 5 r = w2 at *
  generalize w1.heap.size = g at *
  generalize grownCap w1 r.size 0 5 = cap at *
  obtain ⟨p1, p2, _, _⟩ := X1.two
  go_loop [4, 17] (fun n i => ∃ k : Nat, k ≤ r.size ∧ n = .int .u64 (pre r k : Nat) ∧ i = .int .i64 (k : Nat)) (fun _ i => r.size - (intOf i).toNat)
  case atStart => exact ⟨0, Nat.zero_le _, rfl, rfl⟩
  case round =>
    obtain ⟨k, hk, rfl, rfl⟩ := hrel
    by_cases hlt : k < r.size
    · have c := HC.out k hlt
      have hst := Lib.hid (pre_step r hlt)
      have hp : pre r k < 72057594037927936 := Nat.lt_of_lt_of_le (pre_lt r k) (Nat.pow_le_pow_right (by decide) (by omega) : 256 ^ k ≤ 256 ^ 7)
      have hd : (r.data.toList.getD k 0).toNat < 256 := UInt8.toNat_lt _
      generalize (r.data.toList.getD k 0).toNat = d at *
      generalize pre r k = p at *
      go_wp2_with fail
      refine ⟨⟨k + 1, hlt, ?_, rfl⟩, ?_⟩
      · rw [or8 p d hp hd, hst.out]
      · simp [intOf]; omega
    · obtain rfl : k = r.size := by omega
      rw [pre_all, hsv]
      have hB := hB
      clear HC
      go_upto_region 12 with (fail)
      refine wp_region_know [33, 34, 35, 36, 37] (fun W => Below w2.heap.size w2 W) (kAt [eqK (.int .i64 (O)), eqK (.agg #[.bool (neg (O)), .string (mag (O))]), eqK (.agg #[.bool false, .string s]), eqK (.int .i64 (D)), eqK (.bool true)])
        (fun _ => true) (fun _ => false) (by kernel_rfl) (by kernel_rfl) (fun _ _ _ _ _ h => h) (by kernel_rfl) (by kernel_rfl) 39 rfl (by kernel_rfl) (by kernel_rfl) ?hG (fun i v w w' hi => kAt_stab (by exact ⟨stab_eq _, stab_eq _, stab_eq _, stab_eq _, stab_eq _, trivial⟩) _ i v w w' hi) (fun _ _ _ _ hf _ => absurd hf Bool.false_ne_true) ?hop ?hlate ?htail
      case hG => exact (Below.refl _ _).drew
      case hop =>
        intro A hA
        have hN : A.tmps.size = 39 := by rw [hA]; rfl
        have q7 : A.tmps.getD 7 undef = .int .i64 (O) := by rw [hA]; rfl
        have q1 : A.tmps.getD 1 undef = .pointer (some ⟨w.heap.size, 0, none⟩) := by rw [hA]; rfl
        clear hA
        refine ⟨?_, ?_, ?_, ?_, ?_, trivial⟩
        · intro u W hG hf
          have e7 := frm_base (ds := [33, 34, 35, 36, 37]) (u := u) (k := 7) (by rw [hN]; decide) rfl q7
          generalize (frm A [33, 34, 35, 36, 37] u).eval = ev at *
          refine k_val (.int .i64 (O)) rfl rfl hG ?_ rfl
          simp [go_sem, e7]
        · intro u W hG hf
          have f33 : u 0 = .int .i64 (O) := hf 0 (by decide)
          have e33 := frm_head (ds := [33, 34, 35, 36, 37]) (u := u) (k := 33) (i := 0) (by rw [hN]; decide) rfl f33
          have ef : ∀ f, (frm A [33, 34, 35, 36, 37] u).eval (.func f) = .func (.func f) #[] #[] := fun _ => rfl
          generalize (frm A [33, 34, 35, 36, 37] u).eval = ev at *
          exact k_call _ _ rfl rfl (by simp [go_sem, ef, e33]) (cO.out W) (fun w' hb => nxt hG hb) (fun _ _ => rfl)
        · intro u W hG hf
          have e1 := frm_base (ds := [33, 34, 35, 36, 37]) (u := u) (k := 1) (by rw [hN]; decide) rfl q1
          generalize (frm A [33, 34, 35, 36, 37] u).eval = ev at *
          have hx := X1.later hG
          have y0 := hx.cel 0
          have y1 := hx.cel 1
          simp at y0 y1
          refine k_val (.agg #[.bool false, .string s]) rfl rfl hG ?_ rfl
          simp [go_sem, e1, y0, y1]
        · intro u W hG hf
          have f34 : u 1 = .agg #[.bool (neg (O)), .string (mag (O))] := hf 1 (by decide)
          have e34 := frm_head (ds := [33, 34, 35, 36, 37]) (u := u) (k := 34) (i := 1) (by rw [hN]; decide) rfl f34
          have f35 : u 2 = .agg #[.bool false, .string s] := hf 2 (by decide)
          have e35 := frm_head (ds := [33, 34, 35, 36, 37]) (u := u) (k := 35) (i := 2) (by rw [hN]; decide) rfl f35
          have ef : ∀ f, (frm A [33, 34, 35, 36, 37] u).eval (.func f) = .func (.func f) #[] #[] := fun _ => rfl
          generalize (frm A [33, 34, 35, 36, 37] u).eval = ev at *
          exact k_call _ _ rfl rfl (by simp [go_sem, ef, e34, e35]) (cC.out W) (fun w' hb => nxt hG hb) (fun _ _ => rfl)
        · intro u W hG hf
          have f36 : u 3 = .int .i64 (D) := hf 3 (by decide)
          have e36 := frm_head (ds := [33, 34, 35, 36, 37]) (u := u) (k := 36) (i := 3) (by rw [hN]; decide) rfl f36
          have ec : ∀ v, (frm A [33, 34, 35, 36, 37] u).eval (.const v) = v := fun _ => rfl
          generalize (frm A [33, 34, 35, 36, 37] u).eval = ev at *
          refine k_val (.bool true) rfl rfl hG ?_ rfl
          simp [go_sem, ec, e36, hD]
      case hlate =>
        intro A _
        exact ⟨trivial, trivial, trivial, trivial, trivial, trivial⟩
      case htail =>
        intro u w' hG hP hD2
        have f37 : u 4 = .bool true := hP 4 (by decide)
        simp only [putAll, Act.put, List.setIfInBounds_toArray, List.set_cons_zero, List.set_cons_succ, List.length_cons, List.length_nil, Nat.reduceAdd, List.drop_succ_cons, List.drop_zero, f37]
        go_wp2_with fail
        exact bodyPost_ret (v := .tuple #[.int .i64 0, .bool false]) (by simp [results, Tryz.results53, go_sem]) rfl ⟨rfl, nxt hB hG⟩

set_option maxRecDepth 100000 in
set_option maxHeartbeats 400000 in
theorem wSmall_true_yes (s : ByteArray) (O D : Int) (w : World) (hs : s.size ≤ 16777216) (hL : nd 1 (sval s) ≤ 64) (hO : IntKind.i64.wrap (IntKind.u64.wrap (-(sval s : Int))) = O) (hD : D = 0)
    (cO : Hid (∀ W, Calls Tryz.prog 56 #[.int .i64 O] W fun e w' => e = .returned (.agg #[.bool (neg (O)), .string (mag (O))]) ∧ Below W.heap.size W w'))
    (cC : Hid (∀ W, Calls Tryz.prog 84 #[.agg #[.bool (neg (O)), .string (mag (O))], .agg #[.bool true, .string s]] W fun e w' => e = .returned (.int .i64 D) ∧ Below W.heap.size W w')) :
    Calls Tryz.prog 53 #[.agg #[.bool true, .string s]] w fun e w' => e = .returned (.tuple #[.int .i64 O, .bool true]) ∧ Below w.heap.size w w' := by
  have cL := Lib.hid (fun W => nLen_any s W (by omega))
  have cT := Lib.hid (fun W => nTrim_any s W)
  have hv : sval s < 18446744073709551616 := by
    have h1 := nd_lt (k := 1) (by decide) (sval s)
    exact Nat.lt_of_lt_of_le h1 (Nat.pow_le_pow_right (by decide) hL)
  have hz8 : (nstr (sval s)).size ≤ 8 := by
    rw [nstr_size]
    exact nd_le_of_lt (k := 8) (by decide) hv
  have hsv : sval (nstr (sval s)) = sval s := sval_nstr _
  have kc := fun W : World => Lib.run_convert_string_bytes (P := Tryz.prog) W 9 69 5 (nstr (sval s)) Tryz.underlying9 Tryz.underlying69 Tryz.underlying5
  generalize nd 1 (sval s) = N at *
  have hI : ¬ (64 : Int) < (N : Int) := by omega
  go_enter Tryz.func53, Tryz.ntmps53
  go_upto_region 1 with (fail)
  have X1 := Bx.new w 24 #[.bool true, .string s]
  have hB := b1 w (.cells #[.bool true, .string s] 24)
  generalize w.alloc (.cells #[.bool true, .string s] 24) = w0 at *
  have hl0 := X1.lt
  obtain ⟨p1, p2, _, _⟩ := X1.two
  go_wp2_with fail
  refine (cL.out _).mono ?_
  rintro e w1 ⟨rfl, hb⟩
  replace hB := nxt hB hb
  replace X1 := X1.later hb
  clear hb p1 p2
  obtain ⟨p1, p2, _, _⟩ := X1.two
  go_wp2_with fail
  refine (cT.out _).mono ?_
  rintro e w2 ⟨rfl, rfl⟩
  generalize hr : nstr (sval s) = r at *
  go_wp2_with fail
  replace X1 := X1.later (below_bytes w1 5 r)
  replace hB := nxt hB (below_bytes w1 5 r)
  have HC := Lib.hid (fun j (h : j < r.size) => Lib.bytesWorld_cell w1 5 r j h)
  clear kc p1 p2
  generalize Lib.bytesWorld w1 5 r = w2 at *
  generalize w1.heap.size = g at *
  generalize grownCap w1 r.size 0 5 = cap at *
  obtain ⟨p1, p2, _, _⟩ := X1.two
  go_loop [4, 17] (fun n i => ∃ k : Nat, k ≤ r.size ∧ n = .int .u64 (pre r k : Nat) ∧ i = .int .i64 (k : Nat)) (fun _ i => r.size - (intOf i).toNat)
  case atStart => exact ⟨0, Nat.zero_le _, rfl, rfl⟩
  case round =>
    obtain ⟨k, hk, rfl, rfl⟩ := hrel
    by_cases hlt : k < r.size
    · have c := HC.out k hlt
      have hst := Lib.hid (pre_step r hlt)
      have hp : pre r k < 72057594037927936 := Nat.lt_of_lt_of_le (pre_lt r k) (Nat.pow_le_pow_right (by decide) (by omega) : 256 ^ k ≤ 256 ^ 7)
      have hd : (r.data.toList.getD k 0).toNat < 256 := UInt8.toNat_lt _
      generalize (r.data.toList.getD k 0).toNat = d at *
      generalize pre r k = p at *
      go_wp2_with fail
      refine ⟨⟨k + 1, hlt, ?_, rfl⟩, ?_⟩
      · rw [or8 p d hp hd, hst.out]
      · simp [intOf]; omega
    · obtain rfl : k = r.size := by omega
      rw [pre_all, hsv]
      have hB := hB
      clear HC
      go_upto_region 12 with (fail)
      refine wp_region_know [33, 34, 35, 36, 37] (fun W => Below w2.heap.size w2 W) (kAt [eqK (.int .i64 (O)), eqK (.agg #[.bool (neg (O)), .string (mag (O))]), eqK (.agg #[.bool true, .string s]), eqK (.int .i64 (D)), eqK (.bool false)])
        (fun _ => true) (fun _ => false) (by kernel_rfl) (by kernel_rfl) (fun _ _ _ _ _ h => h) (by kernel_rfl) (by kernel_rfl) 39 rfl (by kernel_rfl) (by kernel_rfl) ?hG (fun i v w w' hi => kAt_stab (by exact ⟨stab_eq _, stab_eq _, stab_eq _, stab_eq _, stab_eq _, trivial⟩) _ i v w w' hi) (fun _ _ _ _ hf _ => absurd hf Bool.false_ne_true) ?hop ?hlate ?htail
      case hG => exact (Below.refl _ _).drew
      case hop =>
        intro A hA
        have hN : A.tmps.size = 39 := by rw [hA]; rfl
        have q7 : A.tmps.getD 7 undef = .int .i64 (O) := by rw [hA]; rfl
        have q1 : A.tmps.getD 1 undef = .pointer (some ⟨w.heap.size, 0, none⟩) := by rw [hA]; rfl
        clear hA
        refine ⟨?_, ?_, ?_, ?_, ?_, trivial⟩
        · intro u W hG hf
          have e7 := frm_base (ds := [33, 34, 35, 36, 37]) (u := u) (k := 7) (by rw [hN]; decide) rfl q7
          generalize (frm A [33, 34, 35, 36, 37] u).eval = ev at *
          refine k_val (.int .i64 (O)) rfl rfl hG ?_ rfl
          simp [go_sem, e7]
        · intro u W hG hf
          have f33 : u 0 = .int .i64 (O) := hf 0 (by decide)
          have e33 := frm_head (ds := [33, 34, 35, 36, 37]) (u := u) (k := 33) (i := 0) (by rw [hN]; decide) rfl f33
          have ef : ∀ f, (frm A [33, 34, 35, 36, 37] u).eval (.func f) = .func (.func f) #[] #[] := fun _ => rfl
          generalize (frm A [33, 34, 35, 36, 37] u).eval = ev at *
          exact k_call _ _ rfl rfl (by simp [go_sem, ef, e33]) (cO.out W) (fun w' hb => nxt hG hb) (fun _ _ => rfl)
        · intro u W hG hf
          have e1 := frm_base (ds := [33, 34, 35, 36, 37]) (u := u) (k := 1) (by rw [hN]; decide) rfl q1
          generalize (frm A [33, 34, 35, 36, 37] u).eval = ev at *
          have hx := X1.later hG
          have y0 := hx.cel 0
          have y1 := hx.cel 1
          simp at y0 y1
          refine k_val (.agg #[.bool true, .string s]) rfl rfl hG ?_ rfl
          simp [go_sem, e1, y0, y1]
        · intro u W hG hf
          have f34 : u 1 = .agg #[.bool (neg (O)), .string (mag (O))] := hf 1 (by decide)
          have e34 := frm_head (ds := [33, 34, 35, 36, 37]) (u := u) (k := 34) (i := 1) (by rw [hN]; decide) rfl f34
          have f35 : u 2 = .agg #[.bool true, .string s] := hf 2 (by decide)
          have e35 := frm_head (ds := [33, 34, 35, 36, 37]) (u := u) (k := 35) (i := 2) (by rw [hN]; decide) rfl f35
          have ef : ∀ f, (frm A [33, 34, 35, 36, 37] u).eval (.func f) = .func (.func f) #[] #[] := fun _ => rfl
          generalize (frm A [33, 34, 35, 36, 37] u).eval = ev at *
          exact k_call _ _ rfl rfl (by simp [go_sem, ef, e34, e35]) (cC.out W) (fun w' hb => nxt hG hb) (fun _ _ => rfl)
        · intro u W hG hf
          have f36 : u 3 = .int .i64 (D) := hf 3 (by decide)
          have e36 := frm_head (ds := [33, 34, 35, 36, 37]) (u := u) (k := 36) (i := 3) (by rw [hN]; decide) rfl f36
          have ec : ∀ v, (frm A [33, 34, 35, 36, 37] u).eval (.const v) = v := fun _ => rfl
          generalize (frm A [33, 34, 35, 36, 37] u).eval = ev at *
          refine k_val (.bool false) rfl rfl hG ?_ rfl
          simp [go_sem, ec, e36, hD]
      case hlate =>
        intro A _
        exact ⟨trivial, trivial, trivial, trivial, trivial, trivial⟩
      case htail =>
        intro u w' hG hP hD2
        have f37 : u 4 = .bool false := hP 4 (by decide)
        simp only [putAll, Act.put, List.setIfInBounds_toArray, List.set_cons_zero, List.set_cons_succ, List.length_cons, List.length_nil, Nat.reduceAdd, List.drop_succ_cons, List.drop_zero, f37]
        go_wp2_with fail
        exact bodyPost_ret (v := .tuple #[.int .i64 O, .bool true]) (by simp [results, Tryz.results53, go_sem]) rfl ⟨rfl, nxt hB hG⟩

set_option maxRecDepth 100000 in
set_option maxHeartbeats 400000 in
theorem wSmall_true_no (s : ByteArray) (O D : Int) (w : World) (hs : s.size ≤ 16777216) (hL : nd 1 (sval s) ≤ 64) (hO : IntKind.i64.wrap (IntKind.u64.wrap (-(sval s : Int))) = O) (hD : D ≠ 0)
    (cO : Hid (∀ W, Calls Tryz.prog 56 #[.int .i64 O] W fun e w' => e = .returned (.agg #[.bool (neg (O)), .string (mag (O))]) ∧ Below W.heap.size W w'))
    (cC : Hid (∀ W, Calls Tryz.prog 84 #[.agg #[.bool (neg (O)), .string (mag (O))], .agg #[.bool true, .string s]] W fun e w' => e = .returned (.int .i64 D) ∧ Below W.heap.size W w')) :
    Calls Tryz.prog 53 #[.agg #[.bool true, .string s]] w fun e w' => e = .returned (.tuple #[.int .i64 0, .bool false]) ∧ Below w.heap.size w w' := by
  have cL := Lib.hid (fun W => nLen_any s W (by omega))
  have cT := Lib.hid (fun W => nTrim_any s W)
  have hv : sval s < 18446744073709551616 := by
    have h1 := nd_lt (k := 1) (by decide) (sval s)
    exact Nat.lt_of_lt_of_le h1 (Nat.pow_le_pow_right (by decide) hL)
  have hz8 : (nstr (sval s)).size ≤ 8 := by
    rw [nstr_size]
    exact nd_le_of_lt (k := 8) (by decide) hv
  have hsv : sval (nstr (sval s)) = sval s := sval_nstr _
  have kc := fun W : World => Lib.run_convert_string_bytes (P := Tryz.prog) W 9 69 5 (nstr (sval s)) Tryz.underlying9 Tryz.underlying69 Tryz.underlying5
  generalize nd 1 (sval s) = N at *
  have hI : ¬ (64 : Int) < (N : Int) := by omega
  go_enter Tryz.func53, Tryz.ntmps53
  go_upto_region 1 with (fail)
  have X1 := Bx.new w 24 #[.bool true, .string s]
  have hB := b1 w (.cells #[.bool true, .string s] 24)
  generalize w.alloc (.cells #[.bool true, .string s] 24) = w0 at *
  have hl0 := X1.lt
  obtain ⟨p1, p2, _, _⟩ := X1.two
  go_wp2_with fail
  refine (cL.out _).mono ?_
  rintro e w1 ⟨rfl, hb⟩
  replace hB := nxt hB hb
  replace X1 := X1.later hb
  clear hb p1 p2
  obtain ⟨p1, p2, _, _⟩ := X1.two
  go_wp2_with fail
  refine (cT.out _).mono ?_
  rintro e w2 ⟨rfl, rfl⟩
  generalize hr : nstr (sval s) = r at *
  go_wp2_with fail
  replace X1 := X1.later (below_bytes w1 5 r)
  replace hB := nxt hB (below_bytes w1 5 r)
  have HC := Lib.hid (fun j (h : j < r.size) => Lib.bytesWorld_cell w1 5 r j h)
  clear kc p1 p2
  generalize Lib.bytesWorld w1 5 r = w2 at *
  generalize w1.heap.size = g at *
  generalize grownCap w1 r.size 0 5 = cap at *
  obtain ⟨p1, p2, _, _⟩ := X1.two
  go_loop [4, 17] (fun n i => ∃ k : Nat, k ≤ r.size ∧ n = .int .u64 (pre r k : Nat) ∧ i = .int .i64 (k : Nat)) (fun _ i => r.size - (intOf i).toNat)
  case atStart => exact ⟨0, Nat.zero_le _, rfl, rfl⟩
  case round =>
    obtain ⟨k, hk, rfl, rfl⟩ := hrel
    by_cases hlt : k < r.size
    · have c := HC.out k hlt
      have hst := Lib.hid (pre_step r hlt)
      have hp : pre r k < 72057594037927936 := Nat.lt_of_lt_of_le (pre_lt r k) (Nat.pow_le_pow_right (by decide) (by omega) : 256 ^ k ≤ 256 ^ 7)
      have hd : (r.data.toList.getD k 0).toNat < 256 := UInt8.toNat_lt _
      generalize (r.data.toList.getD k 0).toNat = d at *
      generalize pre r k = p at *
      go_wp2_with fail
      refine ⟨⟨k + 1, hlt, ?_, rfl⟩, ?_⟩
      · rw [or8 p d hp hd, hst.out]
      · simp [intOf]; omega
    · obtain rfl : k = r.size := by omega
      rw [pre_all, hsv]
      have hB := hB
      clear HC
      go_upto_region 12 with (fail)
      refine wp_region_know [33, 34, 35, 36, 37] (fun W => Below w2.heap.size w2 W) (kAt [eqK (.int .i64 (O)), eqK (.agg #[.bool (neg (O)), .string (mag (O))]), eqK (.agg #[.bool true, .string s]), eqK (.int .i64 (D)), eqK (.bool true)])
        (fun _ => true) (fun _ => false) (by kernel_rfl) (by kernel_rfl) (fun _ _ _ _ _ h => h) (by kernel_rfl) (by kernel_rfl) 39 rfl (by kernel_rfl) (by kernel_rfl) ?hG (fun i v w w' hi => kAt_stab (by exact ⟨stab_eq _, stab_eq _, stab_eq _, stab_eq _, stab_eq _, trivial⟩) _ i v w w' hi) (fun _ _ _ _ hf _ => absurd hf Bool.false_ne_true) ?hop ?hlate ?htail
      case hG => exact (Below.refl _ _).drew
      case hop =>
        intro A hA
        have hN : A.tmps.size = 39 := by rw [hA]; rfl
        have q7 : A.tmps.getD 7 undef = .int .i64 (O) := by rw [hA]; rfl
        have q1 : A.tmps.getD 1 undef = .pointer (some ⟨w.heap.size, 0, none⟩) := by rw [hA]; rfl
        clear hA
        refine ⟨?_, ?_, ?_, ?_, ?_, trivial⟩
        · intro u W hG hf
          have e7 := frm_base (ds := [33, 34, 35, 36, 37]) (u := u) (k := 7) (by rw [hN]; decide) rfl q7
          generalize (frm A [33, 34, 35, 36, 37] u).eval = ev at *
          refine k_val (.int .i64 (O)) rfl rfl hG ?_ rfl
          simp [go_sem, e7]
        · intro u W hG hf
          have f33 : u 0 = .int .i64 (O) := hf 0 (by decide)
          have e33 := frm_head (ds := [33, 34, 35, 36, 37]) (u := u) (k := 33) (i := 0) (by rw [hN]; decide) rfl f33
          have ef : ∀ f, (frm A [33, 34, 35, 36, 37] u).eval (.func f) = .func (.func f) #[] #[] := fun _ => rfl
          generalize (frm A [33, 34, 35, 36, 37] u).eval = ev at *
          exact k_call _ _ rfl rfl (by simp [go_sem, ef, e33]) (cO.out W) (fun w' hb => nxt hG hb) (fun _ _ => rfl)
        · intro u W hG hf
          have e1 := frm_base (ds := [33, 34, 35, 36, 37]) (u := u) (k := 1) (by rw [hN]; decide) rfl q1
          generalize (frm A [33, 34, 35, 36, 37] u).eval = ev at *
          have hx := X1.later hG
          have y0 := hx.cel 0
          have y1 := hx.cel 1
          simp at y0 y1
          refine k_val (.agg #[.bool true, .string s]) rfl rfl hG ?_ rfl
          simp [go_sem, e1, y0, y1]
        · intro u W hG hf
          have f34 : u 1 = .agg #[.bool (neg (O)), .string (mag (O))] := hf 1 (by decide)
          have e34 := frm_head (ds := [33, 34, 35, 36, 37]) (u := u) (k := 34) (i := 1) (by rw [hN]; decide) rfl f34
          have f35 : u 2 = .agg #[.bool true, .string s] := hf 2 (by decide)
          have e35 := frm_head (ds := [33, 34, 35, 36, 37]) (u := u) (k := 35) (i := 2) (by rw [hN]; decide) rfl f35
          have ef : ∀ f, (frm A [33, 34, 35, 36, 37] u).eval (.func f) = .func (.func f) #[] #[] := fun _ => rfl
          generalize (frm A [33, 34, 35, 36, 37] u).eval = ev at *
          exact k_call _ _ rfl rfl (by simp [go_sem, ef, e34, e35]) (cC.out W) (fun w' hb => nxt hG hb) (fun _ _ => rfl)
        · intro u W hG hf
          have f36 : u 3 = .int .i64 (D) := hf 3 (by decide)
          have e36 := frm_head (ds := [33, 34, 35, 36, 37]) (u := u) (k := 36) (i := 3) (by rw [hN]; decide) rfl f36
          have ec : ∀ v, (frm A [33, 34, 35, 36, 37] u).eval (.const v) = v := fun _ => rfl
          generalize (frm A [33, 34, 35, 36, 37] u).eval = ev at *
          refine k_val (.bool true) rfl rfl hG ?_ rfl
          simp [go_sem, ec, e36, hD]
      case hlate =>
        intro A _
        exact ⟨trivial, trivial, trivial, trivial, trivial, trivial⟩
      case htail =>
        intro u w' hG hP hD2
        have f37 : u 4 = .bool true := hP 4 (by decide)
        simp only [putAll, Act.put, List.setIfInBounds_toArray, List.set_cons_zero, List.set_cons_succ, List.length_cons, List.length_nil, Nat.reduceAdd, List.drop_succ_cons, List.drop_zero, f37]
        go_wp2_with fail
        exact bodyPost_ret (v := .tuple #[.int .i64 0, .bool false]) (by simp [results, Tryz.results53, go_sem]) rfl ⟨rfl, nxt hB hG⟩

theorem wSmall_any (s : ByteArray) (b : Bool) (w : World) (hs : s.size ≤ 16777216) :
    Calls Tryz.prog 53 #[.agg #[.bool b, .string s]] w fun e w' => e = .returned (smallV (ival b (sval s))) ∧ Below w.heap.size w w' := by
  by_cases hL : 64 < nd 1 (sval s)
  · have h1 : 18446744073709551616 ≤ sval s := by
      have h2 := nd_le (k := 1) (sval s) (fun h => by rw [h, nd_zero] at hL; omega)
      have h3 : (2 ^ 1) ^ 64 ≤ (2 ^ 1) ^ (nd 1 (sval s) - 1) := Nat.pow_le_pow_right (show 2 ^ 1 > 0 by decide) (by omega)
      exact Nat.le_trans h3 h2
    have e : smallV (ival b (sval s)) = .tuple #[.int .i64 0, .bool false] := by
      unfold smallV
      rw [if_neg]
      have := ival_natAbs b (sval s)
      omega
    rw [e]
    exact wSmall_far s b w hs hL
  · have hv : sval s < 18446744073709551616 := by
      have h1 := nd_lt (k := 1) (by decide) (sval s)
      exact Nat.lt_of_lt_of_le h1 (Nat.pow_le_pow_right (by decide) (Nat.not_lt.1 hL))
    cases b
    · obtain ⟨O, hO, h1, h2, e⟩ := wrap_u (sval s) hv
      rw [e]
      have cO := Lib.hid (fun W => wOf_any O W h1 h2)
      have cC := Lib.hid (fun W => wCmp_any (mag O) s (neg O) false W (by rw [mag_size]; exact Nat.le_trans (bsz_small h1 h2) (by decide)) (by omega))
      rw [ival_mk] at cC
      by_cases h : O = ival false (sval s)
      · rw [if_pos h]
        exact wSmall_false_yes s O _ w hs (by omega) hO (sgn_eq.2 (by omega)) cO cC
      · rw [if_neg h]
        exact wSmall_false_no s O _ w hs (by omega) hO (fun h3 => h (by have := sgn_eq.1 h3; omega)) cO cC
    · obtain ⟨O, hO, h1, h2, e⟩ := wrap_n (sval s) hv
      rw [e]
      have cO := Lib.hid (fun W => wOf_any O W h1 h2)
      have cC := Lib.hid (fun W => wCmp_any (mag O) s (neg O) true W (by rw [mag_size]; exact Nat.le_trans (bsz_small h1 h2) (by decide)) (by omega))
      rw [ival_mk] at cC
      by_cases h : O = ival true (sval s)
      · rw [if_pos h]
        exact wSmall_true_yes s O _ w hs (by omega) hO (sgn_eq.2 (by omega)) cO cC
      · rw [if_neg h]
        exact wSmall_true_no s O _ w hs (by omega) hO (fun h3 => h (by have := sgn_eq.1 h3; omega)) cO cC

end Go.Proofs.YtkgogbmeehiloaaGreatDoor

