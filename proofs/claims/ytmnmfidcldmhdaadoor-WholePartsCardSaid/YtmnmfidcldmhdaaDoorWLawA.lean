/- The walks of ogeelaw02: of, long, divides, awake: the chapter's examples. -/
import Derived.Test.YtmnmfidcldmhdaaDoorWholeG
import Derived.Test.YtmnmfidcldmhdaaDoorRefY
namespace Go.Proofs.YtmnmfidcldmhdaaDoor
open Go.RowKit

theorem rdI2B {w : World} {g : Nat} {s t : ByteArray} {b b' : Bool} (h : Bx w g 26 #[.bool b, .string s, .bool b', .string t]) : RdI w (some ⟨g, 0, none⟩) 2 (fun j => if j = 0 then b else b') (fun j => if j = 0 then s else t) := fun _ =>
  ⟨g, 0, rfl, fun j hj => by
    have : j = 0 ∨ j = 1 := by omega
    rcases this with rfl | rfl
    · exact ⟨h.cel 0, h.cel 1⟩
    · exact ⟨h.cel 2, h.cel 3⟩⟩
theorem rdI3B {w : World} {g : Nat} {s t r : ByteArray} {b b' b'' : Bool} (h : Bx w g 26 #[.bool b, .string s, .bool b', .string t, .bool b'', .string r]) : RdI w (some ⟨g, 0, none⟩) 3 (fun j => if j = 0 then b else if j = 1 then b' else b'') (fun j => if j = 0 then s else if j = 1 then t else r) := fun _ =>
  ⟨g, 0, rfl, fun j hj => by
    have : j = 0 ∨ j = 1 ∨ j = 2 := by omega
    rcases this with rfl | rfl | rfl
    · exact ⟨h.cel 0, h.cel 1⟩
    · exact ⟨h.cel 2, h.cel 3⟩
    · exact ⟨h.cel 4, h.cel 5⟩⟩

theorem wAdd2B (s t : ByteArray) (b b' : Bool) (g : Nat) (w : World) (hs : s.size ≤ 536870912) (ht : t.size ≤ 536870912) (h : Bx w g 26 #[.bool b, .string s, .bool b', .string t]) :
    Calls Tryd.prog 15 #[.slice (some ⟨g, 0, none⟩) 2 2] w fun e w' => e = .returned (.agg #[.bool (neg (ival b (sval s) + ival b' (sval t))), .string (mag (ival b (sval s) + ival b' (sval t)))]) ∧ Below w.heap.size w w' := by
  have h := wAdd_any _ 2 2 _ _ w (by decide) (fun j => by split <;> assumption) (rdI2B h)
  have e : sumI (fun j => ival (if j = 0 then b else b') (sval (if j = 0 then s else t))) 2 = ival b (sval s) + ival b' (sval t) := by
    show (0 + ival b (sval s)) + ival b' (sval t) = _
    rw [Int.zero_add]
  rwa [e] at h
theorem wAdd3B (s t r : ByteArray) (b b' b'' : Bool) (g : Nat) (w : World) (hs : s.size ≤ 536870912) (ht : t.size ≤ 536870912) (hr : r.size ≤ 536870912) (h : Bx w g 26 #[.bool b, .string s, .bool b', .string t, .bool b'', .string r]) :
    Calls Tryd.prog 15 #[.slice (some ⟨g, 0, none⟩) 3 3] w fun e w' => e = .returned (.agg #[.bool (neg (ival b (sval s) + ival b' (sval t) + ival b'' (sval r))), .string (mag (ival b (sval s) + ival b' (sval t) + ival b'' (sval r)))]) ∧ Below w.heap.size w w' := by
  have h := wAdd_any _ 3 3 _ _ w (by decide) (fun j => by split <;> (try split) <;> assumption) (rdI3B h)
  have e : sumI (fun j => ival (if j = 0 then b else if j = 1 then b' else b'') (sval (if j = 0 then s else if j = 1 then t else r))) 3 = ival b (sval s) + ival b' (sval t) + ival b'' (sval r) := by
    show ((0 + ival b (sval s)) + ival b' (sval t)) + ival b'' (sval r) = _
    rw [Int.zero_add]
  rwa [e] at h
theorem wMul2B (s t : ByteArray) (b b' : Bool) (g : Nat) (w : World) (hs : s.size ≤ 134217728) (ht : t.size ≤ 134217728) (h : Bx w g 26 #[.bool b, .string s, .bool b', .string t]) :
    Calls Tryd.prog 21 #[.slice (some ⟨g, 0, none⟩) 2 2] w fun e w' => e = .returned (.agg #[.bool (neg (ival b (sval s) * ival b' (sval t))), .string (mag (ival b (sval s) * ival b' (sval t)))]) ∧ Below w.heap.size w w' := by
  have h := wMul_any _ 2 2 _ _ 134217728 w (by decide) (by decide) (fun j => by split <;> assumption) (by decide) (rdI2B h)
  have e : prodI (fun j => ival (if j = 0 then b else b') (sval (if j = 0 then s else t))) 2 = ival b (sval s) * ival b' (sval t) := by
    show (1 * ival b (sval s)) * ival b' (sval t) = _
    rw [Int.one_mul]
  rwa [e] at h
theorem wMul3B (s t r : ByteArray) (b b' b'' : Bool) (g : Nat) (w : World) (hs : s.size ≤ 134217728) (ht : t.size ≤ 134217728) (hr : r.size ≤ 134217728) (h : Bx w g 26 #[.bool b, .string s, .bool b', .string t, .bool b'', .string r]) :
    Calls Tryd.prog 21 #[.slice (some ⟨g, 0, none⟩) 3 3] w fun e w' => e = .returned (.agg #[.bool (neg (ival b (sval s) * ival b' (sval t) * ival b'' (sval r))), .string (mag (ival b (sval s) * ival b' (sval t) * ival b'' (sval r)))]) ∧ Below w.heap.size w w' := by
  have h := wMul_any _ 3 3 _ _ 134217728 w (by decide) (by decide) (fun j => by split <;> (try split) <;> assumption) (by decide) (rdI3B h)
  have e : prodI (fun j => ival (if j = 0 then b else if j = 1 then b' else b'') (sval (if j = 0 then s else if j = 1 then t else r))) 3 = ival b (sval s) * ival b' (sval t) * ival b'' (sval r) := by
    show ((1 * ival b (sval s)) * ival b' (sval t)) * ival b'' (sval r) = _
    rw [Int.one_mul]
  rwa [e] at h

set_option maxRecDepth 100000 in
set_option maxHeartbeats 400000 in
theorem lOf_any (n : Int) (w : World) (h1 : -9223372036854775808 ≤ n) (h2 : n ≤ 9223372036854775807) :
    Calls Tryd.prog 35 #[.int .i64 n] w fun e w' => e = .returned (.agg #[.bool (neg (n)), .string (mag (n))]) ∧ Below w.heap.size w w' := by
  have c := Lib.hid (fun W => rWOf_any n W h1 h2)
  clear h1 h2
  go_enter Tryd.func35, Tryd.ntmps35
  have X1 := Bx.new w 26 #[.bool false, .string ⟨#[]⟩]
  go_wp2_with fail
  refine (c.out _).mono ?_
  rintro e w1 ⟨rfl, hb⟩
  obtain ⟨p1, p2, p3, p4⟩ := (X1.later hb).two
  go_wp2
  exact bodyPost_ret (v := .agg #[.bool (neg (n)), .string (mag (n))]) (by simp [results, Tryd.results35, go_sem, ((X1.later hb).set2 _ _).cel]) rfl ⟨rfl, st2 (nxt (b1 w _) hb) (Nat.le_refl _) _ _⟩

set_option maxRecDepth 100000 in
set_option maxHeartbeats 400000 in
theorem divides_any (a b q r : Int) (w : World) (ha1 : -9223372036854775808 ≤ a) (ha2 : a ≤ 9223372036854775807) (hb1 : -9223372036854775808 ≤ b) (hb2 : b ≤ 9223372036854775807) (hq1 : -9223372036854775808 ≤ q) (hq2 : q ≤ 9223372036854775807) (hr1 : -9223372036854775808 ≤ r) (hr2 : r ≤ 9223372036854775807)
    (hb0 : b ≠ 0) (hq : a / b = q) (hr : a % b = r) :
    Calls Tryd.prog 43 #[.int .i64 a, .int .i64 b, .int .i64 q, .int .i64 r] w fun e w' => e = .returned (.bool true) ∧ Below w.heap.size w w' := by
  have cA := Lib.hid (fun W => lOf_any a W ha1 ha2)
  have cB := Lib.hid (fun W => lOf_any b W hb1 hb2)
  have cQ := Lib.hid (fun W => lOf_any q W hq1 hq2)
  have cR := Lib.hid (fun W => lOf_any r W hr1 hr2)
  have cD := Lib.hid (fun W => wDiv_any (mag a) (mag b) (neg a) (neg b) W (by rw [mag_size]; have := bsz_small ha1 ha2; omega) (by rw [mag_size]; have := bsz_small hb1 hb2; omega))
  simp only [ival_mk, hq, hr] at cD
  rw [if_neg (by rw [sval_mag]; omega)] at cD
  clear ha1 ha2 hb1 hb2 hq1 hq2 hr1 hr2 hb0 hq hr
  go_enter Tryd.func43, Tryd.ntmps43
  go_wp2_with fail
  refine (cA.out _).mono ?_
  rintro e w1 ⟨rfl, hb⟩
  have hB := hb
  clear hb
  go_wp2_with fail
  refine (cB.out _).mono ?_
  rintro e w2 ⟨rfl, hb⟩
  replace hB := nxt hB hb
  clear hb
  go_wp2_with fail
  refine (cD.out _).mono ?_
  rintro e w3 ⟨rfl, hb⟩
  replace hB := nxt hB hb
  clear hb
  have X1 := (Bx.new w3 26 #[.bool (neg q), .string (mag q)]).alloc (.cells #[.bool (neg r), .string (mag r)] 26)
  have X2 := Bx.at1 w3 (.cells #[.bool (neg q), .string (mag q)] 26) 26 #[.bool (neg r), .string (mag r)]
  replace hB := nxtA (nxtA hB (.cells #[.bool (neg q), .string (mag q)] 26)) (.cells #[.bool (neg r), .string (mag r)] 26)
  go_wp2_with fail
  generalize (w3.alloc (.cells #[.bool (neg q), .string (mag q)] 26)).alloc (.cells #[.bool (neg r), .string (mag r)] 26) = w4 at *
  obtain ⟨p1, p2, _, _⟩ := X1.two
  obtain ⟨q1, q2, _, _⟩ := X2.two
  go_region_held3 (fun w' => w'.cell? ⟨w3.heap.size, 0, none⟩ = some (.bool (neg q)) ∧ w'.cell? ⟨w3.heap.size, 1, none⟩ = some (.string (mag q)) ∧ w'.cell? ⟨w3.heap.size + 1, 0, none⟩ = some (.bool (neg r)) ∧ w'.cell? ⟨w3.heap.size + 1, 1, none⟩ = some (.string (mag r))) (first | exact ⟨p1, p2, q1, q2⟩ | exact ⟨cell_later hb p1, cell_later hb p2, cell_later hb q1, cell_later hb q2⟩ | exact ⟨cell_later hb2 (cell_later hb p1), cell_later hb2 (cell_later hb p2), cell_later hb2 (cell_later hb q1), cell_later hb2 (cell_later hb q2)⟩)
    (first
      | (go_at_call 35; refine (cQ.out w4.drew).mono ?_; rintro e wn ⟨rfl, hb'⟩; have hb := undrew hb'; clear hb')
      | (go_at_call 35; refine (cR.out wn).mono ?_; rintro e wm ⟨rfl, hb2⟩))
  go_wp2
  go_ret
  exact ⟨rfl, nxt (nxt hB hb) hb2⟩

end Go.Proofs.YtmnmfidcldmhdaaDoor
