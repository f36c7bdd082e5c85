/- The walks of package whole: Shift. -/
import Derived.Test.YtmnmfidcldmhdaaDoorWholeE
import Derived.Deep.DeepCutAuto
namespace Go.Proofs.YtmnmfidcldmhdaaDoor
open Go.RowKit

/-- Moved up, or down towards the lesser one. -/
def shiftI (z n : Int) : Int := if 0 ≤ n then z * 2 ^ n.toNat else z / 2 ^ (-n).toNat
theorem ival_shl (b : Bool) (v k : Nat) : ival b (v * 2 ^ k) = ival b v * 2 ^ k := by
  cases b
  · simp [ival]
  · simp [ival, Int.neg_mul]
/-- Nothing is left: how far makes no difference. -/
theorem shr_far {z : Int} {k k' : Nat} (h : z.natAbs < 2 ^ k) (hk : k ≤ k') : z / 2 ^ k = z / 2 ^ k' := by
  have key : ∀ j : Nat, z.natAbs < 2 ^ j → z / 2 ^ j = if z < 0 then -1 else 0 := by
    intro j hj
    have hc : ((2 ^ j : Nat) : Int) = 2 ^ j := by simp
    rw [← hc]
    generalize 2 ^ j = M at *
    split
    · have e : z = ((M : Int) - z.natAbs) + (M : Int) * (-1) := by omega
      rw [e, Int.add_mul_ediv_left _ _ (by omega), Int.ediv_eq_zero_of_lt (by omega) (by omega)]; rfl
    · exact Int.ediv_eq_zero_of_lt (by omega) (by omega)
  rw [key k h, key k' (Nat.lt_of_lt_of_le h (Nat.pow_le_pow_right (by decide) hk))]
theorem tz_mod {v m : Nat} (h0 : v ≠ 0) : (tz v < m ↔ v % 2 ^ m ≠ 0) := by
  obtain ⟨r, hr⟩ := tz_spec h0
  generalize tz v = t at *
  constructor
  · intro hlt h
    have hd := Nat.dvd_of_mod_eq_zero h
    obtain ⟨d, rfl⟩ : ∃ d, m = t + 1 + d := ⟨m - t - 1, by omega⟩
    rw [hr, Nat.add_assoc, Nat.pow_add] at hd
    have hd2 := Nat.dvd_of_mul_dvd_mul_left (Nat.two_pow_pos t) hd
    rw [Nat.pow_add] at hd2
    have h2 : 2 ∣ 2 * r + 1 := Nat.dvd_trans ⟨2 ^ d, by rw [Nat.pow_one]⟩ hd2
    omega
  · intro h
    apply Nat.lt_of_not_le
    intro hle
    apply h
    obtain ⟨d, rfl⟩ : ∃ d, t = m + d := ⟨t - m, by omega⟩
    rw [hr, Nat.pow_add, Nat.mul_assoc]
    exact Nat.mul_mod_right _ _
theorem Bx.newd (w : World) (t : TypeId) (cs : Array Value) : Bx (w.drew.alloc (.cells cs t)) w.heap.size t cs := Bx.new w.drew t cs
theorem nd1_pos_iff (v : Nat) : 0 < nd 1 v ↔ v ≠ 0 := ⟨fun h e => by subst e; rw [nd_zero] at h; omega, fun h => nd_pos h⟩

set_option maxRecDepth 100000 in
set_option maxHeartbeats 400000 in
theorem wShift_up (s : ByteArray) (b : Bool) (n : Int) (w : World) (hs : s.size ≤ 4294967296) (h0 : 0 ≤ n) (hn : n ≤ 68719476736) :
    Calls Tryd.prog 27 #[.agg #[.bool b, .string s], .int .i64 n] w fun e w' => e = .returned (.agg #[.bool (neg (ival b (sval s) * 2 ^ n.toNat)), .string (mag (ival b (sval s) * 2 ^ n.toNat))]) ∧ Below w.heap.size w w' := by
  have c1 := Lib.hid (fun W => nShl_any s n W hs hn)
  have c2 := Lib.hid (fun W => wMade_any (nstr (sval s * 2 ^ n.toNat)) b W)
  rw [sval_nstr, ival_shl] at c2
  go_enter Tryd.func27, Tryd.ntmps27
  go_wp2_with fail
  have X1 := (Bx.new w 26 #[.bool b, .string s]).alloc (.cells #[.bool false, .string ⟨#[]⟩] 26)
  have X2 := Bx.at1 w (.cells #[.bool b, .string s] 26) 26 #[.bool false, .string ⟨#[]⟩]
  have hB := b2 w (.cells #[.bool b, .string s] 26) (.cells #[.bool false, .string ⟨#[]⟩] 26)
  generalize (w.alloc (.cells #[.bool b, .string s] 26)).alloc (.cells #[.bool false, .string ⟨#[]⟩] 26) = w0 at *
  have hl0 := X1.lt
  have hl1 := X2.lt
  obtain ⟨p1, p2, p3, p4⟩ := (X1).two
  obtain ⟨q1, q2, q3, q4⟩ := (X2).two
  go_region_held3 (fun w' => w'.cell? ⟨w.heap.size, 0, none⟩ = some (.bool b) ∧ w'.cell? ⟨w.heap.size, 1, none⟩ = some (.string s)) (first | exact ⟨p1, p2⟩ | exact ⟨cell_later hb p1, cell_later hb p2⟩ | exact ⟨cell_later hb2 (cell_later hb p1), cell_later hb2 (cell_later hb p2)⟩ | exact ⟨cell_far2 (cell_later hb2 (cell_later hb p1)) (by omega) _ _, cell_far2 (cell_later hb2 (cell_later hb p2)) (by omega) _ _⟩ | exact ⟨cell_later (b1 wm _) (cell_later hb2 (cell_later hb p1)), cell_later (b1 wm _) (cell_later hb2 (cell_later hb p2))⟩)
    (first
      | (go_at_call 53; refine (c1.out w0.drew).mono ?_; rintro e wn ⟨rfl, hb'⟩; have hb := undrew hb'; clear hb')
      | (go_at_call 46; refine (c2.out wn).mono ?_; rintro e wm ⟨rfl, hb2⟩; obtain ⟨t1, t2, t3, t4⟩ := ((X2.later hb).later hb2).two))
  go_wp2
  exact bodyPost_ret (v := .agg #[.bool (neg (ival b (sval s) * 2 ^ n.toNat)), .string (mag (ival b (sval s) * 2 ^ n.toNat))]) (by simp [results, Tryd.results27, go_sem, (((X2.later hb).later hb2).set2 _ _).cel]) rfl ⟨rfl, st2 (nxt (nxt hB hb) hb2) (Nat.le_add_right _ 1) _ _⟩

set_option maxRecDepth 100000 in
set_option maxHeartbeats 400000 in
theorem wShift_pos (s : ByteArray) (n : Int) (m : Nat) (w : World) (hs : s.size ≤ 4294967296) (_hs2 : s.size ≤ 536870912) (h0 : n < 0) (hm : max n (-1099511627776) = -(m : Int)) (hmb : m ≤ 1099511627776)  (hT : TabAt 0 Lib.deBruijn64tab w) :
    Calls Tryd.prog 27 #[.agg #[.bool false, .string s], .int .i64 n] w fun e w' => e = .returned (.agg #[.bool (neg (ival false (sval s / 2 ^ m))), .string (mag (ival false (sval s / 2 ^ m)))]) ∧ Below w.heap.size w w' := by
  have HT := Lib.hid hT
  clear hT
  have c1 := Lib.hid (fun W => nShr_any s (m : Int) W hs (by omega))
  have c2 := Lib.hid (fun W => wMade_any (nstr (sval s / 2 ^ m)) false W)
  rw [sval_nstr] at c2
  simp only [Int.toNat_natCast] at c1
  have hw1 : IntKind.i64.wrap (m : Int) = (m : Int) := IntWalk.i64_in _ (by omega)
  have hw2 : IntKind.i64.wrap (- -(m : Int)) = (m : Int) := by rw [Int.neg_neg]; exact hw1
  go_enter Tryd.func27, Tryd.ntmps27
  go_upto_region 4 with (fail)
  have X1 := (Bx.new w 26 #[.bool false, .string s]).alloc (.cells #[.bool false, .string ⟨#[]⟩] 26)
  have X2 := Bx.at1 w (.cells #[.bool false, .string s] 26) 26 #[.bool false, .string ⟨#[]⟩]
  have hB := b2 w (.cells #[.bool false, .string s] 26) (.cells #[.bool false, .string ⟨#[]⟩] 26)
  generalize (w.alloc (.cells #[.bool false, .string s] 26)).alloc (.cells #[.bool false, .string ⟨#[]⟩] 26) = w0 at *
  have hl0 := X1.lt
  have hl1 := X2.lt
  obtain ⟨p1, p2, p3, p4⟩ := (X1).two
  obtain ⟨q1, q2, q3, q4⟩ := (X2).two
  go_cut [5] (fun s5 wx => ∃ g : Nat, s5 = .pointer (some ⟨g, 0, none⟩) ∧ w.heap.size + 1 < g ∧ Bx wx g 26 #[.bool (neg (ival false (sval s / 2 ^ m))), .string (mag (ival false (sval s / 2 ^ m)))] ∧ Bx wx w.heap.size 26 #[.bool false, .string s] ∧ Bx wx (w.heap.size + 1) 26 #[.bool false, .string ⟨#[]⟩] ∧ Below w.heap.size w wx)
  case first =>
    go_region_held3 (fun w' => w'.cell? ⟨w.heap.size, 0, none⟩ = some (.bool false) ∧ w'.cell? ⟨w.heap.size, 1, none⟩ = some (.string s)) (first | exact ⟨p1, p2⟩ | (obtain ⟨a1, a2⟩ := ‹_ ∧ _›; first | exact ⟨cell_later hb2 a1, cell_later hb2 a2⟩ | exact ⟨cell_later hb a1, cell_later hb a2⟩ | exact ⟨cell_later (b1 _ _) a1, cell_later (b1 _ _) a2⟩ | exact ⟨cell_swap a1 (by omega), cell_swap a2 (by omega)⟩ | exact ⟨cell_far2 a1 (by omega) _ _, cell_far2 a2 (by omega) _ _⟩))
      (first
        | (go_at_call 54; refine (c1.out _).mono ?_; rintro e wn ⟨rfl, hb⟩; have hz := hb.size; (try simp at hz))
        | (go_at_call 46; refine (c2.out _).mono ?_; rintro e wm ⟨rfl, hb2⟩; have hz2 := hb2.size; (try simp at hz2); (try (have nn := ((Bx.new w0 26 #[.bool false, .string ⟨#[]⟩]).drew.later hb).later hb2; have n1 := nn.cel 0; have n2 := nn.cel 1; have n3 := nn.free 0; have n4 := nn.free 1; simp at n1 n2; clear nn)); (try (have nn := (Bx.new wn 26 #[.bool false, .string ⟨#[]⟩]).later hb2; have n1 := nn.cel 0; have n2 := nn.cel 1; have n3 := nn.free 0; have n4 := nn.free 1; simp at n1 n2; clear nn))))
    all_goals
      go_wp2_with fail
      go_meet
      first
        | exact ⟨_, rfl, (by omega), Bx.new wm _ _, ((X1.later (undrew hb)).later hb2).alloc _, ((X2.later (undrew hb)).later hb2).alloc _, nxtA (nxt (nxt hB (undrew hb)) hb2) _⟩
        | exact ⟨_, rfl, (by omega), ((Bx.new wn _ _).later hb2).set2 _ _, (((X1.later (undrew hb)).alloc _).later hb2).far2 (by omega) _ _, (((X2.later (undrew hb)).alloc _).later hb2).far2 (by omega) _ _, st2 (nxt (nxtA (nxt hB (undrew hb)) _) hb2) (by omega) _ _⟩
        | exact ⟨_, rfl, hl1, (((Bx.new w0 26 #[.bool false, .string ⟨#[]⟩]).drew.later hb).later hb2).set2 _ _, (((X1.alloc _).drew.later hb).later hb2).far2 (Nat.ne_of_lt hl0) _ _, (((X2.alloc _).drew.later hb).later hb2).far2 (Nat.ne_of_lt hl1) _ _, st2 (nxt (nxt (nxtA hB _).drew hb) hb2) (Nat.le_of_lt hl0) _ _⟩
  case rest =>
    obtain ⟨g, rfl, hg, Y3, Y1, Y2, hB⟩ := hcut
    obtain ⟨p1, p2, _, _⟩ := Y1.two
    obtain ⟨q1, q2, q3, q4⟩ := Y2.two
    obtain ⟨v1, v2, v3, v4⟩ := Y3.two
    go_wp2_with fail
    exact bodyPost_ret (v := .agg #[.bool (neg (ival false (sval s / 2 ^ m))), .string (mag (ival false (sval s / 2 ^ m)))]) (by simp [results, Tryd.results27, go_sem, (Y2.set2 _ _).cel]) rfl ⟨rfl, st2 hB (Nat.le_add_right _ 1) _ _⟩

set_option maxRecDepth 100000 in
set_option maxHeartbeats 400000 in
theorem wShift_zero (s : ByteArray) (n : Int) (m : Nat) (w : World) (hs : s.size ≤ 4294967296) (_hs2 : s.size ≤ 536870912) (h0 : n < 0) (hm : max n (-1099511627776) = -(m : Int)) (hmb : m ≤ 1099511627776) (hz : sval s = 0) (hT : TabAt 0 Lib.deBruijn64tab w) :
    Calls Tryd.prog 27 #[.agg #[.bool true, .string s], .int .i64 n] w fun e w' => e = .returned (.agg #[.bool (neg (ival true (sval s / 2 ^ m))), .string (mag (ival true (sval s / 2 ^ m)))]) ∧ Below w.heap.size w w' := by
  have HT := Lib.hid hT
  clear hT
  have c1 := Lib.hid (fun W => nShr_any s (m : Int) W hs (by omega))
  have c2 := Lib.hid (fun W => wMade_any (nstr (sval s / 2 ^ m)) true W)
  rw [sval_nstr] at c2
  simp only [Int.toNat_natCast] at c1
  have hL : nd 1 (sval s) = 0 := by rw [hz]; rfl
  have cL := Lib.hid (fun W => nLen_any s W hs)
  rw [hL] at cL
  clear hL hz
  have hw1 : IntKind.i64.wrap (m : Int) = (m : Int) := IntWalk.i64_in _ (by omega)
  have hw2 : IntKind.i64.wrap (- -(m : Int)) = (m : Int) := by rw [Int.neg_neg]; exact hw1
  go_enter Tryd.func27, Tryd.ntmps27
  go_upto_region 4 with (fail)
  have X1 := (Bx.new w 26 #[.bool true, .string s]).alloc (.cells #[.bool false, .string ⟨#[]⟩] 26)
  have X2 := Bx.at1 w (.cells #[.bool true, .string s] 26) 26 #[.bool false, .string ⟨#[]⟩]
  have hB := b2 w (.cells #[.bool true, .string s] 26) (.cells #[.bool false, .string ⟨#[]⟩] 26)
  generalize (w.alloc (.cells #[.bool true, .string s] 26)).alloc (.cells #[.bool false, .string ⟨#[]⟩] 26) = w0 at *
  have hl0 := X1.lt
  have hl1 := X2.lt
  obtain ⟨p1, p2, p3, p4⟩ := (X1).two
  obtain ⟨q1, q2, q3, q4⟩ := (X2).two
  go_cut [5] (fun s5 wx => ∃ g : Nat, s5 = .pointer (some ⟨g, 0, none⟩) ∧ w.heap.size + 1 < g ∧ Bx wx g 26 #[.bool (neg (ival true (sval s / 2 ^ m))), .string (mag (ival true (sval s / 2 ^ m)))] ∧ Bx wx w.heap.size 26 #[.bool true, .string s] ∧ Bx wx (w.heap.size + 1) 26 #[.bool false, .string ⟨#[]⟩] ∧ Below w.heap.size w wx)
  case first =>
    go_region_held3 (fun w' => w'.cell? ⟨w.heap.size, 0, none⟩ = some (.bool true) ∧ w'.cell? ⟨w.heap.size, 1, none⟩ = some (.string s)) (first | exact ⟨p1, p2⟩ | (obtain ⟨a1, a2⟩ := ‹_ ∧ _›; first | exact ⟨cell_later hb2 a1, cell_later hb2 a2⟩ | exact ⟨cell_later hb a1, cell_later hb a2⟩ | exact ⟨cell_later (b1 _ _) a1, cell_later (b1 _ _) a2⟩ | exact ⟨cell_swap a1 (by omega), cell_swap a2 (by omega)⟩ | exact ⟨cell_far2 a1 (by omega) _ _, cell_far2 a2 (by omega) _ _⟩))
      (first
        | (go_at_call 54; refine (c1.out _).mono ?_; rintro e wn ⟨rfl, hb⟩; have hz := hb.size; (try simp at hz))
        | (go_at_call 46; refine (c2.out _).mono ?_; rintro e wm ⟨rfl, hb2⟩; have hz2 := hb2.size; (try simp at hz2); (try (have nn := ((Bx.new w0 26 #[.bool false, .string ⟨#[]⟩]).drew.later hb).later hb2; have n1 := nn.cel 0; have n2 := nn.cel 1; have n3 := nn.free 0; have n4 := nn.free 1; simp at n1 n2; clear nn)); (try (have nn := (Bx.new wn 26 #[.bool false, .string ⟨#[]⟩]).later hb2; have n1 := nn.cel 0; have n2 := nn.cel 1; have n3 := nn.free 0; have n4 := nn.free 1; simp at n1 n2; clear nn))))
    all_goals
      go_wp2_with fail
      go_meet
      first
        | exact ⟨_, rfl, (by omega), Bx.new wm _ _, ((X1.later (undrew hb)).later hb2).alloc _, ((X2.later (undrew hb)).later hb2).alloc _, nxtA (nxt (nxt hB (undrew hb)) hb2) _⟩
        | exact ⟨_, rfl, (by omega), ((Bx.new wn _ _).later hb2).set2 _ _, (((X1.later (undrew hb)).alloc _).later hb2).far2 (by omega) _ _, (((X2.later (undrew hb)).alloc _).later hb2).far2 (by omega) _ _, st2 (nxt (nxtA (nxt hB (undrew hb)) _) hb2) (by omega) _ _⟩
        | exact ⟨_, rfl, hl1, (((Bx.new w0 26 #[.bool false, .string ⟨#[]⟩]).drew.later hb).later hb2).set2 _ _, (((X1.alloc _).drew.later hb).later hb2).far2 (Nat.ne_of_lt hl0) _ _, (((X2.alloc _).drew.later hb).later hb2).far2 (Nat.ne_of_lt hl1) _ _, st2 (nxt (nxt (nxtA hB _).drew hb) hb2) (Nat.le_of_lt hl0) _ _⟩
  case rest =>
    obtain ⟨g, rfl, hg, Y3, Y1, Y2, hB⟩ := hcut
    obtain ⟨p1, p2, _, _⟩ := Y1.two
    obtain ⟨q1, q2, q3, q4⟩ := Y2.two
    obtain ⟨v1, v2, v3, v4⟩ := Y3.two
    go_wp2_with fail
    refine (cL.out _).mono ?_
    rintro e wL ⟨rfl, hbL⟩
    replace Y1 := Y1.later hbL
    replace Y2 := Y2.later hbL
    replace Y3 := Y3.later hbL
    replace hB := nxt hB hbL
    clear hbL p1 p2 q1 q2 q3 q4 v1 v2 v3 v4
    obtain ⟨p1, p2, _, _⟩ := Y1.two
    obtain ⟨q1, q2, q3, q4⟩ := Y2.two
    obtain ⟨v1, v2, v3, v4⟩ := Y3.two
    go_wp2_with fail
    exact bodyPost_ret (v := .agg #[.bool (neg (ival true (sval s / 2 ^ m))), .string (mag (ival true (sval s / 2 ^ m)))]) (by simp [results, Tryd.results27, go_sem, (Y2.set2 _ _).cel]) rfl ⟨rfl, st2 hB (Nat.le_add_right _ 1) _ _⟩

set_option maxRecDepth 100000 in
set_option maxHeartbeats 400000 in
theorem wShift_even (s : ByteArray) (n : Int) (m : Nat) (w : World) (hs : s.size ≤ 4294967296) (_hs2 : s.size ≤ 536870912) (h0 : n < 0) (hm : max n (-1099511627776) = -(m : Int)) (hmb : m ≤ 1099511627776) (hz : sval s ≠ 0) (ht : sval s % 2 ^ m = 0) (hT : TabAt 0 Lib.deBruijn64tab w) :
    Calls Tryd.prog 27 #[.agg #[.bool true, .string s], .int .i64 n] w fun e w' => e = .returned (.agg #[.bool (neg (ival true (sval s / 2 ^ m))), .string (mag (ival true (sval s / 2 ^ m)))]) ∧ Below w.heap.size w w' := by
  have HT := Lib.hid hT
  clear hT
  have c1 := Lib.hid (fun W => nShr_any s (m : Int) W hs (by omega))
  have c2 := Lib.hid (fun W => wMade_any (nstr (sval s / 2 ^ m)) true W)
  rw [sval_nstr] at c2
  simp only [Int.toNat_natCast] at c1
  have hL : 0 < nd 1 (sval s) := nd_pos hz
  have cL := Lib.hid (fun W => nLen_any s W hs)
  have cZ := Lib.hid (fun W => nZeros_any s W hs)
  have hZ : ¬ ((tz (sval s) : Nat) : Int) < (m : Int) := fun h => (tz_mod hz).1 (by omega) ht
  clear hz ht
  have hw1 : IntKind.i64.wrap (m : Int) = (m : Int) := IntWalk.i64_in _ (by omega)
  have hw2 : IntKind.i64.wrap (- -(m : Int)) = (m : Int) := by rw [Int.neg_neg]; exact hw1
  go_enter Tryd.func27, Tryd.ntmps27
  go_upto_region 4 with (fail)
  have X1 := (Bx.new w 26 #[.bool true, .string s]).alloc (.cells #[.bool false, .string ⟨#[]⟩] 26)
  have X2 := Bx.at1 w (.cells #[.bool true, .string s] 26) 26 #[.bool false, .string ⟨#[]⟩]
  have hB := b2 w (.cells #[.bool true, .string s] 26) (.cells #[.bool false, .string ⟨#[]⟩] 26)
  generalize (w.alloc (.cells #[.bool true, .string s] 26)).alloc (.cells #[.bool false, .string ⟨#[]⟩] 26) = w0 at *
  have hl0 := X1.lt
  have hl1 := X2.lt
  obtain ⟨p1, p2, p3, p4⟩ := (X1).two
  obtain ⟨q1, q2, q3, q4⟩ := (X2).two
  go_cut [5] (fun s5 wx => ∃ g : Nat, s5 = .pointer (some ⟨g, 0, none⟩) ∧ w.heap.size + 1 < g ∧ Bx wx g 26 #[.bool (neg (ival true (sval s / 2 ^ m))), .string (mag (ival true (sval s / 2 ^ m)))] ∧ Bx wx w.heap.size 26 #[.bool true, .string s] ∧ Bx wx (w.heap.size + 1) 26 #[.bool false, .string ⟨#[]⟩] ∧ Below w.heap.size w wx)
  case first =>
    go_region_held3 (fun w' => w'.cell? ⟨w.heap.size, 0, none⟩ = some (.bool true) ∧ w'.cell? ⟨w.heap.size, 1, none⟩ = some (.string s)) (first | exact ⟨p1, p2⟩ | (obtain ⟨a1, a2⟩ := ‹_ ∧ _›; first | exact ⟨cell_later hb2 a1, cell_later hb2 a2⟩ | exact ⟨cell_later hb a1, cell_later hb a2⟩ | exact ⟨cell_later (b1 _ _) a1, cell_later (b1 _ _) a2⟩ | exact ⟨cell_swap a1 (by omega), cell_swap a2 (by omega)⟩ | exact ⟨cell_far2 a1 (by omega) _ _, cell_far2 a2 (by omega) _ _⟩))
      (first
        | (go_at_call 54; refine (c1.out _).mono ?_; rintro e wn ⟨rfl, hb⟩; have hz := hb.size; (try simp at hz))
        | (go_at_call 46; refine (c2.out _).mono ?_; rintro e wm ⟨rfl, hb2⟩; have hz2 := hb2.size; (try simp at hz2); (try (have nn := ((Bx.new w0 26 #[.bool false, .string ⟨#[]⟩]).drew.later hb).later hb2; have n1 := nn.cel 0; have n2 := nn.cel 1; have n3 := nn.free 0; have n4 := nn.free 1; simp at n1 n2; clear nn)); (try (have nn := (Bx.new wn 26 #[.bool false, .string ⟨#[]⟩]).later hb2; have n1 := nn.cel 0; have n2 := nn.cel 1; have n3 := nn.free 0; have n4 := nn.free 1; simp at n1 n2; clear nn))))
    all_goals
      go_wp2_with fail
      go_meet
      first
        | exact ⟨_, rfl, (by omega), Bx.new wm _ _, ((X1.later (undrew hb)).later hb2).alloc _, ((X2.later (undrew hb)).later hb2).alloc _, nxtA (nxt (nxt hB (undrew hb)) hb2) _⟩
        | exact ⟨_, rfl, (by omega), ((Bx.new wn _ _).later hb2).set2 _ _, (((X1.later (undrew hb)).alloc _).later hb2).far2 (by omega) _ _, (((X2.later (undrew hb)).alloc _).later hb2).far2 (by omega) _ _, st2 (nxt (nxtA (nxt hB (undrew hb)) _) hb2) (by omega) _ _⟩
        | exact ⟨_, rfl, hl1, (((Bx.new w0 26 #[.bool false, .string ⟨#[]⟩]).drew.later hb).later hb2).set2 _ _, (((X1.alloc _).drew.later hb).later hb2).far2 (Nat.ne_of_lt hl0) _ _, (((X2.alloc _).drew.later hb).later hb2).far2 (Nat.ne_of_lt hl1) _ _, st2 (nxt (nxt (nxtA hB _).drew hb) hb2) (Nat.le_of_lt hl0) _ _⟩
  case rest =>
    obtain ⟨g, rfl, hg, Y3, Y1, Y2, hB⟩ := hcut
    obtain ⟨p1, p2, _, _⟩ := Y1.two
    obtain ⟨q1, q2, q3, q4⟩ := Y2.two
    obtain ⟨v1, v2, v3, v4⟩ := Y3.two
    go_wp2_with fail
    refine (cL.out _).mono ?_
    rintro e wL ⟨rfl, hbL⟩
    replace Y1 := Y1.later hbL
    replace Y2 := Y2.later hbL
    replace Y3 := Y3.later hbL
    replace hB := nxt hB hbL
    clear hbL p1 p2 q1 q2 q3 q4 v1 v2 v3 v4
    obtain ⟨p1, p2, _, _⟩ := Y1.two
    obtain ⟨q1, q2, q3, q4⟩ := Y2.two
    obtain ⟨v1, v2, v3, v4⟩ := Y3.two
    go_wp2_with fail
    refine (cZ.out _ (tab_keep HT.out hB)).mono ?_
    rintro e wZ ⟨rfl, hbZ⟩
    replace Y1 := Y1.later hbZ
    replace Y2 := Y2.later hbZ
    replace Y3 := Y3.later hbZ
    replace hB := nxt hB hbZ
    clear hbZ p1 p2 q1 q2 q3 q4 v1 v2 v3 v4
    obtain ⟨p1, p2, _, _⟩ := Y1.two
    obtain ⟨q1, q2, q3, q4⟩ := Y2.two
    obtain ⟨v1, v2, v3, v4⟩ := Y3.two
    go_wp2_with fail
    exact bodyPost_ret (v := .agg #[.bool (neg (ival true (sval s / 2 ^ m))), .string (mag (ival true (sval s / 2 ^ m)))]) (by simp [results, Tryd.results27, go_sem, (Y2.set2 _ _).cel]) rfl ⟨rfl, st2 hB (Nat.le_add_right _ 1) _ _⟩

set_option maxRecDepth 100000 in
set_option maxHeartbeats 400000 in
theorem wShift_odd (s : ByteArray) (n : Int) (m : Nat) (w : World) (hs : s.size ≤ 4294967296) (hs2 : s.size ≤ 536870912) (h0 : n < 0) (hm : max n (-1099511627776) = -(m : Int)) (hmb : m ≤ 1099511627776) (hz : sval s ≠ 0) (ht : sval s % 2 ^ m ≠ 0) (hT : TabAt 0 Lib.deBruijn64tab w) :
    Calls Tryd.prog 27 #[.agg #[.bool true, .string s], .int .i64 n] w fun e w' => e = .returned (.agg #[.bool (neg (ival true (sval s / 2 ^ m) - 1)), .string (mag (ival true (sval s / 2 ^ m) - 1))]) ∧ Below w.heap.size w w' := by
  have HT := Lib.hid hT
  clear hT
  have c1 := Lib.hid (fun W => nShr_any s (m : Int) W hs (by omega))
  have c2 := Lib.hid (fun W => wMade_any (nstr (sval s / 2 ^ m)) true W)
  rw [sval_nstr] at c2
  simp only [Int.toNat_natCast] at c1
  have cO := Lib.hid (fun W => wOf_any 1 W (by decide) (by decide))
  have hzs : (mag (ival true (sval s / 2 ^ m))).size ≤ 536870912 := by
    rw [mag_size]
    refine Nat.le_trans (bsz_natAbs_le (y := ival true (sval s)) ?_) (Nat.le_trans (bsz_ival _ _) hs2)
    rw [ival_natAbs, ival_natAbs]; exact Nat.div_le_self _ _
  have cS := Lib.hid (fun W => wSub_any (mag (ival true (sval s / 2 ^ m))) (mag 1) (neg (ival true (sval s / 2 ^ m))) (neg 1) W hzs (by decide))
  rw [ival_mk, ival_mk] at cS
  clear hzs
  have hL : 0 < nd 1 (sval s) := nd_pos hz
  have cL := Lib.hid (fun W => nLen_any s W hs)
  have cZ := Lib.hid (fun W => nZeros_any s W hs)
  have hZ : ((tz (sval s) : Nat) : Int) < (m : Int) := by have := (tz_mod hz).2 ht; omega
  clear hz ht
  have hw1 : IntKind.i64.wrap (m : Int) = (m : Int) := IntWalk.i64_in _ (by omega)
  have hw2 : IntKind.i64.wrap (- -(m : Int)) = (m : Int) := by rw [Int.neg_neg]; exact hw1
  go_enter Tryd.func27, Tryd.ntmps27
  go_upto_region 4 with (fail)
  have X1 := (Bx.new w 26 #[.bool true, .string s]).alloc (.cells #[.bool false, .string ⟨#[]⟩] 26)
  have X2 := Bx.at1 w (.cells #[.bool true, .string s] 26) 26 #[.bool false, .string ⟨#[]⟩]
  have hB := b2 w (.cells #[.bool true, .string s] 26) (.cells #[.bool false, .string ⟨#[]⟩] 26)
  generalize (w.alloc (.cells #[.bool true, .string s] 26)).alloc (.cells #[.bool false, .string ⟨#[]⟩] 26) = w0 at *
  have hl0 := X1.lt
  have hl1 := X2.lt
  obtain ⟨p1, p2, p3, p4⟩ := (X1).two
  obtain ⟨q1, q2, q3, q4⟩ := (X2).two
  go_cut [5] (fun s5 wx => ∃ g : Nat, s5 = .pointer (some ⟨g, 0, none⟩) ∧ w.heap.size + 1 < g ∧ Bx wx g 26 #[.bool (neg (ival true (sval s / 2 ^ m))), .string (mag (ival true (sval s / 2 ^ m)))] ∧ Bx wx w.heap.size 26 #[.bool true, .string s] ∧ Bx wx (w.heap.size + 1) 26 #[.bool false, .string ⟨#[]⟩] ∧ Below w.heap.size w wx)
  case first =>
    go_region_held3 (fun w' => w'.cell? ⟨w.heap.size, 0, none⟩ = some (.bool true) ∧ w'.cell? ⟨w.heap.size, 1, none⟩ = some (.string s)) (first | exact ⟨p1, p2⟩ | (obtain ⟨a1, a2⟩ := ‹_ ∧ _›; first | exact ⟨cell_later hb2 a1, cell_later hb2 a2⟩ | exact ⟨cell_later hb a1, cell_later hb a2⟩ | exact ⟨cell_later (b1 _ _) a1, cell_later (b1 _ _) a2⟩ | exact ⟨cell_swap a1 (by omega), cell_swap a2 (by omega)⟩ | exact ⟨cell_far2 a1 (by omega) _ _, cell_far2 a2 (by omega) _ _⟩))
      (first
        | (go_at_call 54; refine (c1.out _).mono ?_; rintro e wn ⟨rfl, hb⟩; have hz := hb.size; (try simp at hz))
        | (go_at_call 46; refine (c2.out _).mono ?_; rintro e wm ⟨rfl, hb2⟩; have hz2 := hb2.size; (try simp at hz2); (try (have nn := ((Bx.new w0 26 #[.bool false, .string ⟨#[]⟩]).drew.later hb).later hb2; have n1 := nn.cel 0; have n2 := nn.cel 1; have n3 := nn.free 0; have n4 := nn.free 1; simp at n1 n2; clear nn)); (try (have nn := (Bx.new wn 26 #[.bool false, .string ⟨#[]⟩]).later hb2; have n1 := nn.cel 0; have n2 := nn.cel 1; have n3 := nn.free 0; have n4 := nn.free 1; simp at n1 n2; clear nn))))
    all_goals
      go_wp2_with fail
      go_meet
      first
        | exact ⟨_, rfl, (by omega), Bx.new wm _ _, ((X1.later (undrew hb)).later hb2).alloc _, ((X2.later (undrew hb)).later hb2).alloc _, nxtA (nxt (nxt hB (undrew hb)) hb2) _⟩
        | exact ⟨_, rfl, (by omega), ((Bx.new wn _ _).later hb2).set2 _ _, (((X1.later (undrew hb)).alloc _).later hb2).far2 (by omega) _ _, (((X2.later (undrew hb)).alloc _).later hb2).far2 (by omega) _ _, st2 (nxt (nxtA (nxt hB (undrew hb)) _) hb2) (by omega) _ _⟩
        | exact ⟨_, rfl, hl1, (((Bx.new w0 26 #[.bool false, .string ⟨#[]⟩]).drew.later hb).later hb2).set2 _ _, (((X1.alloc _).drew.later hb).later hb2).far2 (Nat.ne_of_lt hl0) _ _, (((X2.alloc _).drew.later hb).later hb2).far2 (Nat.ne_of_lt hl1) _ _, st2 (nxt (nxt (nxtA hB _).drew hb) hb2) (Nat.le_of_lt hl0) _ _⟩
  case rest =>
    obtain ⟨g, rfl, hg, Y3, Y1, Y2, hB⟩ := hcut
    obtain ⟨p1, p2, _, _⟩ := Y1.two
    obtain ⟨q1, q2, q3, q4⟩ := Y2.two
    obtain ⟨v1, v2, v3, v4⟩ := Y3.two
    go_wp2_with fail
    refine (cL.out _).mono ?_
    rintro e wL ⟨rfl, hbL⟩
    replace Y1 := Y1.later hbL
    replace Y2 := Y2.later hbL
    replace Y3 := Y3.later hbL
    replace hB := nxt hB hbL
    clear hbL p1 p2 q1 q2 q3 q4 v1 v2 v3 v4
    obtain ⟨p1, p2, _, _⟩ := Y1.two
    obtain ⟨q1, q2, q3, q4⟩ := Y2.two
    obtain ⟨v1, v2, v3, v4⟩ := Y3.two
    go_wp2_with fail
    refine (cZ.out _ (tab_keep HT.out hB)).mono ?_
    rintro e wZ ⟨rfl, hbZ⟩
    replace Y1 := Y1.later hbZ
    replace Y2 := Y2.later hbZ
    replace Y3 := Y3.later hbZ
    replace hB := nxt hB hbZ
    clear hbZ p1 p2 q1 q2 q3 q4 v1 v2 v3 v4
    obtain ⟨p1, p2, _, _⟩ := Y1.two
    obtain ⟨q1, q2, q3, q4⟩ := Y2.two
    obtain ⟨v1, v2, v3, v4⟩ := Y3.two
    go_wp2_with fail
    go_region_held3 (fun w' => w'.cell? ⟨g, 0, none⟩ = some (.bool (neg (ival true (sval s / 2 ^ m)))) ∧ w'.cell? ⟨g, 1, none⟩ = some (.string (mag (ival true (sval s / 2 ^ m))))) (first | exact ⟨v1, v2⟩ | exact ⟨cell_later hb v1, cell_later hb v2⟩ | exact ⟨cell_later hb2 (cell_later hb v1), cell_later hb2 (cell_later hb v2)⟩ | exact ⟨cell_far2 (cell_later hb2 (cell_later hb v1)) (by omega) _ _, cell_far2 (cell_later hb2 (cell_later hb v2)) (by omega) _ _⟩)
      (first
        | (go_at_call 32; refine (cO.out wZ.drew).mono ?_; rintro e wa ⟨rfl, hb'⟩; have hb := undrew hb'; clear hb')
        | (go_at_call 17; refine (cS.out wa).mono ?_; rintro e wb ⟨rfl, hb2⟩; obtain ⟨t1, t2, t3, t4⟩ := ((Y2.later hb).later hb2).two))
    go_wp2
    exact bodyPost_ret (v := .agg #[.bool (neg (ival true (sval s / 2 ^ m) - 1)), .string (mag (ival true (sval s / 2 ^ m) - 1))]) (by simp [results, Tryd.results27, go_sem, (((Y2.later hb).later hb2).set2 _ _).cel]) rfl ⟨rfl, st2 (nxt (nxt hB hb) hb2) (Nat.le_add_right _ 1) _ _⟩

theorem wShift_any (s : ByteArray) (b : Bool) (n : Int) (w : World) (hs : s.size ≤ 536870912) (hn : n ≤ 68719476736) (hn2 : -9223372036854775808 ≤ n) (hT : TabAt 0 Lib.deBruijn64tab w) :
    Calls Tryd.prog 27 #[.agg #[.bool b, .string s], .int .i64 n] w fun e w' => e = .returned (.agg #[.bool (neg (shiftI (ival b (sval s)) n)), .string (mag (shiftI (ival b (sval s)) n))]) ∧ Below w.heap.size w w' := by
  have hs4 : s.size ≤ 4294967296 := by omega
  by_cases h0 : 0 ≤ n
  · have e : shiftI (ival b (sval s)) n = ival b (sval s) * 2 ^ n.toNat := by unfold shiftI; rw [if_pos h0]
    rw [e]
    exact wShift_up s b n w hs4 h0 hn
  · obtain ⟨m, hm⟩ : ∃ m : Nat, max n (-1099511627776) = -(m : Int) := ⟨(max n (-1099511627776)).natAbs, by omega⟩
    have hmb : m ≤ 1099511627776 := by omega
    obtain ⟨K, hK⟩ : ∃ K : Nat, K = 1099511627776 := ⟨_, rfl⟩
    have hlt : sval s < 2 ^ K := by
      refine Nat.lt_of_lt_of_le (sval_lt s) ?_
      rw [show 256 = 2 ^ 8 from rfl, ← Nat.pow_mul]
      exact Nat.pow_le_pow_right (by decide) (by omega)
    have e : shiftI (ival b (sval s)) n = ival b (sval s) / 2 ^ m := by
      unfold shiftI; rw [if_neg h0]
      by_cases hc : -1099511627776 ≤ n
      · congr 2; omega
      · obtain rfl : m = K := by omega
        exact (shr_far (by rw [ival_natAbs]; exact hlt) (by omega)).symm
    rw [e, shr_signs]
    clear e hlt
    cases b
    · rw [if_neg (by simp), Int.sub_zero]
      exact wShift_pos s n m w hs4 hs (by omega) hm hmb hT
    · by_cases hz : sval s = 0
      · rw [if_neg (by rw [hz]; simp), Int.sub_zero]
        exact wShift_zero s n m w hs4 hs (by omega) hm hmb hz hT
      · by_cases ht : sval s % 2 ^ m = 0
        · rw [if_neg (by simp [ht]), Int.sub_zero]
          exact wShift_even s n m w hs4 hs (by omega) hm hmb hz ht hT
        · rw [if_pos ⟨rfl, ht⟩]
          exact wShift_odd s n m w hs4 hs (by omega) hm hmb hz ht hT

end Go.Proofs.YtmnmfidcldmhdaaDoor
