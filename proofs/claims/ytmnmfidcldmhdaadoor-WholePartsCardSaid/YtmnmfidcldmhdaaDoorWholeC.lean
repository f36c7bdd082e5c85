/- The walks of package whole: Neg, Of, Sign. -/
import Derived.Test.YtmnmfidcldmhdaaDoorWholeB
namespace Go.Proofs.YtmnmfidcldmhdaaDoor
open Go.RowKit

set_option maxRecDepth 100000 in
set_option maxHeartbeats 400000 in
theorem wNeg_any (s : ByteArray) (b : Bool) (w : World) :
    Calls Tryd.prog 29 #[.agg #[.bool b, .string s]] w fun e w' => e = .returned (.agg #[.bool (neg (-ival b (sval s))), .string (mag (-ival b (sval s)))]) ∧ Below w.heap.size w w' := by
  rw [← ival_not]
  go_enter Tryd.func29, Tryd.ntmps29
  go_wp2_with fail
  have X1 := (Bx.new w 26 #[.bool b, .string s]).alloc (.cells #[.bool false, .string ⟨#[]⟩] 26)
  have X2 := Bx.at1 w (.cells #[.bool b, .string s] 26) 26 #[.bool false, .string ⟨#[]⟩]
  have hB := b2 w (.cells #[.bool b, .string s] 26) (.cells #[.bool false, .string ⟨#[]⟩] 26)
  generalize (w.alloc (.cells #[.bool b, .string s] 26)).alloc (.cells #[.bool false, .string ⟨#[]⟩] 26) = w0 at *
  have hl0 := X1.lt
  have hl1 := X2.lt
  refine (wMade_any s (!b) _).mono ?_
  rintro e w1 ⟨rfl, hb⟩
  obtain ⟨r1, r2, r3, r4⟩ := (X2.later hb).two
  go_wp2
  exact bodyPost_ret (v := .agg #[.bool (neg (ival (!b) (sval s))), .string (mag (ival (!b) (sval s)))]) (by simp [results, Tryd.results29, go_sem, ((X2.later hb).set2 _ _).cel]) rfl ⟨rfl, st2 (nxt hB hb) (Nat.le_add_right _ 1) _ _⟩

theorem nOf_i (v : Nat) (x : Int) (w : World) (hv : v < LB) (hx : x = (v : Int)) :
    Calls Tryd.prog 59 #[.int .u64 x] w fun e w' => e = .returned (.string (nstr v)) ∧ Below w.heap.size w w' := by subst hx; exact nOf_any v w hv
set_option maxRecDepth 100000 in
set_option maxHeartbeats 400000 in
theorem wOf_neg (v : Nat) (w : World) (h0 : 0 < v) (hv : v ≤ 9223372036854775808) :
    Calls Tryd.prog 32 #[.int .i64 (-(v : Int))] w fun e w' => e = .returned (.agg #[.bool (neg (-(v : Int))), .string (mag (-(v : Int)))]) ∧ Below w.heap.size w w' := by
  have hi : ival true (sval (nstr v)) = -(v : Int) := by rw [sval_nstr]; rfl
  have cm := Lib.hid (fun W => wMade_any (nstr v) true W)
  rw [hi] at cm
  have hcv : IntKind.u64.wrap (-(v : Int)) = 18446744073709551616 - (v : Int) := by rw [IntKind.wrap_u64]; omega
  have hcn : IntKind.u64.wrap (-(18446744073709551616 - (v : Int))) = (v : Int) := by rw [IntKind.wrap_u64]; omega
  have co := Lib.hid (fun W => nOf_any v W (by rw [LB_eq]; omega))
  clear hi
  go_enter Tryd.func32, Tryd.ntmps32
  have X := Bx.new w 26 #[.bool false, .string ⟨#[]⟩]
  go_wp2_with fail
  refine (co.out _).mono ?_
  rintro e w1 ⟨rfl, hb⟩
  have X1 := X.later hb
  have hB := nxt (b1 w _) hb
  clear hb X
  go_wp2_with fail
  refine (cm.out _).mono ?_
  rintro e w2 ⟨rfl, hb2⟩
  have X2 := X1.later hb2
  have hB2 := nxt hB hb2
  clear hb2 X1
  obtain ⟨r1, r2, r3, r4⟩ := X2.two
  go_wp2
  exact bodyPost_ret (v := .agg #[.bool (neg (-(v : Int))), .string (mag (-(v : Int)))]) (by simp [results, Tryd.results32, go_sem, (X2.set2 _ _).cel]) rfl ⟨rfl, st2 hB2 (Nat.le_refl _) _ _⟩

set_option maxRecDepth 100000 in
set_option maxHeartbeats 400000 in
theorem wOf_pos (v : Nat) (w : World) (hv : v ≤ 9223372036854775807) :
    Calls Tryd.prog 32 #[.int .i64 (v : Int)] w fun e w' => e = .returned (.agg #[.bool (neg ((v : Int))), .string (mag ((v : Int)))]) ∧ Below w.heap.size w w' := by
  have hi : ival false (sval (nstr v)) = (v : Int) := by rw [sval_nstr]; rfl
  have cm := Lib.hid (fun W => wMade_any (nstr v) false W)
  rw [hi] at cm
  have hcv : IntKind.u64.wrap (v : Int) = (v : Int) := by rw [IntKind.wrap_u64]; omega
  have co := Lib.hid (fun W => nOf_any v W (by rw [LB_eq]; omega))
  clear hi
  go_enter Tryd.func32, Tryd.ntmps32
  have X := Bx.new w 26 #[.bool false, .string ⟨#[]⟩]
  go_wp2_with fail
  refine (co.out _).mono ?_
  rintro e w1 ⟨rfl, hb⟩
  have X1 := X.later hb
  have hB := nxt (b1 w _) hb
  clear hb X
  go_wp2_with fail
  refine (cm.out _).mono ?_
  rintro e w2 ⟨rfl, hb2⟩
  have X2 := X1.later hb2
  have hB2 := nxt hB hb2
  clear hb2 X1
  obtain ⟨r1, r2, r3, r4⟩ := X2.two
  go_wp2
  exact bodyPost_ret (v := .agg #[.bool (neg ((v : Int))), .string (mag ((v : Int)))]) (by simp [results, Tryd.results32, go_sem, (X2.set2 _ _).cel]) rfl ⟨rfl, st2 hB2 (Nat.le_refl _) _ _⟩
theorem wOf_any (n : Int) (w : World) (h1 : -9223372036854775808 ≤ n) (h2 : n ≤ 9223372036854775807) :
    Calls Tryd.prog 32 #[.int .i64 n] w fun e w' => e = .returned (.agg #[.bool (neg (n)), .string (mag (n))]) ∧ Below w.heap.size w w' := by
  by_cases h : n < 0
  · obtain ⟨v, rfl⟩ : ∃ v : Nat, n = -(v : Int) := ⟨n.natAbs, by omega⟩
    exact wOf_neg v w (by omega) (by omega)
  · obtain ⟨v, rfl⟩ : ∃ v : Nat, n = (v : Int) := ⟨n.natAbs, by omega⟩
    exact wOf_pos v w (by omega)
theorem mag_empty {z : Int} : (mag z).toList = [] ↔ z = 0 := by
  unfold mag; rw [nstr_empty]; omega
theorem mag_full {z : Int} (h : z ≠ 0) : (mag z).toList.isEmpty = false := by
  rw [List.isEmpty_eq_false_iff]; exact fun e => h (mag_empty.1 e)

set_option maxRecDepth 100000 in
set_option maxHeartbeats 400000 in
theorem wSign_any (s : ByteArray) (b : Bool) (w : World) :
    Calls Tryd.prog 31 #[.agg #[.bool b, .string s]] w fun e w' => e = .returned (.int .i64 (sgn (ival b (sval s)))) ∧ Below w.heap.size w w' := by
  have cf := Lib.hid (fun W => wForm_any s b W)
  generalize ival b (sval s) = z at *
  rcases Int.lt_trichotomy z 0 with h | h | h
  · have hn : neg z = true := decide_eq_true h
    have HS := Lib.hid (show sgn z = -1 by unfold sgn; rw [if_pos h])
    clear h
    go_enter Tryd.func31, Tryd.ntmps31
    go_wp2_with fail
    refine (cf.out _).mono ?_
    rintro e w1 ⟨rfl, hb⟩
    go_wp2
    go_ret
    exact ⟨by rw [HS.out]; rfl, nxtA (nxt (b1 w _) hb) _⟩
  · have hn : neg z = false := decide_eq_false (by omega)
    have hm : (mag z).toList = [] := mag_empty.2 h
    have HS := Lib.hid (show sgn z = 0 from sgn_eq.2 h)
    clear h
    go_enter Tryd.func31, Tryd.ntmps31
    go_wp2_with fail
    refine (cf.out _).mono ?_
    rintro e w1 ⟨rfl, hb⟩
    go_wp2
    go_ret
    exact ⟨by rw [HS.out]; rfl, nxtA (nxt (b1 w _) hb) _⟩
  · have hn : neg z = false := decide_eq_false (by omega)
    have hm : (mag z).toList.isEmpty = false := mag_full (by omega)
    have HS := Lib.hid (show sgn z = 1 by unfold sgn; rw [if_neg (by omega), if_neg (by omega)])
    clear h
    go_enter Tryd.func31, Tryd.ntmps31
    go_wp2_with fail
    refine (cf.out _).mono ?_
    rintro e w1 ⟨rfl, hb⟩
    go_wp2
    go_ret
    exact ⟨by rw [HS.out]; rfl, nxtA (nxt (b1 w _) hb) _⟩

end Go.Proofs.YtmnmfidcldmhdaaDoor
