/- The walks of package whole: made, of, cmp, Form, Neg. -/
import Derived.Test.YtmnmfidcldmhdaaDoorNatJ
import Derived.Test.YtmnmfidcldmhdaaDoorInt
import Derived.Test.YtmnmfidcldmhdaaDoorBox
import Derived.Deep.RegionHeld3
namespace Go.Proofs.YtmnmfidcldmhdaaDoor
open Go.RowKit

set_option maxRecDepth 100000 in
set_option maxHeartbeats 400000 in
theorem wMade_any (s : ByteArray) (b : Bool) (w : World) :
    Calls Tryd.prog 46 #[.agg #[.string s, .bool b]] w fun e w' => e = .returned (.agg #[.bool (neg (ival b (sval s))), .string (mag (ival b (sval s)))]) ∧ Below w.heap.size w w' := by
  have hn := ival_neg b (sval s)
  have hm := mag_ival b (sval s)
  have hT := Lib.hid (fun W => nTrim_any s W)
  generalize ival b (sval s) = z at *
  generalize sval s = v at *
  have hemp := nstr_empty (v := v)
  generalize nstr v = t at *
  by_cases h0 : v = 0
  · subst h0
    have he : t.toList = [] := hemp.2 rfl
    cases b
    all_goals
      have HN := Lib.hid hn
      have HM := Lib.hid hm
      clear hn hm hemp
      go_enter Tryd.func46, Tryd.ntmps46
      go_wp2_with (go_at_call 60; refine (hT.out _).mono ?_; rintro e wn ⟨rfl, rfl⟩)
      exact bodyPost_ret (v := .agg #[.bool false, .string t]) (by simp [results, Tryd.results46, go_sem]) rfl ⟨by rw [HN.out, HM.out]; rfl, b2 _ _ _⟩
  · have he : t.toList.isEmpty = false := by
      rw [List.isEmpty_eq_false_iff]; exact fun h => h0 (hemp.1 h)
    have hv : (v == 0) = false := by simpa using h0
    rw [hv] at hn
    cases b
    · have HN := Lib.hid hn
      have HM := Lib.hid hm
      clear hn hm hemp hv h0
      go_enter Tryd.func46, Tryd.ntmps46
      go_wp2_with (go_at_call 60; refine (hT.out _).mono ?_; rintro e wn ⟨rfl, rfl⟩)
      exact bodyPost_ret (v := .agg #[.bool false, .string t]) (by simp [results, Tryd.results46, go_sem]) rfl ⟨by rw [HN.out, HM.out]; rfl, b2 _ _ _⟩
    · have HN := Lib.hid hn
      have HM := Lib.hid hm
      clear hn hm hemp hv h0
      go_enter Tryd.func46, Tryd.ntmps46
      go_wp2_with (go_at_call 60; refine (hT.out _).mono ?_; rintro e wn ⟨rfl, rfl⟩)
      exact bodyPost_ret (v := .agg #[.bool true, .string t]) (by simp [results, Tryd.results46, go_sem]) rfl ⟨by rw [HN.out, HM.out]; rfl, b2 _ _ _⟩

set_option maxRecDepth 100000 in
set_option maxHeartbeats 400000 in
theorem wof_any (s : ByteArray) (b : Bool) (w : World) :
    Calls Tryd.prog 45 #[.agg #[.bool b, .string s]] w fun e w' => e = .returned (.agg #[.string s, .bool b]) ∧ Below w.heap.size w w' := by
  go_enter Tryd.func45, Tryd.ntmps45
  go_wp2
  exact bodyPost_ret (v := .agg #[.string s, .bool b]) (by simp [results, Tryd.results45, go_sem]) rfl ⟨rfl, b2 _ _ _⟩

set_option maxRecDepth 100000 in
set_option maxHeartbeats 400000 in
theorem wcmp_any (s t : ByteArray) (w : World) (hs : s.size ≤ 4294967296) (ht : t.size ≤ 4294967296) :
    Calls Tryd.prog 69 #[.string s, .string t] w fun e w' => e = .returned (.int .i64 (cmpI (sval s) (sval t))) ∧ Below w.heap.size w w' := by
  go_enter Tryd.func69, Tryd.ntmps69
  go_wp2_with (go_at_call 99; refine (nCmp_any s t _ hs ht).mono ?_; rintro e wn ⟨rfl, hb⟩)
  go_ret
  exact ⟨rfl, hb⟩

set_option maxRecDepth 100000 in
set_option maxHeartbeats 400000 in
theorem wForm_any (s : ByteArray) (b : Bool) (w : World) :
    Calls Tryd.prog 30 #[.agg #[.bool b, .string s]] w fun e w' => e = .returned (.agg #[.bool (neg (ival b (sval s))), .string (mag (ival b (sval s)))]) ∧ Below w.heap.size w w' := by
  go_enter Tryd.func30, Tryd.ntmps30
  go_wp2_with fail
  refine (wof_any s b _).mono ?_
  rintro e w1 ⟨rfl, hb⟩
  have R1 := (Bx.at1 w _ _ _).later hb
  have hB1 := nxt (b2 w _ _) hb
  go_wp2_with fail
  refine (wMade_any s b _).mono ?_
  rintro e w2 ⟨rfl, hb2⟩
  have R2 := R1.later hb2
  have hB2 := nxt hB1 hb2
  obtain ⟨r0, r1, r2, r3⟩ := R2.two
  clear hb hb2
  go_wp2
  exact bodyPost_ret (v := .agg #[.bool (neg (ival b (sval s))), .string (mag (ival b (sval s)))]) (by simp [results, Tryd.results30, go_sem, (R2.set2 _ _).cel]) rfl ⟨rfl, st2 hB2 (Nat.le_succ _) _ _⟩
end Go.Proofs.YtmnmfidcldmhdaaDoor
