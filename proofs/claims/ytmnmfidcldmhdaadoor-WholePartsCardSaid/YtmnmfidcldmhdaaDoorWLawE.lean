/- The walk of ogeelaw02.WholeShifts: it answers true. -/
import Derived.Test.YtmnmfidcldmhdaaDoorWLawB
import Derived.Test.YtmnmfidcldmhdaaDoorRefZ
namespace Go.Proofs.YtmnmfidcldmhdaaDoor
open Go.RowKit

theorem rdI1B {w : World} {g : Nat} {s : ByteArray} {b : Bool} (h : Bx w g 26 #[.bool b, .string s]) : RdI w (some ⟨g, 0, none⟩) 1 (fun _ => b) (fun _ => s) := fun _ =>
  ⟨g, 0, rfl, fun j hj => by
    obtain rfl : j = 0 := by omega
    exact ⟨h.cel 0, h.cel 1⟩⟩
theorem long1_no (s : ByteArray) (b : Bool) (m : Int) (w : World) (hs : (s.size : Int) ≤ m) :
    Calls Tryd.prog 13 #[.int .i64 m, .slice (some ⟨w.heap.size, 0, none⟩) 1 1] (w.alloc (.cells #[.bool b, .string s] 26)) fun e w' => e = .returned (.bool false) ∧ w.alloc (.cells #[.bool b, .string s] 26) = w' :=
  long_no _ 1 1 _ _ m _ (by decide) (fun _ _ => hs) (rdI1B (Bx.new w _ _))
theorem long1_yes (s : ByteArray) (b : Bool) (m : Int) (w : World) (hs : m < (s.size : Int)) :
    Calls Tryd.prog 13 #[.int .i64 m, .slice (some ⟨w.heap.size, 0, none⟩) 1 1] (w.alloc (.cells #[.bool b, .string s] 26)) fun e w' => e = .returned (.bool true) ∧ w.alloc (.cells #[.bool b, .string s] 26) = w' :=
  long_yes _ 1 1 _ _ m _ (by decide) 0 (by decide) hs (rdI1B (Bx.new w _ _))
theorem long3_no (s t r : ByteArray) (b b' b'' : Bool) (m : Int) (w : World) (hs : (s.size : Int) ≤ m) (ht : (t.size : Int) ≤ m) (hr : (r.size : Int) ≤ m) :
    Calls Tryd.prog 13 #[.int .i64 m, .slice (some ⟨w.heap.size, 0, none⟩) 3 3] (w.alloc (.cells #[.bool b, .string s, .bool b', .string t, .bool b'', .string r] 26)) fun e w' => e = .returned (.bool false) ∧ w.alloc (.cells #[.bool b, .string s, .bool b', .string t, .bool b'', .string r] 26) = w' :=
  long_no _ 3 3 _ _ m _ (by decide) (fun j _ => by split <;> (try split) <;> assumption) (rdI3B (Bx.new w _ _))
theorem long3_yes (s t r : ByteArray) (b b' b'' : Bool) (m : Int) (w : World) (hs : m < (s.size : Int) ∨ m < (t.size : Int) ∨ m < (r.size : Int)) :
    Calls Tryd.prog 13 #[.int .i64 m, .slice (some ⟨w.heap.size, 0, none⟩) 3 3] (w.alloc (.cells #[.bool b, .string s, .bool b', .string t, .bool b'', .string r] 26)) fun e w' => e = .returned (.bool true) ∧ w.alloc (.cells #[.bool b, .string s, .bool b', .string t, .bool b'', .string r] 26) = w' := by
  rcases hs with h | h | h
  · exact long_yes _ 3 3 _ _ m _ (by decide) 0 (by decide) h (rdI3B (Bx.new w _ _))
  · exact long_yes _ 3 3 _ _ m _ (by decide) 1 (by decide) h (rdI3B (Bx.new w _ _))
  · exact long_yes _ 3 3 _ _ m _ (by decide) 2 (by decide) h (rdI3B (Bx.new w _ _))

set_option maxRecDepth 100000 in
set_option maxHeartbeats 2000000 in
theorem wholeShifts_any (s : ByteArray) (b : Bool) (n : Int) (w : World) (hn' : (Lit.int IntKind.i64 n).wf = true) (hT : TabAt 0 Lib.deBruijn64tab w) :
    Calls Tryd.prog 6 #[.agg #[.bool b, .string s], .int .i64 n] w fun e w' => e = .returned (.bool true) ∧ Below w.heap.size w w' := by
  have hn : -9223372036854775808 ≤ n ∧ n ≤ 9223372036854775807 := by simpa [Lit.wf, IntKind.min, IntKind.max, IntKind.signed, IntKind.bits] using hn'
  have HA := Lib.hid (fun W (h : Below w.heap.size w W) => wawake_any W (tab_keep hT h))
  clear hn'
  by_cases hbig : (60 : Int) < (s.size : Int)
  · have cl := Lib.hid (fun W => long1_yes s b 60 W hbig)
    clear hbig hT hn
    go_enter Tryd.func6, Tryd.ntmps6
    go_upto_region 1 with (fail)
    have X1 := Bx.new w 26 #[.bool b, .string s]
    have hB := b1 w (.cells #[.bool b, .string s] 26)
    generalize w.alloc (.cells #[.bool b, .string s] 26) = w0 at *
    have hl0 := X1.lt
    obtain ⟨p1, p2, _, _⟩ := X1.two
    go_wp2_with fail
    refine (cl.out w0).mono ?_
    rintro e w1 ⟨rfl, rfl⟩
    replace hB := nxtA hB (.cells #[.bool b, .string s] 26)
    go_wp2_with fail
    refine (HA.out _ hB).mono ?_
    rintro e wz ⟨rfl, hb⟩
    go_wp2
    go_ret
    exact ⟨rfl, nxt hB hb⟩
  have hs1 : (s.size : Int) ≤ 60 := by omega
  have cl := Lib.hid (fun W => long1_no s b 60 W hs1)
  by_cases hbig2 : 1000 < n
  · clear hbig hT hn hs1
    go_enter Tryd.func6, Tryd.ntmps6
    go_upto_region 1 with (fail)
    have X1 := Bx.new w 26 #[.bool b, .string s]
    have hB := b1 w (.cells #[.bool b, .string s] 26)
    generalize w.alloc (.cells #[.bool b, .string s] 26) = w0 at *
    have hl0 := X1.lt
    obtain ⟨p1, p2, _, _⟩ := X1.two
    go_wp2_with fail
    refine (cl.out w0).mono ?_
    rintro e w1 ⟨rfl, rfl⟩
    replace hB := nxtA hB (.cells #[.bool b, .string s] 26)
    go_wp2_with fail
    refine (HA.out _ hB).mono ?_
    rintro e wz ⟨rfl, hb⟩
    go_wp2
    go_ret
    exact ⟨rfl, nxt hB hb⟩
  have cS := Lib.hid (fun W (h : Below w.heap.size w W) => wShift_any s b n W (by omega) (by omega) hn.1 (tab_keep hT h))
  have cT := Lib.hid (fun W => rShift_any s b n W (by omega) (by omega))
  clear hbig hT hn hs1
  go_enter Tryd.func6, Tryd.ntmps6
  go_upto_region 1 with (fail)
  have X1 := Bx.new w 26 #[.bool b, .string s]
  have hB := b1 w (.cells #[.bool b, .string s] 26)
  generalize w.alloc (.cells #[.bool b, .string s] 26) = w0 at *
  have hl0 := X1.lt
  obtain ⟨p1, p2, _, _⟩ := X1.two
  go_wp2_with fail
  refine (cl.out w0).mono ?_
  rintro e w1 ⟨rfl, rfl⟩
  replace hB := nxtA hB (.cells #[.bool b, .string s] 26)
  replace X1 := X1.alloc (.cells #[.bool b, .string s] 26)
  clear p1 p2
  generalize w0.alloc (.cells #[.bool b, .string s] 26) = w1 at *
  obtain ⟨p1, p2, _, _⟩ := X1.two
  go_upto_region 3 with (fail)
  refine wp_region_know [13, 14, 15, 16, 17, 18, 19, 20, 21, 22, 4] (fun W => Below w1.heap.size w1 W) (kAt [eqK (.agg #[.bool b, .string s]), eqK (.int .i64 (n)), eqK (.agg #[.bool (neg (shiftI (ival b (sval s)) n)), .string (mag (shiftI (ival b (sval s)) n))]), eqK (.agg #[.bool b, .string s]), eqK (.int .i64 (n)), eqK (.agg #[.bool (neg (shiftI (ival b (sval s)) n)), .string (mag (shiftI (ival b (sval s)) n))]), eqK (.bool true), eqK (.bool true), eqK (.bool true), eqK (.bool true), eqK (.bool true)])
    (fun _ => true) (fun _ => false) (by kernel_rfl) (by kernel_rfl) (fun _ _ _ _ _ h => h) (by kernel_rfl) (by kernel_rfl) 23 rfl (by kernel_rfl) (by kernel_rfl) ?hG (fun i v w w' hi => kAt_stab (by exact ⟨stab_eq _, stab_eq _, stab_eq _, stab_eq _, stab_eq _, stab_eq _, stab_eq _, stab_eq _, stab_eq _, stab_eq _, stab_eq _, trivial⟩) _ i v w w' hi) (fun _ _ _ _ hf _ => absurd hf Bool.false_ne_true) ?hop ?hlate ?htail
  case hG => exact (Below.refl _ _).drew
  case hop =>
    intro A hA
    have hN : A.tmps.size = 23 := by rw [hA]; rfl
    have q2 : A.tmps.getD 2 undef = .pointer (some ⟨w.heap.size, 0, none⟩) := by rw [hA]; rfl
    have q1 : A.tmps.getD 1 undef = .int .i64 (n) := by rw [hA]; rfl
    clear hA
    refine ⟨?_, ?_, ?_, ?_, ?_, ?_, ?_, ?_, ?_, ?_, ?_, trivial⟩
    · intro u W hG hf
      have e2 := frm_base (ds := [13, 14, 15, 16, 17, 18, 19, 20, 21, 22, 4]) (u := u) (k := 2) (by rw [hN]; decide) rfl q2
      generalize (frm A [13, 14, 15, 16, 17, 18, 19, 20, 21, 22, 4] u).eval = ev at *
      have hx := X1.later hG
      have y0 := hx.cel 0
      have y1 := hx.cel 1
      simp at y0 y1
      refine k_val (.agg #[.bool b, .string s]) rfl rfl hG ?_ rfl
      simp [go_sem, e2, y0, y1]
    · intro u W hG hf
      have e1 := frm_base (ds := [13, 14, 15, 16, 17, 18, 19, 20, 21, 22, 4]) (u := u) (k := 1) (by rw [hN]; decide) rfl q1
      generalize (frm A [13, 14, 15, 16, 17, 18, 19, 20, 21, 22, 4] u).eval = ev at *
      refine k_val (.int .i64 (n)) rfl rfl hG ?_ rfl
      simp [go_sem, e1]
    · intro u W hG hf
      have f13 : u 0 = .agg #[.bool b, .string s] := hf 0 (by decide)
      have e13 := frm_head (ds := [13, 14, 15, 16, 17, 18, 19, 20, 21, 22, 4]) (u := u) (k := 13) (i := 0) (by rw [hN]; decide) rfl f13
      have f14 : u 1 = .int .i64 (n) := hf 1 (by decide)
      have e14 := frm_head (ds := [13, 14, 15, 16, 17, 18, 19, 20, 21, 22, 4]) (u := u) (k := 14) (i := 1) (by rw [hN]; decide) rfl f14
      have ef : ∀ f, (frm A [13, 14, 15, 16, 17, 18, 19, 20, 21, 22, 4] u).eval (.func f) = .func (.func f) #[] #[] := fun _ => rfl
      generalize (frm A [13, 14, 15, 16, 17, 18, 19, 20, 21, 22, 4] u).eval = ev at *
      exact k_call _ _ rfl rfl (by simp [go_sem, ef, e13, e14]) (cS.out W (nxt hB hG)) (fun w' hb => nxt hG hb) (fun _ _ => rfl)
    · intro u W hG hf
      have e2 := frm_base (ds := [13, 14, 15, 16, 17, 18, 19, 20, 21, 22, 4]) (u := u) (k := 2) (by rw [hN]; decide) rfl q2
      generalize (frm A [13, 14, 15, 16, 17, 18, 19, 20, 21, 22, 4] u).eval = ev at *
      have hx := X1.later hG
      have y0 := hx.cel 0
      have y1 := hx.cel 1
      simp at y0 y1
      refine k_val (.agg #[.bool b, .string s]) rfl rfl hG ?_ rfl
      simp [go_sem, e2, y0, y1]
    · intro u W hG hf
      have e1 := frm_base (ds := [13, 14, 15, 16, 17, 18, 19, 20, 21, 22, 4]) (u := u) (k := 1) (by rw [hN]; decide) rfl q1
      generalize (frm A [13, 14, 15, 16, 17, 18, 19, 20, 21, 22, 4] u).eval = ev at *
      refine k_val (.int .i64 (n)) rfl rfl hG ?_ rfl
      simp [go_sem, e1]
    · intro u W hG hf
      have f16 : u 3 = .agg #[.bool b, .string s] := hf 3 (by decide)
      have e16 := frm_head (ds := [13, 14, 15, 16, 17, 18, 19, 20, 21, 22, 4]) (u := u) (k := 16) (i := 3) (by rw [hN]; decide) rfl f16
      have f17 : u 4 = .int .i64 (n) := hf 4 (by decide)
      have e17 := frm_head (ds := [13, 14, 15, 16, 17, 18, 19, 20, 21, 22, 4]) (u := u) (k := 17) (i := 4) (by rw [hN]; decide) rfl f17
      have ef : ∀ f, (frm A [13, 14, 15, 16, 17, 18, 19, 20, 21, 22, 4] u).eval (.func f) = .func (.func f) #[] #[] := fun _ => rfl
      generalize (frm A [13, 14, 15, 16, 17, 18, 19, 20, 21, 22, 4] u).eval = ev at *
      exact k_call _ _ rfl rfl (by simp [go_sem, ef, e16, e17]) (cT.out W) (fun w' hb => nxt hG hb) (fun _ _ => rfl)
    · intro u W hG hf
      have f15 : u 2 = .agg #[.bool (neg (shiftI (ival b (sval s)) n)), .string (mag (shiftI (ival b (sval s)) n))] := hf 2 (by decide)
      have e15 := frm_head (ds := [13, 14, 15, 16, 17, 18, 19, 20, 21, 22, 4]) (u := u) (k := 15) (i := 2) (by rw [hN]; decide) rfl f15
      have f18 : u 5 = .agg #[.bool (neg (shiftI (ival b (sval s)) n)), .string (mag (shiftI (ival b (sval s)) n))] := hf 5 (by decide)
      have e18 := frm_head (ds := [13, 14, 15, 16, 17, 18, 19, 20, 21, 22, 4]) (u := u) (k := 18) (i := 5) (by rw [hN]; decide) rfl f18
      generalize (frm A [13, 14, 15, 16, 17, 18, 19, 20, 21, 22, 4] u).eval = ev at *
      refine k_val (.bool true) rfl rfl hG ?_ rfl
      simp [go_sem, e15, e18]
    · intro u W hG hf
      have f19 : u 6 = .bool true := hf 6 (by decide)
      have e19 := frm_head (ds := [13, 14, 15, 16, 17, 18, 19, 20, 21, 22, 4]) (u := u) (k := 19) (i := 6) (by rw [hN]; decide) rfl f19
      generalize (frm A [13, 14, 15, 16, 17, 18, 19, 20, 21, 22, 4] u).eval = ev at *
      refine k_val (.bool true) rfl rfl hG ?_ rfl
      simp [go_sem, e19]
    · intro u W hG hf
      have fg : u 7 = .bool true := hf 7 (by decide)
      have ef : ∀ f, (frm A [13, 14, 15, 16, 17, 18, 19, 20, 21, 22, 4] u).eval (.func f) = .func (.func f) #[] #[] := fun _ => rfl
      generalize (frm A [13, 14, 15, 16, 17, 18, 19, 20, 21, 22, 4] u).eval = ev at *
      exact k_call _ _ ⟨_, fg, rfl⟩ rfl (by simp [go_sem, ef]) (HA.out W (nxt hB hG)) (fun w' hb => nxt hG hb) (fun _ _ => rfl)
    · intro u W hG hf
      have f20 : u 7 = .bool true := hf 7 (by decide)
      have e20 := frm_head (ds := [13, 14, 15, 16, 17, 18, 19, 20, 21, 22, 4]) (u := u) (k := 20) (i := 7) (by rw [hN]; decide) rfl f20
      have f21 : u 8 = .bool true := hf 8 (by decide)
      have e21 := frm_head (ds := [13, 14, 15, 16, 17, 18, 19, 20, 21, 22, 4]) (u := u) (k := 21) (i := 8) (by rw [hN]; decide) rfl f21
      generalize (frm A [13, 14, 15, 16, 17, 18, 19, 20, 21, 22, 4] u).eval = ev at *
      refine k_val (.bool true) rfl rfl hG ?_ rfl
      simp [go_sem, e20, e21]
    · intro u W hG hf
      have f22 : u 9 = .bool true := hf 9 (by decide)
      have e22 := frm_head (ds := [13, 14, 15, 16, 17, 18, 19, 20, 21, 22, 4]) (u := u) (k := 22) (i := 9) (by rw [hN]; decide) rfl f22
      generalize (frm A [13, 14, 15, 16, 17, 18, 19, 20, 21, 22, 4] u).eval = ev at *
      refine k_val (.bool true) rfl rfl hG ?_ rfl
      simp [go_sem, e22]
  case hlate =>
    intro A _
    exact ⟨trivial, trivial, trivial, trivial, trivial, trivial, trivial, trivial, trivial, trivial, trivial, trivial⟩
  case htail =>
    intro u w' hG hP hD
    have f4 : u 10 = .bool true := hP 10 (by decide)
    simp only [putAll, Act.put, List.setIfInBounds_toArray, List.set_cons_zero, List.set_cons_succ, List.length_cons, List.length_nil, Nat.reduceAdd, List.drop_succ_cons, List.drop_zero, f4]
    go_wp2
    go_ret
    exact ⟨rfl, nxt hB hG⟩

end Go.Proofs.YtmnmfidcldmhdaaDoor
