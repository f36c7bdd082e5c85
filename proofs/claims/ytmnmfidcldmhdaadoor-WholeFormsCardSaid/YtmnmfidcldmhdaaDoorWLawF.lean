/- The walk of ogeelaw02.WholeForms: it answers true. -/
import Derived.Test.YtmnmfidcldmhdaaDoorWLawE
import Derived.Test.YtmnmfidcldmhdaaDoorSmallR
namespace Go.Proofs.YtmnmfidcldmhdaaDoor
open Go.RowKit

theorem smallV_two (z : Int) : ∃ (X : Int) (K : Bool), smallV z = .tuple #[.int .i64 X, .bool K] := by
  unfold smallV; split
  · exact ⟨_, _, rfl⟩
  · exact ⟨_, _, rfl⟩

set_option maxRecDepth 100000 in
set_option maxHeartbeats 2000000 in
theorem wholeForms_any (s : ByteArray) (b : Bool) (n : Int) (w : World) (hn' : (Lit.int IntKind.i64 n).wf = true) (hT : TabAt 0 Lib.deBruijn64tab w) :
    Calls Tryd.prog 10 #[.agg #[.bool b, .string s], .int .i64 n] w fun e w' => e = .returned (.bool true) ∧ Below w.heap.size w w' := by
  have hn : -9223372036854775808 ≤ n ∧ n ≤ 9223372036854775807 := by simpa [Lit.wf, IntKind.min, IntKind.max, IntKind.signed, IntKind.bits] using hn'
  have HA := Lib.hid (fun W (h : Below w.heap.size w W) => wawake_any W (tab_keep hT h))
  clear hn' hT
  by_cases hbig : (200 : Int) < (s.size : Int)
  · have cl := Lib.hid (fun W => long1_yes s b 200 W hbig)
    clear hbig hn
    go_enter Tryd.func10, Tryd.ntmps10
    go_upto_region 1 with (fail)
    have X1 := Bx.new w 26 #[.bool b, .string s]
    have hB := b1 w (.cells #[.bool b, .string s] 26)
    generalize w.alloc (.cells #[.bool b, .string s] 26) = w0 at *
    have hl0 := X1.lt
    obtain ⟨p1, p2, _, _⟩ := X1.two
    go_wp2_with fail
    refine (cl.out w0).mono ?_
    rintro e w1 ⟨rfl, rfl⟩
    replace hB := nxtA hB (.cells #[.bool b, .string s] 26)
    go_wp2_with fail
    refine (HA.out _ hB).mono ?_
    rintro e wz ⟨rfl, hb⟩
    go_wp2
    go_ret
    exact ⟨rfl, nxt hB hb⟩
  have hs1 : (s.size : Int) ≤ 200 := by omega
  have cl := Lib.hid (fun W => long1_no s b 200 W hs1)
  have cS := Lib.hid (fun W => wSmall_any s b W (by omega))
  have cR := Lib.hid (fun W => rSmall_any s b W (by omega))
  obtain ⟨X, K, hXK⟩ := smallV_two (ival b (sval s))
  rw [hXK] at cS cR
  have k1 := Lib.hid (fun W => wOf_any n W hn.1 hn.2)
  have k2 := Lib.hid (fun W => lOf_any n W hn.1 hn.2)
  have k3 := Lib.hid (fun W => wForm_any s b W)
  have k4 := Lib.hid (fun W => rForm_any s b W (by omega))
  have k5 := Lib.hid (fun W => wSign_any s b W)
  have k6 := Lib.hid (fun W => rWSign_any s b W (by omega))
  have k7 := Lib.hid (fun W => wNeg_any s b W)
  have k8 := Lib.hid (fun W => rWNeg_any s b W (by omega))
  clear hbig hn hs1 hXK
  go_enter Tryd.func10, Tryd.ntmps10
  go_upto_region 1 with (fail)
  have X1 := Bx.new w 26 #[.bool b, .string s]
  have hB := b1 w (.cells #[.bool b, .string s] 26)
  generalize w.alloc (.cells #[.bool b, .string s] 26) = w0 at *
  have hl0 := X1.lt
  obtain ⟨p1, p2, _, _⟩ := X1.two
  go_wp2_with fail
  refine (cl.out w0).mono ?_
  rintro e w1 ⟨rfl, rfl⟩
  replace hB := nxtA hB (.cells #[.bool b, .string s] 26)
  replace X1 := X1.alloc (.cells #[.bool b, .string s] 26)
  clear p1 p2
  generalize w0.alloc (.cells #[.bool b, .string s] 26) = w1 at *
  obtain ⟨p1, p2, _, _⟩ := X1.two
  go_wp2_with fail
  refine (cS.out _).mono ?_
  rintro e w2 ⟨rfl, hb⟩
  replace hB := nxt hB hb
  replace X1 := X1.later hb
  clear hb p1 p2
  obtain ⟨p1, p2, _, _⟩ := X1.two
  go_wp2_with fail
  refine (cR.out _).mono ?_
  rintro e w3 ⟨rfl, hb⟩
  replace hB := nxt hB hb
  replace X1 := X1.later hb
  clear hb p1 p2
  go_upto_region 5 with (fail)
  refine wp_region_know [23, 24, 25, 26, 27, 28, 29, 30, 31, 32, 33, 34, 35, 36, 37, 38, 39, 40, 41, 42, 43, 44, 45, 46, 47, 48, 49, 50, 51, 52, 53, 54, 55, 56, 57, 58, 59, 60, 61, 4] (fun W => Below w3.heap.size w3 W) (kAt [eqK (.int .i64 (n)), eqK (.agg #[.bool (neg (n)), .string (mag (n))]), eqK (.int .i64 (n)), eqK (.agg #[.bool (neg (n)), .string (mag (n))]), eqK (.bool true), eqK (.bool true), eqK (.agg #[.bool b, .string s]), eqK (.agg #[.bool (neg (ival b (sval s))), .string (mag (ival b (sval s)))]), eqK (.agg #[.bool b, .string s]), eqK (.agg #[.bool (neg (ival b (sval s))), .string (mag (ival b (sval s)))]), eqK (.bool true), eqK (.bool true), eqK (.bool true), eqK (.agg #[.bool b, .string s]), eqK (.int .i64 (sgn (ival b (sval s)))), eqK (.agg #[.bool b, .string s]), eqK (.int .i64 (sgn (ival b (sval s)))), eqK (.bool true), eqK (.bool true), eqK (.bool true), eqK (.agg #[.bool b, .string s]), eqK (.agg #[.bool (neg (-ival b (sval s))), .string (mag (-ival b (sval s)))]), eqK (.agg #[.bool b, .string s]), eqK (.agg #[.bool (neg (-ival b (sval s))), .string (mag (-ival b (sval s)))]), eqK (.bool true), eqK (.bool true), eqK (.bool true), eqK (.int .i64 (X)), eqK (.int .i64 (X)), eqK (.bool true), eqK (.bool true), eqK (.bool true), eqK (.bool K), eqK (.bool K), eqK (.bool true), eqK (.bool true), eqK (.bool true), eqK (.bool true), eqK (.bool true), eqK (.bool true)])
    (fun _ => true) (fun _ => false) (by kernel_rfl) (by kernel_rfl) (fun _ _ _ _ _ h => h) (by kernel_rfl) (by kernel_rfl) 62 rfl (by kernel_rfl) (by kernel_rfl) ?hG (fun i v w w' hi => kAt_stab (by exact ⟨stab_eq _, stab_eq _, stab_eq _, stab_eq _, stab_eq _, stab_eq _, stab_eq _, stab_eq _, stab_eq _, stab_eq _, stab_eq _, stab_eq _, stab_eq _, stab_eq _, stab_eq _, stab_eq _, stab_eq _, stab_eq _, stab_eq _, stab_eq _, stab_eq _, stab_eq _, stab_eq _, stab_eq _, stab_eq _, stab_eq _, stab_eq _, stab_eq _, stab_eq _, stab_eq _, stab_eq _, stab_eq _, stab_eq _, stab_eq _, stab_eq _, stab_eq _, stab_eq _, stab_eq _, stab_eq _, stab_eq _, trivial⟩) _ i v w w' hi) (fun _ _ _ _ hf _ => absurd hf Bool.false_ne_true) ?hop ?hlate ?htail
  case hG => exact (Below.refl _ _).drew
  case hop =>
    intro A hA
    have hN : A.tmps.size = 62 := by rw [hA]; rfl
    have q2 : A.tmps.getD 2 undef = .pointer (some ⟨w.heap.size, 0, none⟩) := by rw [hA]; rfl
    have q1 : A.tmps.getD 1 undef = .int .i64 (n) := by rw [hA]; rfl
    have q5 : A.tmps.getD 5 undef = .int .i64 (X) := by rw [hA]; rfl
    have q7 : A.tmps.getD 7 undef = .int .i64 (X) := by rw [hA]; rfl
    have q6 : A.tmps.getD 6 undef = .bool K := by rw [hA]; rfl
    have q8 : A.tmps.getD 8 undef = .bool K := by rw [hA]; rfl
    clear hA
    refine ⟨?_, ?_, ?_, ?_, ?_, ?_, ?_, ?_, ?_, ?_, ?_, ?_, ?_, ?_, ?_, ?_, ?_, ?_, ?_, ?_, ?_, ?_, ?_, ?_, ?_, ?_, ?_, ?_, ?_, ?_, ?_, ?_, ?_, ?_, ?_, ?_, ?_, ?_, ?_, ?_, trivial⟩
    · intro u W hG hf
      have e1 := frm_base (ds := [23, 24, 25, 26, 27, 28, 29, 30, 31, 32, 33, 34, 35, 36, 37, 38, 39, 40, 41, 42, 43, 44, 45, 46, 47, 48, 49, 50, 51, 52, 53, 54, 55, 56, 57, 58, 59, 60, 61, 4]) (u := u) (k := 1) (by rw [hN]; decide) rfl q1
      generalize (frm A [23, 24, 25, 26, 27, 28, 29, 30, 31, 32, 33, 34, 35, 36, 37, 38, 39, 40, 41, 42, 43, 44, 45, 46, 47, 48, 49, 50, 51, 52, 53, 54, 55, 56, 57, 58, 59, 60, 61, 4] u).eval = ev at *
      refine k_val (.int .i64 (n)) rfl rfl hG ?_ rfl
      simp [go_sem, e1]
    · intro u W hG hf
      have f23 : u 0 = .int .i64 (n) := hf 0 (by decide)
      have e23 := frm_head (ds := [23, 24, 25, 26, 27, 28, 29, 30, 31, 32, 33, 34, 35, 36, 37, 38, 39, 40, 41, 42, 43, 44, 45, 46, 47, 48, 49, 50, 51, 52, 53, 54, 55, 56, 57, 58, 59, 60, 61, 4]) (u := u) (k := 23) (i := 0) (by rw [hN]; decide) rfl f23
      have ef : ∀ f, (frm A [23, 24, 25, 26, 27, 28, 29, 30, 31, 32, 33, 34, 35, 36, 37, 38, 39, 40, 41, 42, 43, 44, 45, 46, 47, 48, 49, 50, 51, 52, 53, 54, 55, 56, 57, 58, 59, 60, 61, 4] u).eval (.func f) = .func (.func f) #[] #[] := fun _ => rfl
      generalize (frm A [23, 24, 25, 26, 27, 28, 29, 30, 31, 32, 33, 34, 35, 36, 37, 38, 39, 40, 41, 42, 43, 44, 45, 46, 47, 48, 49, 50, 51, 52, 53, 54, 55, 56, 57, 58, 59, 60, 61, 4] u).eval = ev at *
      exact k_call _ _ rfl rfl (by simp [go_sem, ef, e23]) (k1.out W) (fun w' hb => nxt hG hb) (fun _ _ => rfl)
    · intro u W hG hf
      have e1 := frm_base (ds := [23, 24, 25, 26, 27, 28, 29, 30, 31, 32, 33, 34, 35, 36, 37, 38, 39, 40, 41, 42, 43, 44, 45, 46, 47, 48, 49, 50, 51, 52, 53, 54, 55, 56, 57, 58, 59, 60, 61, 4]) (u := u) (k := 1) (by rw [hN]; decide) rfl q1
      generalize (frm A [23, 24, 25, 26, 27, 28, 29, 30, 31, 32, 33, 34, 35, 36, 37, 38, 39, 40, 41, 42, 43, 44, 45, 46, 47, 48, 49, 50, 51, 52, 53, 54, 55, 56, 57, 58, 59, 60, 61, 4] u).eval = ev at *
      refine k_val (.int .i64 (n)) rfl rfl hG ?_ rfl
      simp [go_sem, e1]
    · intro u W hG hf
      have f25 : u 2 = .int .i64 (n) := hf 2 (by decide)
      have e25 := frm_head (ds := [23, 24, 25, 26, 27, 28, 29, 30, 31, 32, 33, 34, 35, 36, 37, 38, 39, 40, 41, 42, 43, 44, 45, 46, 47, 48, 49, 50, 51, 52, 53, 54, 55, 56, 57, 58, 59, 60, 61, 4]) (u := u) (k := 25) (i := 2) (by rw [hN]; decide) rfl f25
      have ef : ∀ f, (frm A [23, 24, 25, 26, 27, 28, 29, 30, 31, 32, 33, 34, 35, 36, 37, 38, 39, 40, 41, 42, 43, 44, 45, 46, 47, 48, 49, 50, 51, 52, 53, 54, 55, 56, 57, 58, 59, 60, 61, 4] u).eval (.func f) = .func (.func f) #[] #[] := fun _ => rfl
      generalize (frm A [23, 24, 25, 26, 27, 28, 29, 30, 31, 32, 33, 34, 35, 36, 37, 38, 39, 40, 41, 42, 43, 44, 45, 46, 47, 48, 49, 50, 51, 52, 53, 54, 55, 56, 57, 58, 59, 60, 61, 4] u).eval = ev at *
      exact k_call _ _ rfl rfl (by simp [go_sem, ef, e25]) (k2.out W) (fun w' hb => nxt hG hb) (fun _ _ => rfl)
    · intro u W hG hf
      have f24 : u 1 = .agg #[.bool (neg (n)), .string (mag (n))] := hf 1 (by decide)
      have e24 := frm_head (ds := [23, 24, 25, 26, 27, 28, 29, 30, 31, 32, 33, 34, 35, 36, 37, 38, 39, 40, 41, 42, 43, 44, 45, 46, 47, 48, 49, 50, 51, 52, 53, 54, 55, 56, 57, 58, 59, 60, 61, 4]) (u := u) (k := 24) (i := 1) (by rw [hN]; decide) rfl f24
      have f26 : u 3 = .agg #[.bool (neg (n)), .string (mag (n))] := hf 3 (by decide)
      have e26 := frm_head (ds := [23, 24, 25, 26, 27, 28, 29, 30, 31, 32, 33, 34, 35, 36, 37, 38, 39, 40, 41, 42, 43, 44, 45, 46, 47, 48, 49, 50, 51, 52, 53, 54, 55, 56, 57, 58, 59, 60, 61, 4]) (u := u) (k := 26) (i := 3) (by rw [hN]; decide) rfl f26
      generalize (frm A [23, 24, 25, 26, 27, 28, 29, 30, 31, 32, 33, 34, 35, 36, 37, 38, 39, 40, 41, 42, 43, 44, 45, 46, 47, 48, 49, 50, 51, 52, 53, 54, 55, 56, 57, 58, 59, 60, 61, 4] u).eval = ev at *
      refine k_val (.bool true) rfl rfl hG ?_ rfl
      simp [go_sem, e24, e26]
    · intro u W hG hf
      have f27 : u 4 = .bool true := hf 4 (by decide)
      have e27 := frm_head (ds := [23, 24, 25, 26, 27, 28, 29, 30, 31, 32, 33, 34, 35, 36, 37, 38, 39, 40, 41, 42, 43, 44, 45, 46, 47, 48, 49, 50, 51, 52, 53, 54, 55, 56, 57, 58, 59, 60, 61, 4]) (u := u) (k := 27) (i := 4) (by rw [hN]; decide) rfl f27
      generalize (frm A [23, 24, 25, 26, 27, 28, 29, 30, 31, 32, 33, 34, 35, 36, 37, 38, 39, 40, 41, 42, 43, 44, 45, 46, 47, 48, 49, 50, 51, 52, 53, 54, 55, 56, 57, 58, 59, 60, 61, 4] u).eval = ev at *
      refine k_val (.bool true) rfl rfl hG ?_ rfl
      simp [go_sem, e27]
    · intro u W hG hf
      have e2 := frm_base (ds := [23, 24, 25, 26, 27, 28, 29, 30, 31, 32, 33, 34, 35, 36, 37, 38, 39, 40, 41, 42, 43, 44, 45, 46, 47, 48, 49, 50, 51, 52, 53, 54, 55, 56, 57, 58, 59, 60, 61, 4]) (u := u) (k := 2) (by rw [hN]; decide) rfl q2
      have fg : u 5 = .bool true := hf 5 (by decide)
      generalize (frm A [23, 24, 25, 26, 27, 28, 29, 30, 31, 32, 33, 34, 35, 36, 37, 38, 39, 40, 41, 42, 43, 44, 45, 46, 47, 48, 49, 50, 51, 52, 53, 54, 55, 56, 57, 58, 59, 60, 61, 4] u).eval = ev at *
      have hx := X1.later hG
      have y0 := hx.cel 0
      have y1 := hx.cel 1
      simp at y0 y1
      refine k_val (.agg #[.bool b, .string s]) ⟨_, fg, rfl⟩ rfl hG ?_ rfl
      simp [go_sem, e2, y0, y1]
    · intro u W hG hf
      have f29 : u 6 = .agg #[.bool b, .string s] := hf 6 (by decide)
      have e29 := frm_head (ds := [23, 24, 25, 26, 27, 28, 29, 30, 31, 32, 33, 34, 35, 36, 37, 38, 39, 40, 41, 42, 43, 44, 45, 46, 47, 48, 49, 50, 51, 52, 53, 54, 55, 56, 57, 58, 59, 60, 61, 4]) (u := u) (k := 29) (i := 6) (by rw [hN]; decide) rfl f29
      have fg : u 5 = .bool true := hf 5 (by decide)
      have ef : ∀ f, (frm A [23, 24, 25, 26, 27, 28, 29, 30, 31, 32, 33, 34, 35, 36, 37, 38, 39, 40, 41, 42, 43, 44, 45, 46, 47, 48, 49, 50, 51, 52, 53, 54, 55, 56, 57, 58, 59, 60, 61, 4] u).eval (.func f) = .func (.func f) #[] #[] := fun _ => rfl
      generalize (frm A [23, 24, 25, 26, 27, 28, 29, 30, 31, 32, 33, 34, 35, 36, 37, 38, 39, 40, 41, 42, 43, 44, 45, 46, 47, 48, 49, 50, 51, 52, 53, 54, 55, 56, 57, 58, 59, 60, 61, 4] u).eval = ev at *
      exact k_call _ _ ⟨_, fg, rfl⟩ rfl (by simp [go_sem, ef, e29]) (k3.out W) (fun w' hb => nxt hG hb) (fun _ _ => rfl)
    · intro u W hG hf
      have e2 := frm_base (ds := [23, 24, 25, 26, 27, 28, 29, 30, 31, 32, 33, 34, 35, 36, 37, 38, 39, 40, 41, 42, 43, 44, 45, 46, 47, 48, 49, 50, 51, 52, 53, 54, 55, 56, 57, 58, 59, 60, 61, 4]) (u := u) (k := 2) (by rw [hN]; decide) rfl q2
      have fg : u 5 = .bool true := hf 5 (by decide)
      generalize (frm A [23, 24, 25, 26, 27, 28, 29, 30, 31, 32, 33, 34, 35, 36, 37, 38, 39, 40, 41, 42, 43, 44, 45, 46, 47, 48, 49, 50, 51, 52, 53, 54, 55, 56, 57, 58, 59, 60, 61, 4] u).eval = ev at *
      have hx := X1.later hG
      have y0 := hx.cel 0
      have y1 := hx.cel 1
      simp at y0 y1
      refine k_val (.agg #[.bool b, .string s]) ⟨_, fg, rfl⟩ rfl hG ?_ rfl
      simp [go_sem, e2, y0, y1]
    · intro u W hG hf
      have f31 : u 8 = .agg #[.bool b, .string s] := hf 8 (by decide)
      have e31 := frm_head (ds := [23, 24, 25, 26, 27, 28, 29, 30, 31, 32, 33, 34, 35, 36, 37, 38, 39, 40, 41, 42, 43, 44, 45, 46, 47, 48, 49, 50, 51, 52, 53, 54, 55, 56, 57, 58, 59, 60, 61, 4]) (u := u) (k := 31) (i := 8) (by rw [hN]; decide) rfl f31
      have fg : u 5 = .bool true := hf 5 (by decide)
      have ef : ∀ f, (frm A [23, 24, 25, 26, 27, 28, 29, 30, 31, 32, 33, 34, 35, 36, 37, 38, 39, 40, 41, 42, 43, 44, 45, 46, 47, 48, 49, 50, 51, 52, 53, 54, 55, 56, 57, 58, 59, 60, 61, 4] u).eval (.func f) = .func (.func f) #[] #[] := fun _ => rfl
      generalize (frm A [23, 24, 25, 26, 27, 28, 29, 30, 31, 32, 33, 34, 35, 36, 37, 38, 39, 40, 41, 42, 43, 44, 45, 46, 47, 48, 49, 50, 51, 52, 53, 54, 55, 56, 57, 58, 59, 60, 61, 4] u).eval = ev at *
      exact k_call _ _ ⟨_, fg, rfl⟩ rfl (by simp [go_sem, ef, e31]) (k4.out W) (fun w' hb => nxt hG hb) (fun _ _ => rfl)
    · intro u W hG hf
      have f30 : u 7 = .agg #[.bool (neg (ival b (sval s))), .string (mag (ival b (sval s)))] := hf 7 (by decide)
      have e30 := frm_head (ds := [23, 24, 25, 26, 27, 28, 29, 30, 31, 32, 33, 34, 35, 36, 37, 38, 39, 40, 41, 42, 43, 44, 45, 46, 47, 48, 49, 50, 51, 52, 53, 54, 55, 56, 57, 58, 59, 60, 61, 4]) (u := u) (k := 30) (i := 7) (by rw [hN]; decide) rfl f30
      have f32 : u 9 = .agg #[.bool (neg (ival b (sval s))), .string (mag (ival b (sval s)))] := hf 9 (by decide)
      have e32 := frm_head (ds := [23, 24, 25, 26, 27, 28, 29, 30, 31, 32, 33, 34, 35, 36, 37, 38, 39, 40, 41, 42, 43, 44, 45, 46, 47, 48, 49, 50, 51, 52, 53, 54, 55, 56, 57, 58, 59, 60, 61, 4]) (u := u) (k := 32) (i := 9) (by rw [hN]; decide) rfl f32
      have fg : u 5 = .bool true := hf 5 (by decide)
      generalize (frm A [23, 24, 25, 26, 27, 28, 29, 30, 31, 32, 33, 34, 35, 36, 37, 38, 39, 40, 41, 42, 43, 44, 45, 46, 47, 48, 49, 50, 51, 52, 53, 54, 55, 56, 57, 58, 59, 60, 61, 4] u).eval = ev at *
      refine k_val (.bool true) ⟨_, fg, rfl⟩ rfl hG ?_ rfl
      simp [go_sem, e30, e32]
    · intro u W hG hf
      have f28 : u 5 = .bool true := hf 5 (by decide)
      have e28 := frm_head (ds := [23, 24, 25, 26, 27, 28, 29, 30, 31, 32, 33, 34, 35, 36, 37, 38, 39, 40, 41, 42, 43, 44, 45, 46, 47, 48, 49, 50, 51, 52, 53, 54, 55, 56, 57, 58, 59, 60, 61, 4]) (u := u) (k := 28) (i := 5) (by rw [hN]; decide) rfl f28
      have f33 : u 10 = .bool true := hf 10 (by decide)
      have e33 := frm_head (ds := [23, 24, 25, 26, 27, 28, 29, 30, 31, 32, 33, 34, 35, 36, 37, 38, 39, 40, 41, 42, 43, 44, 45, 46, 47, 48, 49, 50, 51, 52, 53, 54, 55, 56, 57, 58, 59, 60, 61, 4]) (u := u) (k := 33) (i := 10) (by rw [hN]; decide) rfl f33
      generalize (frm A [23, 24, 25, 26, 27, 28, 29, 30, 31, 32, 33, 34, 35, 36, 37, 38, 39, 40, 41, 42, 43, 44, 45, 46, 47, 48, 49, 50, 51, 52, 53, 54, 55, 56, 57, 58, 59, 60, 61, 4] u).eval = ev at *
      refine k_val (.bool true) rfl rfl hG ?_ rfl
      simp [go_sem, e28, e33]
    · intro u W hG hf
      have f34 : u 11 = .bool true := hf 11 (by decide)
      have e34 := frm_head (ds := [23, 24, 25, 26, 27, 28, 29, 30, 31, 32, 33, 34, 35, 36, 37, 38, 39, 40, 41, 42, 43, 44, 45, 46, 47, 48, 49, 50, 51, 52, 53, 54, 55, 56, 57, 58, 59, 60, 61, 4]) (u := u) (k := 34) (i := 11) (by rw [hN]; decide) rfl f34
      generalize (frm A [23, 24, 25, 26, 27, 28, 29, 30, 31, 32, 33, 34, 35, 36, 37, 38, 39, 40, 41, 42, 43, 44, 45, 46, 47, 48, 49, 50, 51, 52, 53, 54, 55, 56, 57, 58, 59, 60, 61, 4] u).eval = ev at *
      refine k_val (.bool true) rfl rfl hG ?_ rfl
      simp [go_sem, e34]
    · intro u W hG hf
      have e2 := frm_base (ds := [23, 24, 25, 26, 27, 28, 29, 30, 31, 32, 33, 34, 35, 36, 37, 38, 39, 40, 41, 42, 43, 44, 45, 46, 47, 48, 49, 50, 51, 52, 53, 54, 55, 56, 57, 58, 59, 60, 61, 4]) (u := u) (k := 2) (by rw [hN]; decide) rfl q2
      have fg : u 12 = .bool true := hf 12 (by decide)
      generalize (frm A [23, 24, 25, 26, 27, 28, 29, 30, 31, 32, 33, 34, 35, 36, 37, 38, 39, 40, 41, 42, 43, 44, 45, 46, 47, 48, 49, 50, 51, 52, 53, 54, 55, 56, 57, 58, 59, 60, 61, 4] u).eval = ev at *
      have hx := X1.later hG
      have y0 := hx.cel 0
      have y1 := hx.cel 1
      simp at y0 y1
      refine k_val (.agg #[.bool b, .string s]) ⟨_, fg, rfl⟩ rfl hG ?_ rfl
      simp [go_sem, e2, y0, y1]
    · intro u W hG hf
      have f36 : u 13 = .agg #[.bool b, .string s] := hf 13 (by decide)
      have e36 := frm_head (ds := [23, 24, 25, 26, 27, 28, 29, 30, 31, 32, 33, 34, 35, 36, 37, 38, 39, 40, 41, 42, 43, 44, 45, 46, 47, 48, 49, 50, 51, 52, 53, 54, 55, 56, 57, 58, 59, 60, 61, 4]) (u := u) (k := 36) (i := 13) (by rw [hN]; decide) rfl f36
      have fg : u 12 = .bool true := hf 12 (by decide)
      have ef : ∀ f, (frm A [23, 24, 25, 26, 27, 28, 29, 30, 31, 32, 33, 34, 35, 36, 37, 38, 39, 40, 41, 42, 43, 44, 45, 46, 47, 48, 49, 50, 51, 52, 53, 54, 55, 56, 57, 58, 59, 60, 61, 4] u).eval (.func f) = .func (.func f) #[] #[] := fun _ => rfl
      generalize (frm A [23, 24, 25, 26, 27, 28, 29, 30, 31, 32, 33, 34, 35, 36, 37, 38, 39, 40, 41, 42, 43, 44, 45, 46, 47, 48, 49, 50, 51, 52, 53, 54, 55, 56, 57, 58, 59, 60, 61, 4] u).eval = ev at *
      exact k_call _ _ ⟨_, fg, rfl⟩ rfl (by simp [go_sem, ef, e36]) (k5.out W) (fun w' hb => nxt hG hb) (fun _ _ => rfl)
    · intro u W hG hf
      have e2 := frm_base (ds := [23, 24, 25, 26, 27, 28, 29, 30, 31, 32, 33, 34, 35, 36, 37, 38, 39, 40, 41, 42, 43, 44, 45, 46, 47, 48, 49, 50, 51, 52, 53, 54, 55, 56, 57, 58, 59, 60, 61, 4]) (u := u) (k := 2) (by rw [hN]; decide) rfl q2
      have fg : u 12 = .bool true := hf 12 (by decide)
      generalize (frm A [23, 24, 25, 26, 27, 28, 29, 30, 31, 32, 33, 34, 35, 36, 37, 38, 39, 40, 41, 42, 43, 44, 45, 46, 47, 48, 49, 50, 51, 52, 53, 54, 55, 56, 57, 58, 59, 60, 61, 4] u).eval = ev at *
      have hx := X1.later hG
      have y0 := hx.cel 0
      have y1 := hx.cel 1
      simp at y0 y1
      refine k_val (.agg #[.bool b, .string s]) ⟨_, fg, rfl⟩ rfl hG ?_ rfl
      simp [go_sem, e2, y0, y1]
    · intro u W hG hf
      have f38 : u 15 = .agg #[.bool b, .string s] := hf 15 (by decide)
      have e38 := frm_head (ds := [23, 24, 25, 26, 27, 28, 29, 30, 31, 32, 33, 34, 35, 36, 37, 38, 39, 40, 41, 42, 43, 44, 45, 46, 47, 48, 49, 50, 51, 52, 53, 54, 55, 56, 57, 58, 59, 60, 61, 4]) (u := u) (k := 38) (i := 15) (by rw [hN]; decide) rfl f38
      have fg : u 12 = .bool true := hf 12 (by decide)
      have ef : ∀ f, (frm A [23, 24, 25, 26, 27, 28, 29, 30, 31, 32, 33, 34, 35, 36, 37, 38, 39, 40, 41, 42, 43, 44, 45, 46, 47, 48, 49, 50, 51, 52, 53, 54, 55, 56, 57, 58, 59, 60, 61, 4] u).eval (.func f) = .func (.func f) #[] #[] := fun _ => rfl
      generalize (frm A [23, 24, 25, 26, 27, 28, 29, 30, 31, 32, 33, 34, 35, 36, 37, 38, 39, 40, 41, 42, 43, 44, 45, 46, 47, 48, 49, 50, 51, 52, 53, 54, 55, 56, 57, 58, 59, 60, 61, 4] u).eval = ev at *
      exact k_call _ _ ⟨_, fg, rfl⟩ rfl (by simp [go_sem, ef, e38]) (k6.out W) (fun w' hb => nxt hG hb) (fun _ _ => rfl)
    · intro u W hG hf
      have f37 : u 14 = .int .i64 (sgn (ival b (sval s))) := hf 14 (by decide)
      have e37 := frm_head (ds := [23, 24, 25, 26, 27, 28, 29, 30, 31, 32, 33, 34, 35, 36, 37, 38, 39, 40, 41, 42, 43, 44, 45, 46, 47, 48, 49, 50, 51, 52, 53, 54, 55, 56, 57, 58, 59, 60, 61, 4]) (u := u) (k := 37) (i := 14) (by rw [hN]; decide) rfl f37
      have f39 : u 16 = .int .i64 (sgn (ival b (sval s))) := hf 16 (by decide)
      have e39 := frm_head (ds := [23, 24, 25, 26, 27, 28, 29, 30, 31, 32, 33, 34, 35, 36, 37, 38, 39, 40, 41, 42, 43, 44, 45, 46, 47, 48, 49, 50, 51, 52, 53, 54, 55, 56, 57, 58, 59, 60, 61, 4]) (u := u) (k := 39) (i := 16) (by rw [hN]; decide) rfl f39
      have fg : u 12 = .bool true := hf 12 (by decide)
      generalize (frm A [23, 24, 25, 26, 27, 28, 29, 30, 31, 32, 33, 34, 35, 36, 37, 38, 39, 40, 41, 42, 43, 44, 45, 46, 47, 48, 49, 50, 51, 52, 53, 54, 55, 56, 57, 58, 59, 60, 61, 4] u).eval = ev at *
      refine k_val (.bool true) ⟨_, fg, rfl⟩ rfl hG ?_ rfl
      simp [go_sem, e37, e39]
    · intro u W hG hf
      have f35 : u 12 = .bool true := hf 12 (by decide)
      have e35 := frm_head (ds := [23, 24, 25, 26, 27, 28, 29, 30, 31, 32, 33, 34, 35, 36, 37, 38, 39, 40, 41, 42, 43, 44, 45, 46, 47, 48, 49, 50, 51, 52, 53, 54, 55, 56, 57, 58, 59, 60, 61, 4]) (u := u) (k := 35) (i := 12) (by rw [hN]; decide) rfl f35
      have f40 : u 17 = .bool true := hf 17 (by decide)
      have e40 := frm_head (ds := [23, 24, 25, 26, 27, 28, 29, 30, 31, 32, 33, 34, 35, 36, 37, 38, 39, 40, 41, 42, 43, 44, 45, 46, 47, 48, 49, 50, 51, 52, 53, 54, 55, 56, 57, 58, 59, 60, 61, 4]) (u := u) (k := 40) (i := 17) (by rw [hN]; decide) rfl f40
      generalize (frm A [23, 24, 25, 26, 27, 28, 29, 30, 31, 32, 33, 34, 35, 36, 37, 38, 39, 40, 41, 42, 43, 44, 45, 46, 47, 48, 49, 50, 51, 52, 53, 54, 55, 56, 57, 58, 59, 60, 61, 4] u).eval = ev at *
      refine k_val (.bool true) rfl rfl hG ?_ rfl
      simp [go_sem, e35, e40]
    · intro u W hG hf
      have f41 : u 18 = .bool true := hf 18 (by decide)
      have e41 := frm_head (ds := [23, 24, 25, 26, 27, 28, 29, 30, 31, 32, 33, 34, 35, 36, 37, 38, 39, 40, 41, 42, 43, 44, 45, 46, 47, 48, 49, 50, 51, 52, 53, 54, 55, 56, 57, 58, 59, 60, 61, 4]) (u := u) (k := 41) (i := 18) (by rw [hN]; decide) rfl f41
      generalize (frm A [23, 24, 25, 26, 27, 28, 29, 30, 31, 32, 33, 34, 35, 36, 37, 38, 39, 40, 41, 42, 43, 44, 45, 46, 47, 48, 49, 50, 51, 52, 53, 54, 55, 56, 57, 58, 59, 60, 61, 4] u).eval = ev at *
      refine k_val (.bool true) rfl rfl hG ?_ rfl
      simp [go_sem, e41]
    · intro u W hG hf
      have e2 := frm_base (ds := [23, 24, 25, 26, 27, 28, 29, 30, 31, 32, 33, 34, 35, 36, 37, 38, 39, 40, 41, 42, 43, 44, 45, 46, 47, 48, 49, 50, 51, 52, 53, 54, 55, 56, 57, 58, 59, 60, 61, 4]) (u := u) (k := 2) (by rw [hN]; decide) rfl q2
      have fg : u 19 = .bool true := hf 19 (by decide)
      generalize (frm A [23, 24, 25, 26, 27, 28, 29, 30, 31, 32, 33, 34, 35, 36, 37, 38, 39, 40, 41, 42, 43, 44, 45, 46, 47, 48, 49, 50, 51, 52, 53, 54, 55, 56, 57, 58, 59, 60, 61, 4] u).eval = ev at *
      have hx := X1.later hG
      have y0 := hx.cel 0
      have y1 := hx.cel 1
      simp at y0 y1
      refine k_val (.agg #[.bool b, .string s]) ⟨_, fg, rfl⟩ rfl hG ?_ rfl
      simp [go_sem, e2, y0, y1]
    · intro u W hG hf
      have f43 : u 20 = .agg #[.bool b, .string s] := hf 20 (by decide)
      have e43 := frm_head (ds := [23, 24, 25, 26, 27, 28, 29, 30, 31, 32, 33, 34, 35, 36, 37, 38, 39, 40, 41, 42, 43, 44, 45, 46, 47, 48, 49, 50, 51, 52, 53, 54, 55, 56, 57, 58, 59, 60, 61, 4]) (u := u) (k := 43) (i := 20) (by rw [hN]; decide) rfl f43
      have fg : u 19 = .bool true := hf 19 (by decide)
      have ef : ∀ f, (frm A [23, 24, 25, 26, 27, 28, 29, 30, 31, 32, 33, 34, 35, 36, 37, 38, 39, 40, 41, 42, 43, 44, 45, 46, 47, 48, 49, 50, 51, 52, 53, 54, 55, 56, 57, 58, 59, 60, 61, 4] u).eval (.func f) = .func (.func f) #[] #[] := fun _ => rfl
      generalize (frm A [23, 24, 25, 26, 27, 28, 29, 30, 31, 32, 33, 34, 35, 36, 37, 38, 39, 40, 41, 42, 43, 44, 45, 46, 47, 48, 49, 50, 51, 52, 53, 54, 55, 56, 57, 58, 59, 60, 61, 4] u).eval = ev at *
      exact k_call _ _ ⟨_, fg, rfl⟩ rfl (by simp [go_sem, ef, e43]) (k7.out W) (fun w' hb => nxt hG hb) (fun _ _ => rfl)
    · intro u W hG hf
      have e2 := frm_base (ds := [23, 24, 25, 26, 27, 28, 29, 30, 31, 32, 33, 34, 35, 36, 37, 38, 39, 40, 41, 42, 43, 44, 45, 46, 47, 48, 49, 50, 51, 52, 53, 54, 55, 56, 57, 58, 59, 60, 61, 4]) (u := u) (k := 2) (by rw [hN]; decide) rfl q2
      have fg : u 19 = .bool true := hf 19 (by decide)
      generalize (frm A [23, 24, 25, 26, 27, 28, 29, 30, 31, 32, 33, 34, 35, 36, 37, 38, 39, 40, 41, 42, 43, 44, 45, 46, 47, 48, 49, 50, 51, 52, 53, 54, 55, 56, 57, 58, 59, 60, 61, 4] u).eval = ev at *
      have hx := X1.later hG
      have y0 := hx.cel 0
      have y1 := hx.cel 1
      simp at y0 y1
      refine k_val (.agg #[.bool b, .string s]) ⟨_, fg, rfl⟩ rfl hG ?_ rfl
      simp [go_sem, e2, y0, y1]
    · intro u W hG hf
      have f45 : u 22 = .agg #[.bool b, .string s] := hf 22 (by decide)
      have e45 := frm_head (ds := [23, 24, 25, 26, 27, 28, 29, 30, 31, 32, 33, 34, 35, 36, 37, 38, 39, 40, 41, 42, 43, 44, 45, 46, 47, 48, 49, 50, 51, 52, 53, 54, 55, 56, 57, 58, 59, 60, 61, 4]) (u := u) (k := 45) (i := 22) (by rw [hN]; decide) rfl f45
      have fg : u 19 = .bool true := hf 19 (by decide)
      have ef : ∀ f, (frm A [23, 24, 25, 26, 27, 28, 29, 30, 31, 32, 33, 34, 35, 36, 37, 38, 39, 40, 41, 42, 43, 44, 45, 46, 47, 48, 49, 50, 51, 52, 53, 54, 55, 56, 57, 58, 59, 60, 61, 4] u).eval (.func f) = .func (.func f) #[] #[] := fun _ => rfl
      generalize (frm A [23, 24, 25, 26, 27, 28, 29, 30, 31, 32, 33, 34, 35, 36, 37, 38, 39, 40, 41, 42, 43, 44, 45, 46, 47, 48, 49, 50, 51, 52, 53, 54, 55, 56, 57, 58, 59, 60, 61, 4] u).eval = ev at *
      exact k_call _ _ ⟨_, fg, rfl⟩ rfl (by simp [go_sem, ef, e45]) (k8.out W) (fun w' hb => nxt hG hb) (fun _ _ => rfl)
    · intro u W hG hf
      have f44 : u 21 = .agg #[.bool (neg (-ival b (sval s))), .string (mag (-ival b (sval s)))] := hf 21 (by decide)
      have e44 := frm_head (ds := [23, 24, 25, 26, 27, 28, 29, 30, 31, 32, 33, 34, 35, 36, 37, 38, 39, 40, 41, 42, 43, 44, 45, 46, 47, 48, 49, 50, 51, 52, 53, 54, 55, 56, 57, 58, 59, 60, 61, 4]) (u := u) (k := 44) (i := 21) (by rw [hN]; decide) rfl f44
      have f46 : u 23 = .agg #[.bool (neg (-ival b (sval s))), .string (mag (-ival b (sval s)))] := hf 23 (by decide)
      have e46 := frm_head (ds := [23, 24, 25, 26, 27, 28, 29, 30, 31, 32, 33, 34, 35, 36, 37, 38, 39, 40, 41, 42, 43, 44, 45, 46, 47, 48, 49, 50, 51, 52, 53, 54, 55, 56, 57, 58, 59, 60, 61, 4]) (u := u) (k := 46) (i := 23) (by rw [hN]; decide) rfl f46
      have fg : u 19 = .bool true := hf 19 (by decide)
      generalize (frm A [23, 24, 25, 26, 27, 28, 29, 30, 31, 32, 33, 34, 35, 36, 37, 38, 39, 40, 41, 42, 43, 44, 45, 46, 47, 48, 49, 50, 51, 52, 53, 54, 55, 56, 57, 58, 59, 60, 61, 4] u).eval = ev at *
      refine k_val (.bool true) ⟨_, fg, rfl⟩ rfl hG ?_ rfl
      simp [go_sem, e44, e46]
    · intro u W hG hf
      have f42 : u 19 = .bool true := hf 19 (by decide)
      have e42 := frm_head (ds := [23, 24, 25, 26, 27, 28, 29, 30, 31, 32, 33, 34, 35, 36, 37, 38, 39, 40, 41, 42, 43, 44, 45, 46, 47, 48, 49, 50, 51, 52, 53, 54, 55, 56, 57, 58, 59, 60, 61, 4]) (u := u) (k := 42) (i := 19) (by rw [hN]; decide) rfl f42
      have f47 : u 24 = .bool true := hf 24 (by decide)
      have e47 := frm_head (ds := [23, 24, 25, 26, 27, 28, 29, 30, 31, 32, 33, 34, 35, 36, 37, 38, 39, 40, 41, 42, 43, 44, 45, 46, 47, 48, 49, 50, 51, 52, 53, 54, 55, 56, 57, 58, 59, 60, 61, 4]) (u := u) (k := 47) (i := 24) (by rw [hN]; decide) rfl f47
      generalize (frm A [23, 24, 25, 26, 27, 28, 29, 30, 31, 32, 33, 34, 35, 36, 37, 38, 39, 40, 41, 42, 43, 44, 45, 46, 47, 48, 49, 50, 51, 52, 53, 54, 55, 56, 57, 58, 59, 60, 61, 4] u).eval = ev at *
      refine k_val (.bool true) rfl rfl hG ?_ rfl
      simp [go_sem, e42, e47]
    · intro u W hG hf
      have f48 : u 25 = .bool true := hf 25 (by decide)
      have e48 := frm_head (ds := [23, 24, 25, 26, 27, 28, 29, 30, 31, 32, 33, 34, 35, 36, 37, 38, 39, 40, 41, 42, 43, 44, 45, 46, 47, 48, 49, 50, 51, 52, 53, 54, 55, 56, 57, 58, 59, 60, 61, 4]) (u := u) (k := 48) (i := 25) (by rw [hN]; decide) rfl f48
      generalize (frm A [23, 24, 25, 26, 27, 28, 29, 30, 31, 32, 33, 34, 35, 36, 37, 38, 39, 40, 41, 42, 43, 44, 45, 46, 47, 48, 49, 50, 51, 52, 53, 54, 55, 56, 57, 58, 59, 60, 61, 4] u).eval = ev at *
      refine k_val (.bool true) rfl rfl hG ?_ rfl
      simp [go_sem, e48]
    · intro u W hG hf
      have e5 := frm_base (ds := [23, 24, 25, 26, 27, 28, 29, 30, 31, 32, 33, 34, 35, 36, 37, 38, 39, 40, 41, 42, 43, 44, 45, 46, 47, 48, 49, 50, 51, 52, 53, 54, 55, 56, 57, 58, 59, 60, 61, 4]) (u := u) (k := 5) (by rw [hN]; decide) rfl q5
      have fg : u 26 = .bool true := hf 26 (by decide)
      generalize (frm A [23, 24, 25, 26, 27, 28, 29, 30, 31, 32, 33, 34, 35, 36, 37, 38, 39, 40, 41, 42, 43, 44, 45, 46, 47, 48, 49, 50, 51, 52, 53, 54, 55, 56, 57, 58, 59, 60, 61, 4] u).eval = ev at *
      refine k_val (.int .i64 (X)) ⟨_, fg, rfl⟩ rfl hG ?_ rfl
      simp [go_sem, e5]
    · intro u W hG hf
      have e7 := frm_base (ds := [23, 24, 25, 26, 27, 28, 29, 30, 31, 32, 33, 34, 35, 36, 37, 38, 39, 40, 41, 42, 43, 44, 45, 46, 47, 48, 49, 50, 51, 52, 53, 54, 55, 56, 57, 58, 59, 60, 61, 4]) (u := u) (k := 7) (by rw [hN]; decide) rfl q7
      have fg : u 26 = .bool true := hf 26 (by decide)
      generalize (frm A [23, 24, 25, 26, 27, 28, 29, 30, 31, 32, 33, 34, 35, 36, 37, 38, 39, 40, 41, 42, 43, 44, 45, 46, 47, 48, 49, 50, 51, 52, 53, 54, 55, 56, 57, 58, 59, 60, 61, 4] u).eval = ev at *
      refine k_val (.int .i64 (X)) ⟨_, fg, rfl⟩ rfl hG ?_ rfl
      simp [go_sem, e7]
    · intro u W hG hf
      have f50 : u 27 = .int .i64 (X) := hf 27 (by decide)
      have e50 := frm_head (ds := [23, 24, 25, 26, 27, 28, 29, 30, 31, 32, 33, 34, 35, 36, 37, 38, 39, 40, 41, 42, 43, 44, 45, 46, 47, 48, 49, 50, 51, 52, 53, 54, 55, 56, 57, 58, 59, 60, 61, 4]) (u := u) (k := 50) (i := 27) (by rw [hN]; decide) rfl f50
      have f51 : u 28 = .int .i64 (X) := hf 28 (by decide)
      have e51 := frm_head (ds := [23, 24, 25, 26, 27, 28, 29, 30, 31, 32, 33, 34, 35, 36, 37, 38, 39, 40, 41, 42, 43, 44, 45, 46, 47, 48, 49, 50, 51, 52, 53, 54, 55, 56, 57, 58, 59, 60, 61, 4]) (u := u) (k := 51) (i := 28) (by rw [hN]; decide) rfl f51
      have fg : u 26 = .bool true := hf 26 (by decide)
      generalize (frm A [23, 24, 25, 26, 27, 28, 29, 30, 31, 32, 33, 34, 35, 36, 37, 38, 39, 40, 41, 42, 43, 44, 45, 46, 47, 48, 49, 50, 51, 52, 53, 54, 55, 56, 57, 58, 59, 60, 61, 4] u).eval = ev at *
      refine k_val (.bool true) ⟨_, fg, rfl⟩ rfl hG ?_ rfl
      simp [go_sem, e50, e51]
    · intro u W hG hf
      have f49 : u 26 = .bool true := hf 26 (by decide)
      have e49 := frm_head (ds := [23, 24, 25, 26, 27, 28, 29, 30, 31, 32, 33, 34, 35, 36, 37, 38, 39, 40, 41, 42, 43, 44, 45, 46, 47, 48, 49, 50, 51, 52, 53, 54, 55, 56, 57, 58, 59, 60, 61, 4]) (u := u) (k := 49) (i := 26) (by rw [hN]; decide) rfl f49
      have f52 : u 29 = .bool true := hf 29 (by decide)
      have e52 := frm_head (ds := [23, 24, 25, 26, 27, 28, 29, 30, 31, 32, 33, 34, 35, 36, 37, 38, 39, 40, 41, 42, 43, 44, 45, 46, 47, 48, 49, 50, 51, 52, 53, 54, 55, 56, 57, 58, 59, 60, 61, 4]) (u := u) (k := 52) (i := 29) (by rw [hN]; decide) rfl f52
      generalize (frm A [23, 24, 25, 26, 27, 28, 29, 30, 31, 32, 33, 34, 35, 36, 37, 38, 39, 40, 41, 42, 43, 44, 45, 46, 47, 48, 49, 50, 51, 52, 53, 54, 55, 56, 57, 58, 59, 60, 61, 4] u).eval = ev at *
      refine k_val (.bool true) rfl rfl hG ?_ rfl
      simp [go_sem, e49, e52]
    · intro u W hG hf
      have f53 : u 30 = .bool true := hf 30 (by decide)
      have e53 := frm_head (ds := [23, 24, 25, 26, 27, 28, 29, 30, 31, 32, 33, 34, 35, 36, 37, 38, 39, 40, 41, 42, 43, 44, 45, 46, 47, 48, 49, 50, 51, 52, 53, 54, 55, 56, 57, 58, 59, 60, 61, 4]) (u := u) (k := 53) (i := 30) (by rw [hN]; decide) rfl f53
      generalize (frm A [23, 24, 25, 26, 27, 28, 29, 30, 31, 32, 33, 34, 35, 36, 37, 38, 39, 40, 41, 42, 43, 44, 45, 46, 47, 48, 49, 50, 51, 52, 53, 54, 55, 56, 57, 58, 59, 60, 61, 4] u).eval = ev at *
      refine k_val (.bool true) rfl rfl hG ?_ rfl
      simp [go_sem, e53]
    · intro u W hG hf
      have e6 := frm_base (ds := [23, 24, 25, 26, 27, 28, 29, 30, 31, 32, 33, 34, 35, 36, 37, 38, 39, 40, 41, 42, 43, 44, 45, 46, 47, 48, 49, 50, 51, 52, 53, 54, 55, 56, 57, 58, 59, 60, 61, 4]) (u := u) (k := 6) (by rw [hN]; decide) rfl q6
      have fg : u 31 = .bool true := hf 31 (by decide)
      generalize (frm A [23, 24, 25, 26, 27, 28, 29, 30, 31, 32, 33, 34, 35, 36, 37, 38, 39, 40, 41, 42, 43, 44, 45, 46, 47, 48, 49, 50, 51, 52, 53, 54, 55, 56, 57, 58, 59, 60, 61, 4] u).eval = ev at *
      refine k_val (.bool K) ⟨_, fg, rfl⟩ rfl hG ?_ rfl
      simp [go_sem, e6]
    · intro u W hG hf
      have e8 := frm_base (ds := [23, 24, 25, 26, 27, 28, 29, 30, 31, 32, 33, 34, 35, 36, 37, 38, 39, 40, 41, 42, 43, 44, 45, 46, 47, 48, 49, 50, 51, 52, 53, 54, 55, 56, 57, 58, 59, 60, 61, 4]) (u := u) (k := 8) (by rw [hN]; decide) rfl q8
      have fg : u 31 = .bool true := hf 31 (by decide)
      generalize (frm A [23, 24, 25, 26, 27, 28, 29, 30, 31, 32, 33, 34, 35, 36, 37, 38, 39, 40, 41, 42, 43, 44, 45, 46, 47, 48, 49, 50, 51, 52, 53, 54, 55, 56, 57, 58, 59, 60, 61, 4] u).eval = ev at *
      refine k_val (.bool K) ⟨_, fg, rfl⟩ rfl hG ?_ rfl
      simp [go_sem, e8]
    · intro u W hG hf
      have f55 : u 32 = .bool K := hf 32 (by decide)
      have e55 := frm_head (ds := [23, 24, 25, 26, 27, 28, 29, 30, 31, 32, 33, 34, 35, 36, 37, 38, 39, 40, 41, 42, 43, 44, 45, 46, 47, 48, 49, 50, 51, 52, 53, 54, 55, 56, 57, 58, 59, 60, 61, 4]) (u := u) (k := 55) (i := 32) (by rw [hN]; decide) rfl f55
      have f56 : u 33 = .bool K := hf 33 (by decide)
      have e56 := frm_head (ds := [23, 24, 25, 26, 27, 28, 29, 30, 31, 32, 33, 34, 35, 36, 37, 38, 39, 40, 41, 42, 43, 44, 45, 46, 47, 48, 49, 50, 51, 52, 53, 54, 55, 56, 57, 58, 59, 60, 61, 4]) (u := u) (k := 56) (i := 33) (by rw [hN]; decide) rfl f56
      have fg : u 31 = .bool true := hf 31 (by decide)
      generalize (frm A [23, 24, 25, 26, 27, 28, 29, 30, 31, 32, 33, 34, 35, 36, 37, 38, 39, 40, 41, 42, 43, 44, 45, 46, 47, 48, 49, 50, 51, 52, 53, 54, 55, 56, 57, 58, 59, 60, 61, 4] u).eval = ev at *
      refine k_val (.bool true) ⟨_, fg, rfl⟩ rfl hG ?_ rfl
      simp [go_sem, e55, e56]
    · intro u W hG hf
      have f54 : u 31 = .bool true := hf 31 (by decide)
      have e54 := frm_head (ds := [23, 24, 25, 26, 27, 28, 29, 30, 31, 32, 33, 34, 35, 36, 37, 38, 39, 40, 41, 42, 43, 44, 45, 46, 47, 48, 49, 50, 51, 52, 53, 54, 55, 56, 57, 58, 59, 60, 61, 4]) (u := u) (k := 54) (i := 31) (by rw [hN]; decide) rfl f54
      have f57 : u 34 = .bool true := hf 34 (by decide)
      have e57 := frm_head (ds := [23, 24, 25, 26, 27, 28, 29, 30, 31, 32, 33, 34, 35, 36, 37, 38, 39, 40, 41, 42, 43, 44, 45, 46, 47, 48, 49, 50, 51, 52, 53, 54, 55, 56, 57, 58, 59, 60, 61, 4]) (u := u) (k := 57) (i := 34) (by rw [hN]; decide) rfl f57
      generalize (frm A [23, 24, 25, 26, 27, 28, 29, 30, 31, 32, 33, 34, 35, 36, 37, 38, 39, 40, 41, 42, 43, 44, 45, 46, 47, 48, 49, 50, 51, 52, 53, 54, 55, 56, 57, 58, 59, 60, 61, 4] u).eval = ev at *
      refine k_val (.bool true) rfl rfl hG ?_ rfl
      simp [go_sem, e54, e57]
    · intro u W hG hf
      have f58 : u 35 = .bool true := hf 35 (by decide)
      have e58 := frm_head (ds := [23, 24, 25, 26, 27, 28, 29, 30, 31, 32, 33, 34, 35, 36, 37, 38, 39, 40, 41, 42, 43, 44, 45, 46, 47, 48, 49, 50, 51, 52, 53, 54, 55, 56, 57, 58, 59, 60, 61, 4]) (u := u) (k := 58) (i := 35) (by rw [hN]; decide) rfl f58
      generalize (frm A [23, 24, 25, 26, 27, 28, 29, 30, 31, 32, 33, 34, 35, 36, 37, 38, 39, 40, 41, 42, 43, 44, 45, 46, 47, 48, 49, 50, 51, 52, 53, 54, 55, 56, 57, 58, 59, 60, 61, 4] u).eval = ev at *
      refine k_val (.bool true) rfl rfl hG ?_ rfl
      simp [go_sem, e58]
    · intro u W hG hf
      have fg : u 36 = .bool true := hf 36 (by decide)
      have ef : ∀ f, (frm A [23, 24, 25, 26, 27, 28, 29, 30, 31, 32, 33, 34, 35, 36, 37, 38, 39, 40, 41, 42, 43, 44, 45, 46, 47, 48, 49, 50, 51, 52, 53, 54, 55, 56, 57, 58, 59, 60, 61, 4] u).eval (.func f) = .func (.func f) #[] #[] := fun _ => rfl
      generalize (frm A [23, 24, 25, 26, 27, 28, 29, 30, 31, 32, 33, 34, 35, 36, 37, 38, 39, 40, 41, 42, 43, 44, 45, 46, 47, 48, 49, 50, 51, 52, 53, 54, 55, 56, 57, 58, 59, 60, 61, 4] u).eval = ev at *
      exact k_call _ _ ⟨_, fg, rfl⟩ rfl (by simp [go_sem, ef]) (HA.out W (nxt hB hG)) (fun w' hb => nxt hG hb) (fun _ _ => rfl)
    · intro u W hG hf
      have f59 : u 36 = .bool true := hf 36 (by decide)
      have e59 := frm_head (ds := [23, 24, 25, 26, 27, 28, 29, 30, 31, 32, 33, 34, 35, 36, 37, 38, 39, 40, 41, 42, 43, 44, 45, 46, 47, 48, 49, 50, 51, 52, 53, 54, 55, 56, 57, 58, 59, 60, 61, 4]) (u := u) (k := 59) (i := 36) (by rw [hN]; decide) rfl f59
      have f60 : u 37 = .bool true := hf 37 (by decide)
      have e60 := frm_head (ds := [23, 24, 25, 26, 27, 28, 29, 30, 31, 32, 33, 34, 35, 36, 37, 38, 39, 40, 41, 42, 43, 44, 45, 46, 47, 48, 49, 50, 51, 52, 53, 54, 55, 56, 57, 58, 59, 60, 61, 4]) (u := u) (k := 60) (i := 37) (by rw [hN]; decide) rfl f60
      generalize (frm A [23, 24, 25, 26, 27, 28, 29, 30, 31, 32, 33, 34, 35, 36, 37, 38, 39, 40, 41, 42, 43, 44, 45, 46, 47, 48, 49, 50, 51, 52, 53, 54, 55, 56, 57, 58, 59, 60, 61, 4] u).eval = ev at *
      refine k_val (.bool true) rfl rfl hG ?_ rfl
      simp [go_sem, e59, e60]
    · intro u W hG hf
      have f61 : u 38 = .bool true := hf 38 (by decide)
      have e61 := frm_head (ds := [23, 24, 25, 26, 27, 28, 29, 30, 31, 32, 33, 34, 35, 36, 37, 38, 39, 40, 41, 42, 43, 44, 45, 46, 47, 48, 49, 50, 51, 52, 53, 54, 55, 56, 57, 58, 59, 60, 61, 4]) (u := u) (k := 61) (i := 38) (by rw [hN]; decide) rfl f61
      generalize (frm A [23, 24, 25, 26, 27, 28, 29, 30, 31, 32, 33, 34, 35, 36, 37, 38, 39, 40, 41, 42, 43, 44, 45, 46, 47, 48, 49, 50, 51, 52, 53, 54, 55, 56, 57, 58, 59, 60, 61, 4] u).eval = ev at *
      refine k_val (.bool true) rfl rfl hG ?_ rfl
      simp [go_sem, e61]
  case hlate =>
    intro A _
    exact ⟨trivial, trivial, trivial, trivial, trivial, trivial, trivial, trivial, trivial, trivial, trivial, trivial, trivial, trivial, trivial, trivial, trivial, trivial, trivial, trivial, trivial, trivial, trivial, trivial, trivial, trivial, trivial, trivial, trivial, trivial, trivial, trivial, trivial, trivial, trivial, trivial, trivial, trivial, trivial, trivial, trivial⟩
  case htail =>
    intro u w' hG hP hD
    have f4 : u 39 = .bool true := hP 39 (by decide)
    simp only [putAll, Act.put, List.setIfInBounds_toArray, List.set_cons_zero, List.set_cons_succ, List.length_cons, List.length_nil, Nat.reduceAdd, List.drop_succ_cons, List.drop_zero, f4]
    go_wp2
    go_ret
    exact ⟨rfl, nxt hB hG⟩

end Go.Proofs.YtmnmfidcldmhdaaDoor
