/- The walk of the document's Small. -/
import Derived.Test.YtmnmfidcldmhdaaDoorSmall
namespace Go.Proofs.YtmnmfidcldmhdaaDoor
open Go.RowKit

set_option maxRecDepth 100000 in
set_option maxHeartbeats 400000 in
theorem rSmall_low (s : ByteArray) (b : Bool) (ML MH D1 D2 : Int) (w : World) (hD : D1 < 0)
    (cL : Hid (∀ W, Calls Tryd.prog 49 #[.int .i64 (-9223372036854775808)] W fun e w' => e = .returned (.agg #[.bool (neg (ML)), .string (mag (ML))]) ∧ Below W.heap.size W w'))
    (_cH : Hid (∀ W, Calls Tryd.prog 49 #[.int .i64 9223372036854775807] W fun e w' => e = .returned (.agg #[.bool (neg (MH)), .string (mag (MH))]) ∧ Below W.heap.size W w'))
    (c1 : Hid (∀ W, Calls Tryd.prog 20 #[.agg #[.bool b, .string s], .agg #[.bool (neg (ML)), .string (mag (ML))]] W fun e w' => e = .returned (.int .i64 D1) ∧ Below W.heap.size W w'))
    (_c2 : Hid (∀ W, Calls Tryd.prog 20 #[.agg #[.bool b, .string s], .agg #[.bool (neg (MH)), .string (mag (MH))]] W fun e w' => e = .returned (.int .i64 D2) ∧ Below W.heap.size W w')) :
    Calls Tryd.prog 34 #[.agg #[.bool b, .string s]] w fun e w' => e = .returned (.tuple #[.int .i64 0, .bool false]) ∧ Below w.heap.size w w' := by
  go_enter Tryd.func34, Tryd.ntmps34
  go_upto_region 1 with (fail)
  have X1 := Bx.new w 26 #[.bool b, .string s]
  have hB := b1 w (.cells #[.bool b, .string s] 26)
  generalize w.alloc (.cells #[.bool b, .string s] 26) = w0 at *
  have hl0 := X1.lt
  refine wp_region_know [6, 7, 8, 9, 10, 11, 12, 13, 14, 15] (fun W => Below w0.heap.size w0 W) (kAt [eqK (.agg #[.bool b, .string s]), eqK (.agg #[.bool (neg (ML)), .string (mag (ML))]), eqK (.int .i64 (D1)), eqK (.bool true), eqK (.bool true), eqK (undef), eqK (undef), eqK (undef), eqK (undef), eqK (.bool true)])
    (fun _ => true) (fun _ => false) (by kernel_rfl) (by kernel_rfl) (fun _ _ _ _ _ h => h) (by kernel_rfl) (by kernel_rfl) 42 rfl (by kernel_rfl) (by kernel_rfl) ?hG (fun i v w w' hi => kAt_stab (by exact ⟨stab_eq _, stab_eq _, stab_eq _, stab_eq _, stab_eq _, stab_eq _, stab_eq _, stab_eq _, stab_eq _, stab_eq _, trivial⟩) _ i v w w' hi) (fun _ _ _ _ hf _ => absurd hf Bool.false_ne_true) ?hop ?hlate ?htail
  case hG => exact (Below.refl _ _).drew
  case hop =>
    intro A hA
    have hN : A.tmps.size = 42 := by rw [hA]; rfl
    have q1 : A.tmps.getD 1 undef = .pointer (some ⟨w.heap.size, 0, none⟩) := by rw [hA]; rfl
    clear hA
    refine ⟨?_, ?_, ?_, ?_, ?_, ?_, ?_, ?_, ?_, ?_, trivial⟩
    · intro u W hG hf
      have e1 := frm_base (ds := [6, 7, 8, 9, 10, 11, 12, 13, 14, 15]) (u := u) (k := 1) (by rw [hN]; decide) rfl q1
      generalize (frm A [6, 7, 8, 9, 10, 11, 12, 13, 14, 15] u).eval = ev at *
      have hx := X1.later hG
      have y0 := hx.cel 0
      have y1 := hx.cel 1
      simp at y0 y1
      refine k_val (.agg #[.bool b, .string s]) rfl rfl hG ?_ rfl
      simp [go_sem, e1, y0, y1]
    · intro u W hG hf
      have ec : ∀ v, (frm A [6, 7, 8, 9, 10, 11, 12, 13, 14, 15] u).eval (.const v) = v := fun _ => rfl
      have ef : ∀ f, (frm A [6, 7, 8, 9, 10, 11, 12, 13, 14, 15] u).eval (.func f) = .func (.func f) #[] #[] := fun _ => rfl
      generalize (frm A [6, 7, 8, 9, 10, 11, 12, 13, 14, 15] u).eval = ev at *
      exact k_call _ _ rfl rfl (by simp [go_sem, ec, ef]) (cL.out W) (fun w' hb => nxt hG hb) (fun _ _ => rfl)
    · intro u W hG hf
      have f6 : u 0 = .agg #[.bool b, .string s] := hf 0 (by decide)
      have e6 := frm_head (ds := [6, 7, 8, 9, 10, 11, 12, 13, 14, 15]) (u := u) (k := 6) (i := 0) (by rw [hN]; decide) rfl f6
      have f7 : u 1 = .agg #[.bool (neg (ML)), .string (mag (ML))] := hf 1 (by decide)
      have e7 := frm_head (ds := [6, 7, 8, 9, 10, 11, 12, 13, 14, 15]) (u := u) (k := 7) (i := 1) (by rw [hN]; decide) rfl f7
      have ef : ∀ f, (frm A [6, 7, 8, 9, 10, 11, 12, 13, 14, 15] u).eval (.func f) = .func (.func f) #[] #[] := fun _ => rfl
      generalize (frm A [6, 7, 8, 9, 10, 11, 12, 13, 14, 15] u).eval = ev at *
      exact k_call _ _ rfl rfl (by simp [go_sem, ef, e6, e7]) (c1.out W) (fun w' hb => nxt hG hb) (fun _ _ => rfl)
    · intro u W hG hf
      have f8 : u 2 = .int .i64 (D1) := hf 2 (by decide)
      have e8 := frm_head (ds := [6, 7, 8, 9, 10, 11, 12, 13, 14, 15]) (u := u) (k := 8) (i := 2) (by rw [hN]; decide) rfl f8
      have ec : ∀ v, (frm A [6, 7, 8, 9, 10, 11, 12, 13, 14, 15] u).eval (.const v) = v := fun _ => rfl
      generalize (frm A [6, 7, 8, 9, 10, 11, 12, 13, 14, 15] u).eval = ev at *
      refine k_val (.bool true) rfl rfl hG ?_ rfl
      simp [go_sem, ec, e8, hD]
    · intro u W hG hf
      have f9 : u 3 = .bool true := hf 3 (by decide)
      have e9 := frm_head (ds := [6, 7, 8, 9, 10, 11, 12, 13, 14, 15]) (u := u) (k := 9) (i := 3) (by rw [hN]; decide) rfl f9
      generalize (frm A [6, 7, 8, 9, 10, 11, 12, 13, 14, 15] u).eval = ev at *
      refine k_val (.bool true) rfl rfl hG ?_ rfl
      simp [go_sem, e9]
    · intro u W hG hf
      have fg : u 4 = .bool true := hf 4 (by decide)
      exact k_skip ⟨_, fg, rfl⟩ rfl rfl
    · intro u W hG hf
      have fg : u 4 = .bool true := hf 4 (by decide)
      exact k_skip ⟨_, fg, rfl⟩ rfl rfl
    · intro u W hG hf
      have fg : u 4 = .bool true := hf 4 (by decide)
      exact k_skip ⟨_, fg, rfl⟩ rfl rfl
    · intro u W hG hf
      have fg : u 4 = .bool true := hf 4 (by decide)
      exact k_skip ⟨_, fg, rfl⟩ rfl rfl
    · intro u W hG hf
      have f10 : u 4 = .bool true := hf 4 (by decide)
      have e10 := frm_head (ds := [6, 7, 8, 9, 10, 11, 12, 13, 14, 15]) (u := u) (k := 10) (i := 4) (by rw [hN]; decide) rfl f10
      have ec : ∀ v, (frm A [6, 7, 8, 9, 10, 11, 12, 13, 14, 15] u).eval (.const v) = v := fun _ => rfl
      generalize (frm A [6, 7, 8, 9, 10, 11, 12, 13, 14, 15] u).eval = ev at *
      refine k_val (.bool true) rfl rfl hG ?_ rfl
      simp [go_sem, ec, e10]
  case hlate =>
    intro A _
    exact ⟨trivial, trivial, trivial, trivial, trivial, trivial, trivial, trivial, trivial, trivial, trivial⟩
  case htail =>
    intro u w' hG hP hD
    have f15 : u 9 = .bool true := hP 9 (by decide)
    simp only [putAll, Act.put, List.setIfInBounds_toArray, List.set_cons_zero, List.set_cons_succ, List.length_cons, List.length_nil, Nat.reduceAdd, List.drop_succ_cons, List.drop_zero, f15]
    replace hB := nxt hB hG
    replace X1 := X1.later hG
    obtain ⟨p1, p2, _, _⟩ := X1.two
    clear X1 hP hD hG f15
    go_wp2_with fail
    exact bodyPost_ret (v := .tuple #[.int .i64 0, .bool false]) (by simp [results, Tryd.results34, go_sem]) rfl ⟨rfl, hB⟩

set_option maxRecDepth 100000 in
set_option maxHeartbeats 400000 in
theorem rSmall_high (s : ByteArray) (b : Bool) (ML MH D1 D2 : Int) (w : World) (h1 : ¬ D1 < 0) (hD : 0 < D2)
    (cL : Hid (∀ W, Calls Tryd.prog 49 #[.int .i64 (-9223372036854775808)] W fun e w' => e = .returned (.agg #[.bool (neg (ML)), .string (mag (ML))]) ∧ Below W.heap.size W w'))
    (cH : Hid (∀ W, Calls Tryd.prog 49 #[.int .i64 9223372036854775807] W fun e w' => e = .returned (.agg #[.bool (neg (MH)), .string (mag (MH))]) ∧ Below W.heap.size W w'))
    (c1 : Hid (∀ W, Calls Tryd.prog 20 #[.agg #[.bool b, .string s], .agg #[.bool (neg (ML)), .string (mag (ML))]] W fun e w' => e = .returned (.int .i64 D1) ∧ Below W.heap.size W w'))
    (c2 : Hid (∀ W, Calls Tryd.prog 20 #[.agg #[.bool b, .string s], .agg #[.bool (neg (MH)), .string (mag (MH))]] W fun e w' => e = .returned (.int .i64 D2) ∧ Below W.heap.size W w')) :
    Calls Tryd.prog 34 #[.agg #[.bool b, .string s]] w fun e w' => e = .returned (.tuple #[.int .i64 0, .bool false]) ∧ Below w.heap.size w w' := by
  go_enter Tryd.func34, Tryd.ntmps34
  go_upto_region 1 with (fail)
  have X1 := Bx.new w 26 #[.bool b, .string s]
  have hB := b1 w (.cells #[.bool b, .string s] 26)
  generalize w.alloc (.cells #[.bool b, .string s] 26) = w0 at *
  have hl0 := X1.lt
  refine wp_region_know [6, 7, 8, 9, 10, 11, 12, 13, 14, 15] (fun W => Below w0.heap.size w0 W) (kAt [eqK (.agg #[.bool b, .string s]), eqK (.agg #[.bool (neg (ML)), .string (mag (ML))]), eqK (.int .i64 (D1)), eqK (.bool false), eqK (.bool false), eqK (.agg #[.bool b, .string s]), eqK (.agg #[.bool (neg (MH)), .string (mag (MH))]), eqK (.int .i64 (D2)), eqK (.bool true), eqK (.bool true)])
    (fun _ => true) (fun _ => false) (by kernel_rfl) (by kernel_rfl) (fun _ _ _ _ _ h => h) (by kernel_rfl) (by kernel_rfl) 42 rfl (by kernel_rfl) (by kernel_rfl) ?hG (fun i v w w' hi => kAt_stab (by exact ⟨stab_eq _, stab_eq _, stab_eq _, stab_eq _, stab_eq _, stab_eq _, stab_eq _, stab_eq _, stab_eq _, stab_eq _, trivial⟩) _ i v w w' hi) (fun _ _ _ _ hf _ => absurd hf Bool.false_ne_true) ?hop ?hlate ?htail
  case hG => exact (Below.refl _ _).drew
  case hop =>
    intro A hA
    have hN : A.tmps.size = 42 := by rw [hA]; rfl
    have q1 : A.tmps.getD 1 undef = .pointer (some ⟨w.heap.size, 0, none⟩) := by rw [hA]; rfl
    clear hA
    refine ⟨?_, ?_, ?_, ?_, ?_, ?_, ?_, ?_, ?_, ?_, trivial⟩
    · intro u W hG hf
      have e1 := frm_base (ds := [6, 7, 8, 9, 10, 11, 12, 13, 14, 15]) (u := u) (k := 1) (by rw [hN]; decide) rfl q1
      generalize (frm A [6, 7, 8, 9, 10, 11, 12, 13, 14, 15] u).eval = ev at *
      have hx := X1.later hG
      have y0 := hx.cel 0
      have y1 := hx.cel 1
      simp at y0 y1
      refine k_val (.agg #[.bool b, .string s]) rfl rfl hG ?_ rfl
      simp [go_sem, e1, y0, y1]
    · intro u W hG hf
      have ec : ∀ v, (frm A [6, 7, 8, 9, 10, 11, 12, 13, 14, 15] u).eval (.const v) = v := fun _ => rfl
      have ef : ∀ f, (frm A [6, 7, 8, 9, 10, 11, 12, 13, 14, 15] u).eval (.func f) = .func (.func f) #[] #[] := fun _ => rfl
      generalize (frm A [6, 7, 8, 9, 10, 11, 12, 13, 14, 15] u).eval = ev at *
      exact k_call _ _ rfl rfl (by simp [go_sem, ec, ef]) (cL.out W) (fun w' hb => nxt hG hb) (fun _ _ => rfl)
    · intro u W hG hf
      have f6 : u 0 = .agg #[.bool b, .string s] := hf 0 (by decide)
      have e6 := frm_head (ds := [6, 7, 8, 9, 10, 11, 12, 13, 14, 15]) (u := u) (k := 6) (i := 0) (by rw [hN]; decide) rfl f6
      have f7 : u 1 = .agg #[.bool (neg (ML)), .string (mag (ML))] := hf 1 (by decide)
      have e7 := frm_head (ds := [6, 7, 8, 9, 10, 11, 12, 13, 14, 15]) (u := u) (k := 7) (i := 1) (by rw [hN]; decide) rfl f7
      have ef : ∀ f, (frm A [6, 7, 8, 9, 10, 11, 12, 13, 14, 15] u).eval (.func f) = .func (.func f) #[] #[] := fun _ => rfl
      generalize (frm A [6, 7, 8, 9, 10, 11, 12, 13, 14, 15] u).eval = ev at *
      exact k_call _ _ rfl rfl (by simp [go_sem, ef, e6, e7]) (c1.out W) (fun w' hb => nxt hG hb) (fun _ _ => rfl)
    · intro u W hG hf
      have f8 : u 2 = .int .i64 (D1) := hf 2 (by decide)
      have e8 := frm_head (ds := [6, 7, 8, 9, 10, 11, 12, 13, 14, 15]) (u := u) (k := 8) (i := 2) (by rw [hN]; decide) rfl f8
      have ec : ∀ v, (frm A [6, 7, 8, 9, 10, 11, 12, 13, 14, 15] u).eval (.const v) = v := fun _ => rfl
      generalize (frm A [6, 7, 8, 9, 10, 11, 12, 13, 14, 15] u).eval = ev at *
      refine k_val (.bool false) rfl rfl hG ?_ rfl
      simp [go_sem, ec, e8, Int.not_lt.1 h1]
    · intro u W hG hf
      have f9 : u 3 = .bool false := hf 3 (by decide)
      have e9 := frm_head (ds := [6, 7, 8, 9, 10, 11, 12, 13, 14, 15]) (u := u) (k := 9) (i := 3) (by rw [hN]; decide) rfl f9
      generalize (frm A [6, 7, 8, 9, 10, 11, 12, 13, 14, 15] u).eval = ev at *
      refine k_val (.bool false) rfl rfl hG ?_ rfl
      simp [go_sem, e9]
    · intro u W hG hf
      have e1 := frm_base (ds := [6, 7, 8, 9, 10, 11, 12, 13, 14, 15]) (u := u) (k := 1) (by rw [hN]; decide) rfl q1
      have fg : u 4 = .bool false := hf 4 (by decide)
      generalize (frm A [6, 7, 8, 9, 10, 11, 12, 13, 14, 15] u).eval = ev at *
      have hx := X1.later hG
      have y0 := hx.cel 0
      have y1 := hx.cel 1
      simp at y0 y1
      refine k_val (.agg #[.bool b, .string s]) ⟨_, fg, rfl⟩ rfl hG ?_ rfl
      simp [go_sem, e1, y0, y1]
    · intro u W hG hf
      have fg : u 4 = .bool false := hf 4 (by decide)
      have ec : ∀ v, (frm A [6, 7, 8, 9, 10, 11, 12, 13, 14, 15] u).eval (.const v) = v := fun _ => rfl
      have ef : ∀ f, (frm A [6, 7, 8, 9, 10, 11, 12, 13, 14, 15] u).eval (.func f) = .func (.func f) #[] #[] := fun _ => rfl
      generalize (frm A [6, 7, 8, 9, 10, 11, 12, 13, 14, 15] u).eval = ev at *
      exact k_call _ _ ⟨_, fg, rfl⟩ rfl (by simp [go_sem, ec, ef]) (cH.out W) (fun w' hb => nxt hG hb) (fun _ _ => rfl)
    · intro u W hG hf
      have f11 : u 5 = .agg #[.bool b, .string s] := hf 5 (by decide)
      have e11 := frm_head (ds := [6, 7, 8, 9, 10, 11, 12, 13, 14, 15]) (u := u) (k := 11) (i := 5) (by rw [hN]; decide) rfl f11
      have f12 : u 6 = .agg #[.bool (neg (MH)), .string (mag (MH))] := hf 6 (by decide)
      have e12 := frm_head (ds := [6, 7, 8, 9, 10, 11, 12, 13, 14, 15]) (u := u) (k := 12) (i := 6) (by rw [hN]; decide) rfl f12
      have fg : u 4 = .bool false := hf 4 (by decide)
      have ef : ∀ f, (frm A [6, 7, 8, 9, 10, 11, 12, 13, 14, 15] u).eval (.func f) = .func (.func f) #[] #[] := fun _ => rfl
      generalize (frm A [6, 7, 8, 9, 10, 11, 12, 13, 14, 15] u).eval = ev at *
      exact k_call _ _ ⟨_, fg, rfl⟩ rfl (by simp [go_sem, ef, e11, e12]) (c2.out W) (fun w' hb => nxt hG hb) (fun _ _ => rfl)
    · intro u W hG hf
      have f13 : u 7 = .int .i64 (D2) := hf 7 (by decide)
      have e13 := frm_head (ds := [6, 7, 8, 9, 10, 11, 12, 13, 14, 15]) (u := u) (k := 13) (i := 7) (by rw [hN]; decide) rfl f13
      have fg : u 4 = .bool false := hf 4 (by decide)
      have ec : ∀ v, (frm A [6, 7, 8, 9, 10, 11, 12, 13, 14, 15] u).eval (.const v) = v := fun _ => rfl
      generalize (frm A [6, 7, 8, 9, 10, 11, 12, 13, 14, 15] u).eval = ev at *
      refine k_val (.bool true) ⟨_, fg, rfl⟩ rfl hG ?_ rfl
      simp [go_sem, ec, e13, hD]
    · intro u W hG hf
      have f10 : u 4 = .bool false := hf 4 (by decide)
      have e10 := frm_head (ds := [6, 7, 8, 9, 10, 11, 12, 13, 14, 15]) (u := u) (k := 10) (i := 4) (by rw [hN]; decide) rfl f10
      have f14 : u 8 = .bool true := hf 8 (by decide)
      have e14 := frm_head (ds := [6, 7, 8, 9, 10, 11, 12, 13, 14, 15]) (u := u) (k := 14) (i := 8) (by rw [hN]; decide) rfl f14
      generalize (frm A [6, 7, 8, 9, 10, 11, 12, 13, 14, 15] u).eval = ev at *
      refine k_val (.bool true) rfl rfl hG ?_ rfl
      simp [go_sem, e10, e14]
  case hlate =>
    intro A _
    exact ⟨trivial, trivial, trivial, trivial, trivial, trivial, trivial, trivial, trivial, trivial, trivial⟩
  case htail =>
    intro u w' hG hP hD
    have f15 : u 9 = .bool true := hP 9 (by decide)
    simp only [putAll, Act.put, List.setIfInBounds_toArray, List.set_cons_zero, List.set_cons_succ, List.length_cons, List.length_nil, Nat.reduceAdd, List.drop_succ_cons, List.drop_zero, f15]
    replace hB := nxt hB hG
    replace X1 := X1.later hG
    obtain ⟨p1, p2, _, _⟩ := X1.two
    clear X1 hP hD hG f15
    go_wp2_with fail
    exact bodyPost_ret (v := .tuple #[.int .i64 0, .bool false]) (by simp [results, Tryd.results34, go_sem]) rfl ⟨rfl, hB⟩

set_option maxRecDepth 100000 in
set_option maxHeartbeats 400000 in
theorem rSmall_pos (s : ByteArray) (ML MH D1 D2 : Int) (w : World) (h1 : ¬ D1 < 0) (hD : ¬ 0 < D2) (hv : sval s ≤ 9223372036854775807) (hs : s.size ≤ 16777216)
    (cL : Hid (∀ W, Calls Tryd.prog 49 #[.int .i64 (-9223372036854775808)] W fun e w' => e = .returned (.agg #[.bool (neg (ML)), .string (mag (ML))]) ∧ Below W.heap.size W w'))
    (cH : Hid (∀ W, Calls Tryd.prog 49 #[.int .i64 9223372036854775807] W fun e w' => e = .returned (.agg #[.bool (neg (MH)), .string (mag (MH))]) ∧ Below W.heap.size W w'))
    (c1 : Hid (∀ W, Calls Tryd.prog 20 #[.agg #[.bool false, .string s], .agg #[.bool (neg (ML)), .string (mag (ML))]] W fun e w' => e = .returned (.int .i64 D1) ∧ Below W.heap.size W w'))
    (c2 : Hid (∀ W, Calls Tryd.prog 20 #[.agg #[.bool false, .string s], .agg #[.bool (neg (MH)), .string (mag (MH))]] W fun e w' => e = .returned (.int .i64 D2) ∧ Below W.heap.size W w')) :
    Calls Tryd.prog 34 #[.agg #[.bool false, .string s]] w fun e w' => e = .returned (.tuple #[.int .i64 (sval s : Nat), .bool true]) ∧ Below w.heap.size w w' := by
  go_enter Tryd.func34, Tryd.ntmps34
  go_upto_region 1 with (fail)
  have X1 := Bx.new w 26 #[.bool false, .string s]
  have hB := b1 w (.cells #[.bool false, .string s] 26)
  generalize w.alloc (.cells #[.bool false, .string s] 26) = w0 at *
  have hl0 := X1.lt
  refine wp_region_know [6, 7, 8, 9, 10, 11, 12, 13, 14, 15] (fun W => Below w0.heap.size w0 W) (kAt [eqK (.agg #[.bool false, .string s]), eqK (.agg #[.bool (neg (ML)), .string (mag (ML))]), eqK (.int .i64 (D1)), eqK (.bool false), eqK (.bool false), eqK (.agg #[.bool false, .string s]), eqK (.agg #[.bool (neg (MH)), .string (mag (MH))]), eqK (.int .i64 (D2)), eqK (.bool false), eqK (.bool false)])
    (fun _ => true) (fun _ => false) (by kernel_rfl) (by kernel_rfl) (fun _ _ _ _ _ h => h) (by kernel_rfl) (by kernel_rfl) 42 rfl (by kernel_rfl) (by kernel_rfl) ?hG (fun i v w w' hi => kAt_stab (by exact ⟨stab_eq _, stab_eq _, stab_eq _, stab_eq _, stab_eq _, stab_eq _, stab_eq _, stab_eq _, stab_eq _, stab_eq _, trivial⟩) _ i v w w' hi) (fun _ _ _ _ hf _ => absurd hf Bool.false_ne_true) ?hop ?hlate ?htail
  case hG => exact (Below.refl _ _).drew
  case hop =>
    intro A hA
    have hN : A.tmps.size = 42 := by rw [hA]; rfl
    have q1 : A.tmps.getD 1 undef = .pointer (some ⟨w.heap.size, 0, none⟩) := by rw [hA]; rfl
    clear hA
    refine ⟨?_, ?_, ?_, ?_, ?_, ?_, ?_, ?_, ?_, ?_, trivial⟩
    · intro u W hG hf
      have e1 := frm_base (ds := [6, 7, 8, 9, 10, 11, 12, 13, 14, 15]) (u := u) (k := 1) (by rw [hN]; decide) rfl q1
      generalize (frm A [6, 7, 8, 9, 10, 11, 12, 13, 14, 15] u).eval = ev at *
      have hx := X1.later hG
      have y0 := hx.cel 0
      have y1 := hx.cel 1
      simp at y0 y1
      refine k_val (.agg #[.bool false, .string s]) rfl rfl hG ?_ rfl
      simp [go_sem, e1, y0, y1]
    · intro u W hG hf
      have ec : ∀ v, (frm A [6, 7, 8, 9, 10, 11, 12, 13, 14, 15] u).eval (.const v) = v := fun _ => rfl
      have ef : ∀ f, (frm A [6, 7, 8, 9, 10, 11, 12, 13, 14, 15] u).eval (.func f) = .func (.func f) #[] #[] := fun _ => rfl
      generalize (frm A [6, 7, 8, 9, 10, 11, 12, 13, 14, 15] u).eval = ev at *
      exact k_call _ _ rfl rfl (by simp [go_sem, ec, ef]) (cL.out W) (fun w' hb => nxt hG hb) (fun _ _ => rfl)
    · intro u W hG hf
      have f6 : u 0 = .agg #[.bool false, .string s] := hf 0 (by decide)
      have e6 := frm_head (ds := [6, 7, 8, 9, 10, 11, 12, 13, 14, 15]) (u := u) (k := 6) (i := 0) (by rw [hN]; decide) rfl f6
      have f7 : u 1 = .agg #[.bool (neg (ML)), .string (mag (ML))] := hf 1 (by decide)
      have e7 := frm_head (ds := [6, 7, 8, 9, 10, 11, 12, 13, 14, 15]) (u := u) (k := 7) (i := 1) (by rw [hN]; decide) rfl f7
      have ef : ∀ f, (frm A [6, 7, 8, 9, 10, 11, 12, 13, 14, 15] u).eval (.func f) = .func (.func f) #[] #[] := fun _ => rfl
      generalize (frm A [6, 7, 8, 9, 10, 11, 12, 13, 14, 15] u).eval = ev at *
      exact k_call _ _ rfl rfl (by simp [go_sem, ef, e6, e7]) (c1.out W) (fun w' hb => nxt hG hb) (fun _ _ => rfl)
    · intro u W hG hf
      have f8 : u 2 = .int .i64 (D1) := hf 2 (by decide)
      have e8 := frm_head (ds := [6, 7, 8, 9, 10, 11, 12, 13, 14, 15]) (u := u) (k := 8) (i := 2) (by rw [hN]; decide) rfl f8
      have ec : ∀ v, (frm A [6, 7, 8, 9, 10, 11, 12, 13, 14, 15] u).eval (.const v) = v := fun _ => rfl
      generalize (frm A [6, 7, 8, 9, 10, 11, 12, 13, 14, 15] u).eval = ev at *
      refine k_val (.bool false) rfl rfl hG ?_ rfl
      simp [go_sem, ec, e8, Int.not_lt.1 h1]
    · intro u W hG hf
      have f9 : u 3 = .bool false := hf 3 (by decide)
      have e9 := frm_head (ds := [6, 7, 8, 9, 10, 11, 12, 13, 14, 15]) (u := u) (k := 9) (i := 3) (by rw [hN]; decide) rfl f9
      generalize (frm A [6, 7, 8, 9, 10, 11, 12, 13, 14, 15] u).eval = ev at *
      refine k_val (.bool false) rfl rfl hG ?_ rfl
      simp [go_sem, e9]
    · intro u W hG hf
      have e1 := frm_base (ds := [6, 7, 8, 9, 10, 11, 12, 13, 14, 15]) (u := u) (k := 1) (by rw [hN]; decide) rfl q1
      have fg : u 4 = .bool false := hf 4 (by decide)
      generalize (frm A [6, 7, 8, 9, 10, 11, 12, 13, 14, 15] u).eval = ev at *
      have hx := X1.later hG
      have y0 := hx.cel 0
      have y1 := hx.cel 1
      simp at y0 y1
      refine k_val (.agg #[.bool false, .string s]) ⟨_, fg, rfl⟩ rfl hG ?_ rfl
      simp [go_sem, e1, y0, y1]
    · intro u W hG hf
      have fg : u 4 = .bool false := hf 4 (by decide)
      have ec : ∀ v, (frm A [6, 7, 8, 9, 10, 11, 12, 13, 14, 15] u).eval (.const v) = v := fun _ => rfl
      have ef : ∀ f, (frm A [6, 7, 8, 9, 10, 11, 12, 13, 14, 15] u).eval (.func f) = .func (.func f) #[] #[] := fun _ => rfl
      generalize (frm A [6, 7, 8, 9, 10, 11, 12, 13, 14, 15] u).eval = ev at *
      exact k_call _ _ ⟨_, fg, rfl⟩ rfl (by simp [go_sem, ec, ef]) (cH.out W) (fun w' hb => nxt hG hb) (fun _ _ => rfl)
    · intro u W hG hf
      have f11 : u 5 = .agg #[.bool false, .string s] := hf 5 (by decide)
      have e11 := frm_head (ds := [6, 7, 8, 9, 10, 11, 12, 13, 14, 15]) (u := u) (k := 11) (i := 5) (by rw [hN]; decide) rfl f11
      have f12 : u 6 = .agg #[.bool (neg (MH)), .string (mag (MH))] := hf 6 (by decide)
      have e12 := frm_head (ds := [6, 7, 8, 9, 10, 11, 12, 13, 14, 15]) (u := u) (k := 12) (i := 6) (by rw [hN]; decide) rfl f12
      have fg : u 4 = .bool false := hf 4 (by decide)
      have ef : ∀ f, (frm A [6, 7, 8, 9, 10, 11, 12, 13, 14, 15] u).eval (.func f) = .func (.func f) #[] #[] := fun _ => rfl
      generalize (frm A [6, 7, 8, 9, 10, 11, 12, 13, 14, 15] u).eval = ev at *
      exact k_call _ _ ⟨_, fg, rfl⟩ rfl (by simp [go_sem, ef, e11, e12]) (c2.out W) (fun w' hb => nxt hG hb) (fun _ _ => rfl)
    · intro u W hG hf
      have f13 : u 7 = .int .i64 (D2) := hf 7 (by decide)
      have e13 := frm_head (ds := [6, 7, 8, 9, 10, 11, 12, 13, 14, 15]) (u := u) (k := 13) (i := 7) (by rw [hN]; decide) rfl f13
      have fg : u 4 = .bool false := hf 4 (by decide)
      have ec : ∀ v, (frm A [6, 7, 8, 9, 10, 11, 12, 13, 14, 15] u).eval (.const v) = v := fun _ => rfl
      generalize (frm A [6, 7, 8, 9, 10, 11, 12, 13, 14, 15] u).eval = ev at *
      refine k_val (.bool false) ⟨_, fg, rfl⟩ rfl hG ?_ rfl
      simp [go_sem, ec, e13, Int.not_lt.1 hD]
    · intro u W hG hf
      have f10 : u 4 = .bool false := hf 4 (by decide)
      have e10 := frm_head (ds := [6, 7, 8, 9, 10, 11, 12, 13, 14, 15]) (u := u) (k := 10) (i := 4) (by rw [hN]; decide) rfl f10
      have f14 : u 8 = .bool false := hf 8 (by decide)
      have e14 := frm_head (ds := [6, 7, 8, 9, 10, 11, 12, 13, 14, 15]) (u := u) (k := 14) (i := 8) (by rw [hN]; decide) rfl f14
      generalize (frm A [6, 7, 8, 9, 10, 11, 12, 13, 14, 15] u).eval = ev at *
      refine k_val (.bool false) rfl rfl hG ?_ rfl
      simp [go_sem, e10, e14]
  case hlate =>
    intro A _
    exact ⟨trivial, trivial, trivial, trivial, trivial, trivial, trivial, trivial, trivial, trivial, trivial⟩
  case htail =>
    intro u w' hG hP hD
    have f15 : u 9 = .bool false := hP 9 (by decide)
    simp only [putAll, Act.put, List.setIfInBounds_toArray, List.set_cons_zero, List.set_cons_succ, List.length_cons, List.length_nil, Nat.reduceAdd, List.drop_succ_cons, List.drop_zero, f15]
    replace hB := nxt hB hG
    replace X1 := X1.later hG
    obtain ⟨p1, p2, _, _⟩ := X1.two
    clear X1 hP hD hG f15
    go_wp2_with fail
    have hB := hB
    go_loop [4, 5] (fun n i => ∃ k : Nat, k ≤ s.size ∧ n = .int .i64 ((pre s k : Nat)) ∧ i = .int .i64 (k : Nat)) (fun _ i => s.size - (intOf i).toNat)
    case atStart => exact ⟨0, Nat.zero_le _, rfl, rfl⟩
    case round =>
      obtain ⟨k, hk, rfl, rfl⟩ := hrel
      by_cases hlt : k < s.size
      · have hst := Lib.hid (pre_step s hlt)
        have hle := pre_le s (k + 1)
        rw [pre_step s hlt] at hle
        have hidx : ∀ W, (Instr.index 9 (.string s) (.int .i64 (k : Nat))).run Tryd.prog W = .ok (.int .u8 ((s.data.toList.getD k 0).toNat : Nat)) W := fun W => by
          rw [run_index_at s Tryd.underlying9 .i64 _ k rfl hlt]
          congr 3
          rw [List.getD, List.getElem?_eq_getElem (by simpa using hlt)]; rfl
        have hd : (s.data.toList.getD k 0).toNat < 256 := UInt8.toNat_lt _
        generalize (s.data.toList.getD k 0).toNat = d at *
        generalize pre s k = p at *
        have w1 : IntKind.i64.wrap (d : Int) = (d : Int) := IntWalk.i64_in _ (by omega)
        have w2 : IntKind.i64.wrap ((p : Int) * 256) = (p : Int) * 256 := IntWalk.i64_in _ (by omega)
        have w3 : IntKind.i64.wrap ((p : Int) * 256 + (d : Int)) = (p : Int) * 256 + (d : Int) := IntWalk.i64_in _ (by omega)
        go_wp2_with fail
        refine ⟨⟨k + 1, hlt, ?_, rfl⟩, ?_⟩
        · rw [hst.out]
          congr 1 <;> omega
        · simp [intOf]; omega
      · obtain rfl : k = s.size := by omega
        rw [pre_all]
        go_wp2_with fail
        exact bodyPost_ret (v := .tuple #[.int .i64 (sval s : Nat), .bool true]) (by simp [results, Tryd.results34, go_sem]) rfl ⟨rfl, hB⟩

set_option maxRecDepth 100000 in
set_option maxHeartbeats 400000 in
theorem rSmall_neg (s : ByteArray) (ML MH D1 D2 : Int) (w : World) (h1 : ¬ D1 < 0) (hD : ¬ 0 < D2) (hv : sval s ≤ 9223372036854775808) (hs : s.size ≤ 16777216)
    (cL : Hid (∀ W, Calls Tryd.prog 49 #[.int .i64 (-9223372036854775808)] W fun e w' => e = .returned (.agg #[.bool (neg (ML)), .string (mag (ML))]) ∧ Below W.heap.size W w'))
    (cH : Hid (∀ W, Calls Tryd.prog 49 #[.int .i64 9223372036854775807] W fun e w' => e = .returned (.agg #[.bool (neg (MH)), .string (mag (MH))]) ∧ Below W.heap.size W w'))
    (c1 : Hid (∀ W, Calls Tryd.prog 20 #[.agg #[.bool true, .string s], .agg #[.bool (neg (ML)), .string (mag (ML))]] W fun e w' => e = .returned (.int .i64 D1) ∧ Below W.heap.size W w'))
    (c2 : Hid (∀ W, Calls Tryd.prog 20 #[.agg #[.bool true, .string s], .agg #[.bool (neg (MH)), .string (mag (MH))]] W fun e w' => e = .returned (.int .i64 D2) ∧ Below W.heap.size W w')) :
    Calls Tryd.prog 34 #[.agg #[.bool true, .string s]] w fun e w' => e = .returned (.tuple #[.int .i64 (-(sval s : Nat)), .bool true]) ∧ Below w.heap.size w w' := by
  go_enter Tryd.func34, Tryd.ntmps34
  go_upto_region 1 with (fail)
  have X1 := Bx.new w 26 #[.bool true, .string s]
  have hB := b1 w (.cells #[.bool true, .string s] 26)
  generalize w.alloc (.cells #[.bool true, .string s] 26) = w0 at *
  have hl0 := X1.lt
  refine wp_region_know [6, 7, 8, 9, 10, 11, 12, 13, 14, 15] (fun W => Below w0.heap.size w0 W) (kAt [eqK (.agg #[.bool true, .string s]), eqK (.agg #[.bool (neg (ML)), .string (mag (ML))]), eqK (.int .i64 (D1)), eqK (.bool false), eqK (.bool false), eqK (.agg #[.bool true, .string s]), eqK (.agg #[.bool (neg (MH)), .string (mag (MH))]), eqK (.int .i64 (D2)), eqK (.bool false), eqK (.bool false)])
    (fun _ => true) (fun _ => false) (by kernel_rfl) (by kernel_rfl) (fun _ _ _ _ _ h => h) (by kernel_rfl) (by kernel_rfl) 42 rfl (by kernel_rfl) (by kernel_rfl) ?hG (fun i v w w' hi => kAt_stab (by exact ⟨stab_eq _, stab_eq _, stab_eq _, stab_eq _, stab_eq _, stab_eq _, stab_eq _, stab_eq _, stab_eq _, stab_eq _, trivial⟩) _ i v w w' hi) (fun _ _ _ _ hf _ => absurd hf Bool.false_ne_true) ?hop ?hlate ?htail
  case hG => exact (Below.refl _ _).drew
  case hop =>
    intro A hA
    have hN : A.tmps.size = 42 := by rw [hA]; rfl
    have q1 : A.tmps.getD 1 undef = .pointer (some ⟨w.heap.size, 0, none⟩) := by rw [hA]; rfl
    clear hA
    refine ⟨?_, ?_, ?_, ?_, ?_, ?_, ?_, ?_, ?_, ?_, trivial⟩
    · intro u W hG hf
      have e1 := frm_base (ds := [6, 7, 8, 9, 10, 11, 12, 13, 14, 15]) (u := u) (k := 1) (by rw [hN]; decide) rfl q1
      generalize (frm A [6, 7, 8, 9, 10, 11, 12, 13, 14, 15] u).eval = ev at *
      have hx := X1.later hG
      have y0 := hx.cel 0
      have y1 := hx.cel 1
      simp at y0 y1
      refine k_val (.agg #[.bool true, .string s]) rfl rfl hG ?_ rfl
      simp [go_sem, e1, y0, y1]
    · intro u W hG hf
      have ec : ∀ v, (frm A [6, 7, 8, 9, 10, 11, 12, 13, 14, 15] u).eval (.const v) = v := fun _ => rfl
      have ef : ∀ f, (frm A [6, 7, 8, 9, 10, 11, 12, 13, 14, 15] u).eval (.func f) = .func (.func f) #[] #[] := fun _ => rfl
      generalize (frm A [6, 7, 8, 9, 10, 11, 12, 13, 14, 15] u).eval = ev at *
      exact k_call _ _ rfl rfl (by simp [go_sem, ec, ef]) (cL.out W) (fun w' hb => nxt hG hb) (fun _ _ => rfl)
    · intro u W hG hf
      have f6 : u 0 = .agg #[.bool true, .string s] := hf 0 (by decide)
      have e6 := frm_head (ds := [6, 7, 8, 9, 10, 11, 12, 13, 14, 15]) (u := u) (k := 6) (i := 0) (by rw [hN]; decide) rfl f6
      have f7 : u 1 = .agg #[.bool (neg (ML)), .string (mag (ML))] := hf 1 (by decide)
      have e7 := frm_head (ds := [6, 7, 8, 9, 10, 11, 12, 13, 14, 15]) (u := u) (k := 7) (i := 1) (by rw [hN]; decide) rfl f7
      have ef : ∀ f, (frm A [6, 7, 8, 9, 10, 11, 12, 13, 14, 15] u).eval (.func f) = .func (.func f) #[] #[] := fun _ => rfl
      generalize (frm A [6, 7, 8, 9, 10, 11, 12, 13, 14, 15] u).eval = ev at *
      exact k_call _ _ rfl rfl (by simp [go_sem, ef, e6, e7]) (c1.out W) (fun w' hb => nxt hG hb) (fun _ _ => rfl)
    · intro u W hG hf
      have f8 : u 2 = .int .i64 (D1) := hf 2 (by decide)
      have e8 := frm_head (ds := [6, 7, 8, 9, 10, 11, 12, 13, 14, 15]) (u := u) (k := 8) (i := 2) (by rw [hN]; decide) rfl f8
      have ec : ∀ v, (frm A [6, 7, 8, 9, 10, 11, 12, 13, 14, 15] u).eval (.const v) = v := fun _ => rfl
      generalize (frm A [6, 7, 8, 9, 10, 11, 12, 13, 14, 15] u).eval = ev at *
      refine k_val (.bool false) rfl rfl hG ?_ rfl
      simp [go_sem, ec, e8, Int.not_lt.1 h1]
    · intro u W hG hf
      have f9 : u 3 = .bool false := hf 3 (by decide)
      have e9 := frm_head (ds := [6, 7, 8, 9, 10, 11, 12, 13, 14, 15]) (u := u) (k := 9) (i := 3) (by rw [hN]; decide) rfl f9
      generalize (frm A [6, 7, 8, 9, 10, 11, 12, 13, 14, 15] u).eval = ev at *
      refine k_val (.bool false) rfl rfl hG ?_ rfl
      simp [go_sem, e9]
    · intro u W hG hf
      have e1 := frm_base (ds := [6, 7, 8, 9, 10, 11, 12, 13, 14, 15]) (u := u) (k := 1) (by rw [hN]; decide) rfl q1
      have fg : u 4 = .bool false := hf 4 (by decide)
      generalize (frm A [6, 7, 8, 9, 10, 11, 12, 13, 14, 15] u).eval = ev at *
      have hx := X1.later hG
      have y0 := hx.cel 0
      have y1 := hx.cel 1
      simp at y0 y1
      refine k_val (.agg #[.bool true, .string s]) ⟨_, fg, rfl⟩ rfl hG ?_ rfl
      simp [go_sem, e1, y0, y1]
    · intro u W hG hf
      have fg : u 4 = .bool false := hf 4 (by decide)
      have ec : ∀ v, (frm A [6, 7, 8, 9, 10, 11, 12, 13, 14, 15] u).eval (.const v) = v := fun _ => rfl
      have ef : ∀ f, (frm A [6, 7, 8, 9, 10, 11, 12, 13, 14, 15] u).eval (.func f) = .func (.func f) #[] #[] := fun _ => rfl
      generalize (frm A [6, 7, 8, 9, 10, 11, 12, 13, 14, 15] u).eval = ev at *
      exact k_call _ _ ⟨_, fg, rfl⟩ rfl (by simp [go_sem, ec, ef]) (cH.out W) (fun w' hb => nxt hG hb) (fun _ _ => rfl)
    · intro u W hG hf
      have f11 : u 5 = .agg #[.bool true, .string s] := hf 5 (by decide)
      have e11 := frm_head (ds := [6, 7, 8, 9, 10, 11, 12, 13, 14, 15]) (u := u) (k := 11) (i := 5) (by rw [hN]; decide) rfl f11
      have f12 : u 6 = .agg #[.bool (neg (MH)), .string (mag (MH))] := hf 6 (by decide)
      have e12 := frm_head (ds := [6, 7, 8, 9, 10, 11, 12, 13, 14, 15]) (u := u) (k := 12) (i := 6) (by rw [hN]; decide) rfl f12
      have fg : u 4 = .bool false := hf 4 (by decide)
      have ef : ∀ f, (frm A [6, 7, 8, 9, 10, 11, 12, 13, 14, 15] u).eval (.func f) = .func (.func f) #[] #[] := fun _ => rfl
      generalize (frm A [6, 7, 8, 9, 10, 11, 12, 13, 14, 15] u).eval = ev at *
      exact k_call _ _ ⟨_, fg, rfl⟩ rfl (by simp [go_sem, ef, e11, e12]) (c2.out W) (fun w' hb => nxt hG hb) (fun _ _ => rfl)
    · intro u W hG hf
      have f13 : u 7 = .int .i64 (D2) := hf 7 (by decide)
      have e13 := frm_head (ds := [6, 7, 8, 9, 10, 11, 12, 13, 14, 15]) (u := u) (k := 13) (i := 7) (by rw [hN]; decide) rfl f13
      have fg : u 4 = .bool false := hf 4 (by decide)
      have ec : ∀ v, (frm A [6, 7, 8, 9, 10, 11, 12, 13, 14, 15] u).eval (.const v) = v := fun _ => rfl
      generalize (frm A [6, 7, 8, 9, 10, 11, 12, 13, 14, 15] u).eval = ev at *
      refine k_val (.bool false) ⟨_, fg, rfl⟩ rfl hG ?_ rfl
      simp [go_sem, ec, e13, Int.not_lt.1 hD]
    · intro u W hG hf
      have f10 : u 4 = .bool false := hf 4 (by decide)
      have e10 := frm_head (ds := [6, 7, 8, 9, 10, 11, 12, 13, 14, 15]) (u := u) (k := 10) (i := 4) (by rw [hN]; decide) rfl f10
      have f14 : u 8 = .bool false := hf 8 (by decide)
      have e14 := frm_head (ds := [6, 7, 8, 9, 10, 11, 12, 13, 14, 15]) (u := u) (k := 14) (i := 8) (by rw [hN]; decide) rfl f14
      generalize (frm A [6, 7, 8, 9, 10, 11, 12, 13, 14, 15] u).eval = ev at *
      refine k_val (.bool false) rfl rfl hG ?_ rfl
      simp [go_sem, e10, e14]
  case hlate =>
    intro A _
    exact ⟨trivial, trivial, trivial, trivial, trivial, trivial, trivial, trivial, trivial, trivial, trivial⟩
  case htail =>
    intro u w' hG hP hD
    have f15 : u 9 = .bool false := hP 9 (by decide)
    simp only [putAll, Act.put, List.setIfInBounds_toArray, List.set_cons_zero, List.set_cons_succ, List.length_cons, List.length_nil, Nat.reduceAdd, List.drop_succ_cons, List.drop_zero, f15]
    replace hB := nxt hB hG
    replace X1 := X1.later hG
    obtain ⟨p1, p2, _, _⟩ := X1.two
    clear X1 hP hD hG f15
    go_wp2_with fail
    have hB := hB
    go_loop [4, 5] (fun n i => ∃ k : Nat, k ≤ s.size ∧ n = .int .i64 (-(pre s k : Nat)) ∧ i = .int .i64 (k : Nat)) (fun _ i => s.size - (intOf i).toNat)
    case atStart => exact ⟨0, Nat.zero_le _, rfl, rfl⟩
    case round =>
      obtain ⟨k, hk, rfl, rfl⟩ := hrel
      by_cases hlt : k < s.size
      · have hst := Lib.hid (pre_step s hlt)
        have hle := pre_le s (k + 1)
        rw [pre_step s hlt] at hle
        have hidx : ∀ W, (Instr.index 9 (.string s) (.int .i64 (k : Nat))).run Tryd.prog W = .ok (.int .u8 ((s.data.toList.getD k 0).toNat : Nat)) W := fun W => by
          rw [run_index_at s Tryd.underlying9 .i64 _ k rfl hlt]
          congr 3
          rw [List.getD, List.getElem?_eq_getElem (by simpa using hlt)]; rfl
        have hd : (s.data.toList.getD k 0).toNat < 256 := UInt8.toNat_lt _
        generalize (s.data.toList.getD k 0).toNat = d at *
        generalize pre s k = p at *
        have w1 : IntKind.i64.wrap (d : Int) = (d : Int) := IntWalk.i64_in _ (by omega)
        have w2 : IntKind.i64.wrap (-(p : Int) * 256) = -(p : Int) * 256 := IntWalk.i64_in _ (by omega)
        have w3 : IntKind.i64.wrap (-(p : Int) * 256 - (d : Int)) = -(p : Int) * 256 - (d : Int) := IntWalk.i64_in _ (by omega)
        go_wp2_with fail
        refine ⟨⟨k + 1, hlt, ?_, rfl⟩, ?_⟩
        · rw [hst.out]
          congr 1 <;> omega
        · simp [intOf]; omega
      · obtain rfl : k = s.size := by omega
        rw [pre_all]
        go_wp2_with fail
        exact bodyPost_ret (v := .tuple #[.int .i64 (-(sval s : Nat)), .bool true]) (by simp [results, Tryd.results34, go_sem]) rfl ⟨rfl, hB⟩

theorem rSmall_any (s : ByteArray) (b : Bool) (w : World) (hs : s.size ≤ 16777216) :
    Calls Tryd.prog 34 #[.agg #[.bool b, .string s]] w fun e w' => e = .returned (smallV (ival b (sval s))) ∧ Below w.heap.size w w' := by
  have cL := Lib.hid (fun W => rWOf_any (-9223372036854775808) W (by decide) (by decide))
  have cH := Lib.hid (fun W => rWOf_any 9223372036854775807 W (by decide) (by decide))
  have zL : (mag (-9223372036854775808)).size ≤ 16777216 := by rw [mag_size]; exact Nat.le_trans (bsz_small (by decide) (by decide)) (by decide)
  have zH : (mag 9223372036854775807).size ≤ 16777216 := by rw [mag_size]; exact Nat.le_trans (bsz_small (by decide) (by decide)) (by decide)
  have c1 := Lib.hid (fun W => rWCmp_any s (mag (-9223372036854775808)) b (neg (-9223372036854775808)) W hs zL)
  have c2 := Lib.hid (fun W => rWCmp_any s (mag 9223372036854775807) b (neg 9223372036854775807) W hs zH)
  rw [ival_mk] at c1 c2
  have hv := ival_natAbs b (sval s)
  by_cases h1 : sgn (ival b (sval s) - -9223372036854775808) < 0
  · have e : smallV (ival b (sval s)) = .tuple #[.int .i64 0, .bool false] := by
      have := sgn_lt.1 h1
      unfold smallV; rw [if_neg (by omega)]
    rw [e]
    exact rSmall_low s b _ _ _ _ w h1 cL cH c1 c2
  by_cases h2 : 0 < sgn (ival b (sval s) - 9223372036854775807)
  · have e : smallV (ival b (sval s)) = .tuple #[.int .i64 0, .bool false] := by
      have := sgn_gt.1 h2
      unfold smallV; rw [if_neg (by omega)]
    rw [e]
    exact rSmall_high s b _ _ _ _ w h1 h2 cL cH c1 c2
  have h3 : -9223372036854775808 ≤ ival b (sval s) := by
    apply Int.not_lt.1
    intro h; exact h1 (sgn_lt.2 (by omega))
  have h4 : ival b (sval s) ≤ 9223372036854775807 := by
    apply Int.not_lt.1
    intro h; exact h2 (sgn_gt.2 (by omega))
  have e : smallV (ival b (sval s)) = .tuple #[.int .i64 (ival b (sval s)), .bool true] := by
    unfold smallV; rw [if_pos ⟨h3, h4⟩]
  rw [e]
  cases b
  · exact rSmall_pos s _ _ _ _ w h1 h2 (by have h5 : (sval s : Int) ≤ 9223372036854775807 := h4; omega) hs cL cH c1 c2
  · exact rSmall_neg s _ _ _ _ w h1 h2 (by have h5 : -9223372036854775808 ≤ -(sval s : Int) := h3; omega) hs cL cH c1 c2

end Go.Proofs.YtmnmfidcldmhdaaDoor
