/- The walks and plain laws beneath the statements. -/
import Derived.Test.YtibbhpgpleeglaaGreatDoorPA21
import Derived.Test.YtibbhpgpleeglaaGreatDoorPA15
import Derived.Test.YtibbhpgpleeglaaGreatDoorPA1
namespace Go.Proofs.YtibbhpgpleeglaaGreatDoor
open Go.RowKit

set_option maxRecDepth 100000 in
set_option maxHeartbeats 1000000 in
theorem rShift_down (s : ByteArray) (b0 : Bool) (m : Nat) (Q R : Int) (w : World) (hs : s.size ≤ 8388608) (h0 : 0 < m) (hm : m ≤ nd 1 (sval s) + 1)
    (cD : Hid (∀ W, Calls Tryz.prog 68 #[.agg #[.bool b0, .string s], .agg #[.bool false, .string (nstr (2 ^ m))]] W fun e w' => e = .returned (.tuple #[.agg #[.bool (neg (Q)), .string (mag (Q))], .agg #[.bool (neg (R)), .string (mag (R))], .bool true]) ∧ Below W.heap.size W w')) :
    Calls Tryz.prog 62 #[.agg #[.bool b0, .string s], .int .i64 (-(m : Int))] w fun e w' => e = .returned (.agg #[.bool (neg (Q)), .string (mag (Q))]) ∧ Below w.heap.size w w' := by
  have hnd := nd1_size s
  have cB := Lib.hid (fun W => rBits_any s W (by omega))
  have cS := Lib.hid (fun W => rShl_any ⟨#[1]⟩ (m : Int) W (by decide) (by omega))
  rw [show sval ⟨#[1]⟩ * 2 ^ (m : Int).toNat = 2 ^ m by rw [Int.toNat_natCast, show sval ⟨#[1]⟩ = 1 from rfl, Nat.one_mul]] at cS
  have hw1 : IntKind.i64.wrap (m : Int) = (m : Int) := IntWalk.i64_in _ (by omega)
  go_enter Tryz.func62, Tryz.ntmps62
  go_wp2_with fail
  have X1 := (Bx.new w 27 #[.bool b0, .string s]).alloc (.cells #[.bool false, .string ⟨#[]⟩] 27)
  have X2 := Bx.at1 w (.cells #[.bool b0, .string s] 27) 27 #[.bool false, .string ⟨#[]⟩]
  have hB := b2 w (.cells #[.bool b0, .string s] 27) (.cells #[.bool false, .string ⟨#[]⟩] 27)
  generalize (w.alloc (.cells #[.bool b0, .string s] 27)).alloc (.cells #[.bool false, .string ⟨#[]⟩] 27) = w0 at *
  have hl0 := X1.lt
  have hl1 := X2.lt
  refine (cB.out _).mono ?_
  rintro e w1 ⟨A, c, rfl, hnc, hr, hb⟩
  replace X1 := X1.later hb
  replace X2 := X2.later hb
  replace hB := nxt hB hb
  clear hb hr
  obtain ⟨p1, p2, _, _⟩ := X1.two
  obtain ⟨q1, q2, q3, q4⟩ := X2.two
  go_upto_region 7 with (fail)
  have p2x := X2.lt
  refine wp_region_know [33, 34, 35, 36, 37, 38, 32, 39, 40, 41, 7, 8] (fun W => Below w1.heap.size w1 W) (kAt [eqK (.agg #[.bool b0, .string s]), eqK (.int .i64 (-(m : Int))), eqK (.int .i64 ((m : Int))), eqK (.string (nstr (2 ^ m))), eqK (.agg #[.bool false, .string (nstr (2 ^ m))]), eqK (.tuple #[.agg #[.bool (neg (Q)), .string (mag (Q))], .agg #[.bool (neg (R)), .string (mag (R))], .bool true]), eqK (.tuple #[.agg #[.bool (neg (Q)), .string (mag (Q))], .agg #[.bool (neg (R)), .string (mag (R))], .bool true]), eqK (.agg #[.bool (neg (Q)), .string (mag (Q))]), eqK (.agg #[.bool (neg (R)), .string (mag (R))]), eqK (.bool true), ptrK w1.heap.size 27 #[.bool false, .string ⟨#[]⟩], ptrK w1.heap.size 27 #[.bool false, .string ⟨#[]⟩]])
    (fun i => !(i == 8 || i == 9)) (fun i => i == 10 || i == 11) (by kernel_rfl) (by kernel_rfl) (fun _ _ _ _ _ h => h) (by kernel_rfl) (by kernel_rfl) 43 rfl (by kernel_rfl) (by kernel_rfl) ?hG (fun i v w w' hi => kAt_stab (by exact ⟨stab_eq _, stab_eq _, stab_eq _, stab_eq _, stab_eq _, stab_eq _, stab_eq _, stab_eq _, stab_eq _, stab_eq _, stab_ptr _ _ _, stab_ptr _ _ _, trivial⟩) _ i v w w' hi) (fun i v w hi hf h => kAt_fresh (k := 0) (fr := fun i => i == 10 || i == 11) (by exact ⟨fun h => absurd h (by decide), fun h => absurd h (by decide), fun h => absurd h (by decide), fun h => absurd h (by decide), fun h => absurd h (by decide), fun h => absurd h (by decide), fun h => absurd h (by decide), fun h => absurd h (by decide), fun h => absurd h (by decide), fun h => absurd h (by decide), fun _ => fresh_ptr, fun _ => fresh_ptr, trivial⟩) i v w hi (by rw [Nat.zero_add]; exact hf) h) ?hop ?hlate ?htail
  case hG => exact (Below.refl _ _).drew
  case hop =>
    intro A hA
    have hN : A.tmps.size = 43 := by rw [hA]; rfl
    have q2 : A.tmps.getD 2 undef = .pointer (some ⟨w.heap.size, 0, none⟩) := by rw [hA]; rfl
    have q1 : A.tmps.getD 1 undef = .int .i64 (-(m : Int)) := by rw [hA]; rfl
    clear hA
    refine ⟨?_, ?_, ?_, ?_, ?_, ?_, ?_, ?_, ?_, ?_, ?_, ?_, trivial⟩
    · intro u W hG hf
      have e2 := frm_base (ds := [33, 34, 35, 36, 37, 38, 32, 39, 40, 41, 7, 8]) (u := u) (k := 2) (by rw [hN]; decide) rfl q2
      generalize (frm A [33, 34, 35, 36, 37, 38, 32, 39, 40, 41, 7, 8] u).eval = ev at *
      have hx := X1.later hG
      have y0 := hx.cel 0
      have y1 := hx.cel 1
      simp at y0 y1
      refine k_val (.agg #[.bool b0, .string s]) rfl rfl hG ?_ rfl
      simp [go_sem, e2, y0, y1]
    · intro u W hG hf
      have e1 := frm_base (ds := [33, 34, 35, 36, 37, 38, 32, 39, 40, 41, 7, 8]) (u := u) (k := 1) (by rw [hN]; decide) rfl q1
      generalize (frm A [33, 34, 35, 36, 37, 38, 32, 39, 40, 41, 7, 8] u).eval = ev at *
      refine k_val (.int .i64 (-(m : Int))) rfl rfl hG ?_ rfl
      simp [go_sem, e1]
    · intro u W hG hf
      have f34 : u 1 = .int .i64 (-(m : Int)) := hf 1 (by decide)
      have e34 := frm_head (ds := [33, 34, 35, 36, 37, 38, 32, 39, 40, 41, 7, 8]) (u := u) (k := 34) (i := 1) (by rw [hN]; decide) rfl f34
      generalize (frm A [33, 34, 35, 36, 37, 38, 32, 39, 40, 41, 7, 8] u).eval = ev at *
      refine k_val (.int .i64 ((m : Int))) rfl rfl hG ?_ rfl
      simp [go_sem, e34, hw1]
    · intro u W hG hf
      have f35 : u 2 = .int .i64 ((m : Int)) := hf 2 (by decide)
      have e35 := frm_head (ds := [33, 34, 35, 36, 37, 38, 32, 39, 40, 41, 7, 8]) (u := u) (k := 35) (i := 2) (by rw [hN]; decide) rfl f35
      have ec : ∀ v, (frm A [33, 34, 35, 36, 37, 38, 32, 39, 40, 41, 7, 8] u).eval (.const v) = v := fun _ => rfl
      have ef : ∀ f, (frm A [33, 34, 35, 36, 37, 38, 32, 39, 40, 41, 7, 8] u).eval (.func f) = .func (.func f) #[] #[] := fun _ => rfl
      generalize (frm A [33, 34, 35, 36, 37, 38, 32, 39, 40, 41, 7, 8] u).eval = ev at *
      exact k_call _ _ rfl rfl (by simp [go_sem, ec, ef, e35]) (cS.out W) (fun w' hb => nxt hG hb) (fun _ _ => rfl)
    · intro u W hG hf
      have f36 : u 3 = .string (nstr (2 ^ m)) := hf 3 (by decide)
      have e36 := frm_head (ds := [33, 34, 35, 36, 37, 38, 32, 39, 40, 41, 7, 8]) (u := u) (k := 36) (i := 3) (by rw [hN]; decide) rfl f36
      generalize (frm A [33, 34, 35, 36, 37, 38, 32, 39, 40, 41, 7, 8] u).eval = ev at *
      refine k_val (.agg #[.bool false, .string (nstr (2 ^ m))]) rfl rfl hG ?_ rfl
      simp [go_sem, e36]
    · intro u W hG hf
      have f33 : u 0 = .agg #[.bool b0, .string s] := hf 0 (by decide)
      have e33 := frm_head (ds := [33, 34, 35, 36, 37, 38, 32, 39, 40, 41, 7, 8]) (u := u) (k := 33) (i := 0) (by rw [hN]; decide) rfl f33
      have f37 : u 4 = .agg #[.bool false, .string (nstr (2 ^ m))] := hf 4 (by decide)
      have e37 := frm_head (ds := [33, 34, 35, 36, 37, 38, 32, 39, 40, 41, 7, 8]) (u := u) (k := 37) (i := 4) (by rw [hN]; decide) rfl f37
      have ef : ∀ f, (frm A [33, 34, 35, 36, 37, 38, 32, 39, 40, 41, 7, 8] u).eval (.func f) = .func (.func f) #[] #[] := fun _ => rfl
      generalize (frm A [33, 34, 35, 36, 37, 38, 32, 39, 40, 41, 7, 8] u).eval = ev at *
      exact k_call _ _ rfl rfl (by simp [go_sem, ef, e33, e37]) (cD.out W) (fun w' hb => nxt hG hb) (fun _ _ => rfl)
    · intro u W hG hf
      have f38 : u 5 = .tuple #[.agg #[.bool (neg (Q)), .string (mag (Q))], .agg #[.bool (neg (R)), .string (mag (R))], .bool true] := hf 5 (by decide)
      have e38 := frm_head (ds := [33, 34, 35, 36, 37, 38, 32, 39, 40, 41, 7, 8]) (u := u) (k := 38) (i := 5) (by rw [hN]; decide) rfl f38
      generalize (frm A [33, 34, 35, 36, 37, 38, 32, 39, 40, 41, 7, 8] u).eval = ev at *
      refine k_val (.tuple #[.agg #[.bool (neg (Q)), .string (mag (Q))], .agg #[.bool (neg (R)), .string (mag (R))], .bool true]) rfl rfl hG ?_ rfl
      simp [go_sem, e38]
    · intro u W hG hf
      have f32 : u 6 = .tuple #[.agg #[.bool (neg (Q)), .string (mag (Q))], .agg #[.bool (neg (R)), .string (mag (R))], .bool true] := hf 6 (by decide)
      have e32 := frm_head (ds := [33, 34, 35, 36, 37, 38, 32, 39, 40, 41, 7, 8]) (u := u) (k := 32) (i := 6) (by rw [hN]; decide) rfl f32
      generalize (frm A [33, 34, 35, 36, 37, 38, 32, 39, 40, 41, 7, 8] u).eval = ev at *
      refine k_val (.agg #[.bool (neg (Q)), .string (mag (Q))]) rfl rfl hG ?_ rfl
      simp [go_sem, e32]
    · intro u W hG hf
      have f32 : u 6 = .tuple #[.agg #[.bool (neg (Q)), .string (mag (Q))], .agg #[.bool (neg (R)), .string (mag (R))], .bool true] := hf 6 (by decide)
      have e32 := frm_head (ds := [33, 34, 35, 36, 37, 38, 32, 39, 40, 41, 7, 8]) (u := u) (k := 32) (i := 6) (by rw [hN]; decide) rfl f32
      generalize (frm A [33, 34, 35, 36, 37, 38, 32, 39, 40, 41, 7, 8] u).eval = ev at *
      refine k_val (.agg #[.bool (neg (R)), .string (mag (R))]) rfl rfl hG ?_ rfl
      simp [go_sem, e32]
    · intro u W hG hf
      have f32 : u 6 = .tuple #[.agg #[.bool (neg (Q)), .string (mag (Q))], .agg #[.bool (neg (R)), .string (mag (R))], .bool true] := hf 6 (by decide)
      have e32 := frm_head (ds := [33, 34, 35, 36, 37, 38, 32, 39, 40, 41, 7, 8]) (u := u) (k := 32) (i := 6) (by rw [hN]; decide) rfl f32
      generalize (frm A [33, 34, 35, 36, 37, 38, 32, 39, 40, 41, 7, 8] u).eval = ev at *
      refine k_val (.bool true) rfl rfl hG ?_ rfl
      simp [go_sem, e32]
    · intro u W hG hf
      generalize (frm A [33, 34, 35, 36, 37, 38, 32, 39, 40, 41, 7, 8] u).eval = ev at *
      refine k_new (.pointer (some ⟨W.heap.size, 0, none⟩)) (.cells #[.bool false, .string ⟨#[]⟩] 27) rfl ?_ (nxtA hG _) ⟨_, rfl, below_le hG, Bx.new _ _ _⟩ rfl
      simp [go_sem]
    · intro u W hG hf
      generalize (frm A [33, 34, 35, 36, 37, 38, 32, 39, 40, 41, 7, 8] u).eval = ev at *
      refine k_new (.pointer (some ⟨W.heap.size, 0, none⟩)) (.cells #[.bool false, .string ⟨#[]⟩] 27) rfl ?_ (nxtA hG _) ⟨_, rfl, below_le hG, Bx.new _ _ _⟩ rfl
      simp [go_sem]
  case hlate =>
    intro A hA
    have hN : A.tmps.size = 43 := by rw [hA]; rfl
    clear hA
    refine ⟨trivial, trivial, trivial, trivial, trivial, trivial, trivial, trivial, ⟨rfl, ?_⟩, ⟨rfl, ?_⟩, trivial, trivial, trivial⟩
    · intro u W hf
      have f32 : u 6 = .tuple #[.agg #[.bool (neg (Q)), .string (mag (Q))], .agg #[.bool (neg (R)), .string (mag (R))], .bool true] := hf 6 (by decide)
      have e32 := frm_head (a := A) (ds := [33, 34, 35, 36, 37, 38, 32, 39, 40, 41, 7, 8]) (u := u) (k := 32) (i := 6) (by rw [hN]; decide) rfl f32
      generalize (frm A [33, 34, 35, 36, 37, 38, 32, 39, 40, 41, 7, 8] u).eval = ev at *
      refine ⟨.agg #[.bool (neg (R)), .string (mag (R))], rfl, fun w => ?_, rfl⟩
      simp [go_sem, e32]
    · intro u W hf
      have f32 : u 6 = .tuple #[.agg #[.bool (neg (Q)), .string (mag (Q))], .agg #[.bool (neg (R)), .string (mag (R))], .bool true] := hf 6 (by decide)
      have e32 := frm_head (a := A) (ds := [33, 34, 35, 36, 37, 38, 32, 39, 40, 41, 7, 8]) (u := u) (k := 32) (i := 6) (by rw [hN]; decide) rfl f32
      generalize (frm A [33, 34, 35, 36, 37, 38, 32, 39, 40, 41, 7, 8] u).eval = ev at *
      refine ⟨.bool true, rfl, fun w => ?_, rfl⟩
      simp [go_sem, e32]
  case htail =>
    intro u w' hG hP hD
    have f39 : u 7 = .agg #[.bool (neg (Q)), .string (mag (Q))] := hP 7 (by decide)
    have f40 : u 8 = .agg #[.bool (neg (R)), .string (mag (R))] := hP 8 (by decide)
    have f41 : u 9 = .bool true := hP 9 (by decide)
    obtain ⟨g7, f7, hb7, hx7⟩ : ptrK w1.heap.size 27 #[.bool false, .string ⟨#[]⟩] (u 10) w' := hP 10 (by decide)
    obtain ⟨g8, f8, hb8, hx8⟩ : ptrK w1.heap.size 27 #[.bool false, .string ⟨#[]⟩] (u 11) w' := hP 11 (by decide)
    have hne : g7 ≠ g8 := fun e => hD 10 11 (by decide) (by decide) rfl rfl (by decide) (by rw [f7, f8, e])
    simp only [putAll, Act.put, List.setIfInBounds_toArray, List.set_cons_zero, List.set_cons_succ, List.length_cons, List.length_nil, Nat.reduceAdd, List.drop_succ_cons, List.drop_zero, f39, f40, f41, f7, f8]
    clear f39 f40 f41 f7 f8
    replace X1 := X1.later hG
    replace X2 := X2.later hG
    clear p1 p2 q1 q2 q3 q4 hP hD
    obtain ⟨q1, q2, q3, q4⟩ := X2.two
    obtain ⟨r1, r2, r3, r4⟩ := hx7.two
    obtain ⟨t1, t2, t3, t4⟩ := hx8.two
    generalize u 0 = u0
    generalize u 1 = u1
    generalize u 2 = u2
    generalize u 3 = u3
    generalize u 4 = u4
    generalize u 5 = u5
    generalize u 6 = u6
    clear u
    have hz1 := hB.size
    have n1 : w.heap.size + 1 ≠ g7 := by have := X2.lt; have := hl1; have := p2x; omega
    have n2 : w.heap.size + 1 ≠ g8 := by have := p2x; omega
    replace hB := nxt hB hG
    have Y8 := Bx.far2 (i := 0) (j := 1) hx8 (Ne.symm hne) (.bool (neg Q)) (.string (mag Q))
    have Y7 := hx7.set2 (.bool (neg Q)) (.string (mag Q))
    have Y2 := Bx.far2 (i := 0) (j := 1) X2 n1 (.bool (neg Q)) (.string (mag Q))
    have hB2 := st2 hB (Nat.le_trans hz1 hb7) (.bool (neg Q)) (.string (mag Q))
    have Z7 := Bx.far2 (i := 0) (j := 1) Y7 hne (.bool (neg R)) (.string (mag R))
    have Z2 := Bx.far2 (i := 0) (j := 1) Y2 n2 (.bool (neg R)) (.string (mag R))
    have hB3 := Lib.hid (st2 hB2 (Nat.le_trans hz1 hb8) (.bool (neg R)) (.string (mag R)))
    have HZ := Lib.hid Z2
    clear q1 q2 q3 q4 t1 t2 t3 t4
    obtain ⟨t1, t2, t3, t4⟩ := Y8.two
    obtain ⟨v1, v2, v3, v4⟩ := Z7.two
    obtain ⟨q1, q2, q3, q4⟩ := Z2.two
    clear hB hB2 X1 X2 hx7 hx8 Y8 Y7 Y2 Z7 Z2 hz1 n1 n2 hne hb7 hb8 hG
    go_wp2_with fail
    exact bodyPost_ret (v := .agg #[.bool (neg (Q)), .string (mag (Q))]) (by simp [results, Tryz.results62, go_sem, (HZ.out.set2 _ _).cel]) rfl ⟨rfl, st2 hB3.out (Nat.le_add_right _ 1) _ _⟩

set_option maxRecDepth 100000 in
set_option maxHeartbeats 1000000 in
theorem rShift_far (s : ByteArray) (b0 : Bool) (m : Nat) (Q R : Int) (w : World) (hs : s.size ≤ 8388608) (n : Int) (hn : n < -(m : Int)) (hm : m = nd 1 (sval s) + 1)
    (cD : Hid (∀ W, Calls Tryz.prog 68 #[.agg #[.bool b0, .string s], .agg #[.bool false, .string (nstr (2 ^ m))]] W fun e w' => e = .returned (.tuple #[.agg #[.bool (neg (Q)), .string (mag (Q))], .agg #[.bool (neg (R)), .string (mag (R))], .bool true]) ∧ Below W.heap.size W w')) :
    Calls Tryz.prog 62 #[.agg #[.bool b0, .string s], .int .i64 (n)] w fun e w' => e = .returned (.agg #[.bool (neg (Q)), .string (mag (Q))]) ∧ Below w.heap.size w w' := by
  have hnd := nd1_size s
  have cB := Lib.hid (fun W => rBits_any s W (by omega))
  have cS := Lib.hid (fun W => rShl_any ⟨#[1]⟩ (m : Int) W (by decide) (by omega))
  rw [show sval ⟨#[1]⟩ * 2 ^ (m : Int).toNat = 2 ^ m by rw [Int.toNat_natCast, show sval ⟨#[1]⟩ = 1 from rfl, Nat.one_mul]] at cS
  have hw1 : IntKind.i64.wrap (m : Int) = (m : Int) := IntWalk.i64_in _ (by omega)
  have hw2 : IntKind.i64.wrap (((nd 1 (sval s) : Nat) : Int) + 1) = (m : Int) := by rw [IntWalk.i64_in _ (by omega)]; omega
  go_enter Tryz.func62, Tryz.ntmps62
  go_wp2_with fail
  have X1 := (Bx.new w 27 #[.bool b0, .string s]).alloc (.cells #[.bool false, .string ⟨#[]⟩] 27)
  have X2 := Bx.at1 w (.cells #[.bool b0, .string s] 27) 27 #[.bool false, .string ⟨#[]⟩]
  have hB := b2 w (.cells #[.bool b0, .string s] 27) (.cells #[.bool false, .string ⟨#[]⟩] 27)
  generalize (w.alloc (.cells #[.bool b0, .string s] 27)).alloc (.cells #[.bool false, .string ⟨#[]⟩] 27) = w0 at *
  have hl0 := X1.lt
  have hl1 := X2.lt
  refine (cB.out _).mono ?_
  rintro e w1 ⟨A, c, rfl, hnc, hr, hb⟩
  replace X1 := X1.later hb
  replace X2 := X2.later hb
  replace hB := nxt hB hb
  clear hb hr
  obtain ⟨p1, p2, _, _⟩ := X1.two
  obtain ⟨q1, q2, q3, q4⟩ := X2.two
  go_upto_region 7 with (fail)
  have p2x := X2.lt
  refine wp_region_know [33, 34, 35, 36, 37, 38, 32, 39, 40, 41, 7, 8] (fun W => Below w1.heap.size w1 W) (kAt [eqK (.agg #[.bool b0, .string s]), eqK (.int .i64 (-(((nd 1 (sval s) : Nat) : Int) + 1))), eqK (.int .i64 ((m : Int))), eqK (.string (nstr (2 ^ m))), eqK (.agg #[.bool false, .string (nstr (2 ^ m))]), eqK (.tuple #[.agg #[.bool (neg (Q)), .string (mag (Q))], .agg #[.bool (neg (R)), .string (mag (R))], .bool true]), eqK (.tuple #[.agg #[.bool (neg (Q)), .string (mag (Q))], .agg #[.bool (neg (R)), .string (mag (R))], .bool true]), eqK (.agg #[.bool (neg (Q)), .string (mag (Q))]), eqK (.agg #[.bool (neg (R)), .string (mag (R))]), eqK (.bool true), ptrK w1.heap.size 27 #[.bool false, .string ⟨#[]⟩], ptrK w1.heap.size 27 #[.bool false, .string ⟨#[]⟩]])
    (fun i => !(i == 8 || i == 9)) (fun i => i == 10 || i == 11) (by kernel_rfl) (by kernel_rfl) (fun _ _ _ _ _ h => h) (by kernel_rfl) (by kernel_rfl) 43 rfl (by kernel_rfl) (by kernel_rfl) ?hG (fun i v w w' hi => kAt_stab (by exact ⟨stab_eq _, stab_eq _, stab_eq _, stab_eq _, stab_eq _, stab_eq _, stab_eq _, stab_eq _, stab_eq _, stab_eq _, stab_ptr _ _ _, stab_ptr _ _ _, trivial⟩) _ i v w w' hi) (fun i v w hi hf h => kAt_fresh (k := 0) (fr := fun i => i == 10 || i == 11) (by exact ⟨fun h => absurd h (by decide), fun h => absurd h (by decide), fun h => absurd h (by decide), fun h => absurd h (by decide), fun h => absurd h (by decide), fun h => absurd h (by decide), fun h => absurd h (by decide), fun h => absurd h (by decide), fun h => absurd h (by decide), fun h => absurd h (by decide), fun _ => fresh_ptr, fun _ => fresh_ptr, trivial⟩) i v w hi (by rw [Nat.zero_add]; exact hf) h) ?hop ?hlate ?htail
  case hG => exact (Below.refl _ _).drew
  case hop =>
    intro A hA
    have hN : A.tmps.size = 43 := by rw [hA]; rfl
    have q2 : A.tmps.getD 2 undef = .pointer (some ⟨w.heap.size, 0, none⟩) := by rw [hA]; rfl
    have q1 : A.tmps.getD 1 undef = .int .i64 (-(((nd 1 (sval s) : Nat) : Int) + 1)) := by rw [hA]; rfl
    clear hA
    refine ⟨?_, ?_, ?_, ?_, ?_, ?_, ?_, ?_, ?_, ?_, ?_, ?_, trivial⟩
    · intro u W hG hf
      have e2 := frm_base (ds := [33, 34, 35, 36, 37, 38, 32, 39, 40, 41, 7, 8]) (u := u) (k := 2) (by rw [hN]; decide) rfl q2
      generalize (frm A [33, 34, 35, 36, 37, 38, 32, 39, 40, 41, 7, 8] u).eval = ev at *
      have hx := X1.later hG
      have y0 := hx.cel 0
      have y1 := hx.cel 1
      simp at y0 y1
      refine k_val (.agg #[.bool b0, .string s]) rfl rfl hG ?_ rfl
      simp [go_sem, e2, y0, y1]
    · intro u W hG hf
      have e1 := frm_base (ds := [33, 34, 35, 36, 37, 38, 32, 39, 40, 41, 7, 8]) (u := u) (k := 1) (by rw [hN]; decide) rfl q1
      generalize (frm A [33, 34, 35, 36, 37, 38, 32, 39, 40, 41, 7, 8] u).eval = ev at *
      refine k_val (.int .i64 (-(((nd 1 (sval s) : Nat) : Int) + 1))) rfl rfl hG ?_ rfl
      simp [go_sem, e1]
    · intro u W hG hf
      have f34 : u 1 = .int .i64 (-(((nd 1 (sval s) : Nat) : Int) + 1)) := hf 1 (by decide)
      have e34 := frm_head (ds := [33, 34, 35, 36, 37, 38, 32, 39, 40, 41, 7, 8]) (u := u) (k := 34) (i := 1) (by rw [hN]; decide) rfl f34
      generalize (frm A [33, 34, 35, 36, 37, 38, 32, 39, 40, 41, 7, 8] u).eval = ev at *
      refine k_val (.int .i64 ((m : Int))) rfl rfl hG ?_ rfl
      simp [go_sem, e34, hw2]
    · intro u W hG hf
      have f35 : u 2 = .int .i64 ((m : Int)) := hf 2 (by decide)
      have e35 := frm_head (ds := [33, 34, 35, 36, 37, 38, 32, 39, 40, 41, 7, 8]) (u := u) (k := 35) (i := 2) (by rw [hN]; decide) rfl f35
      have ec : ∀ v, (frm A [33, 34, 35, 36, 37, 38, 32, 39, 40, 41, 7, 8] u).eval (.const v) = v := fun _ => rfl
      have ef : ∀ f, (frm A [33, 34, 35, 36, 37, 38, 32, 39, 40, 41, 7, 8] u).eval (.func f) = .func (.func f) #[] #[] := fun _ => rfl
      generalize (frm A [33, 34, 35, 36, 37, 38, 32, 39, 40, 41, 7, 8] u).eval = ev at *
      exact k_call _ _ rfl rfl (by simp [go_sem, ec, ef, e35]) (cS.out W) (fun w' hb => nxt hG hb) (fun _ _ => rfl)
    · intro u W hG hf
      have f36 : u 3 = .string (nstr (2 ^ m)) := hf 3 (by decide)
      have e36 := frm_head (ds := [33, 34, 35, 36, 37, 38, 32, 39, 40, 41, 7, 8]) (u := u) (k := 36) (i := 3) (by rw [hN]; decide) rfl f36
      generalize (frm A [33, 34, 35, 36, 37, 38, 32, 39, 40, 41, 7, 8] u).eval = ev at *
      refine k_val (.agg #[.bool false, .string (nstr (2 ^ m))]) rfl rfl hG ?_ rfl
      simp [go_sem, e36]
    · intro u W hG hf
      have f33 : u 0 = .agg #[.bool b0, .string s] := hf 0 (by decide)
      have e33 := frm_head (ds := [33, 34, 35, 36, 37, 38, 32, 39, 40, 41, 7, 8]) (u := u) (k := 33) (i := 0) (by rw [hN]; decide) rfl f33
      have f37 : u 4 = .agg #[.bool false, .string (nstr (2 ^ m))] := hf 4 (by decide)
      have e37 := frm_head (ds := [33, 34, 35, 36, 37, 38, 32, 39, 40, 41, 7, 8]) (u := u) (k := 37) (i := 4) (by rw [hN]; decide) rfl f37
      have ef : ∀ f, (frm A [33, 34, 35, 36, 37, 38, 32, 39, 40, 41, 7, 8] u).eval (.func f) = .func (.func f) #[] #[] := fun _ => rfl
      generalize (frm A [33, 34, 35, 36, 37, 38, 32, 39, 40, 41, 7, 8] u).eval = ev at *
      exact k_call _ _ rfl rfl (by simp [go_sem, ef, e33, e37]) (cD.out W) (fun w' hb => nxt hG hb) (fun _ _ => rfl)
    · intro u W hG hf
      have f38 : u 5 = .tuple #[.agg #[.bool (neg (Q)), .string (mag (Q))], .agg #[.bool (neg (R)), .string (mag (R))], .bool true] := hf 5 (by decide)
      have e38 := frm_head (ds := [33, 34, 35, 36, 37, 38, 32, 39, 40, 41, 7, 8]) (u := u) (k := 38) (i := 5) (by rw [hN]; decide) rfl f38
      generalize (frm A [33, 34, 35, 36, 37, 38, 32, 39, 40, 41, 7, 8] u).eval = ev at *
      refine k_val (.tuple #[.agg #[.bool (neg (Q)), .string (mag (Q))], .agg #[.bool (neg (R)), .string (mag (R))], .bool true]) rfl rfl hG ?_ rfl
      simp [go_sem, e38]
    · intro u W hG hf
      have f32 : u 6 = .tuple #[.agg #[.bool (neg (Q)), .string (mag (Q))], .agg #[.bool (neg (R)), .string (mag (R))], .bool true] := hf 6 (by decide)
      have e32 := frm_head (ds := [33, 34, 35, 36, 37, 38, 32, 39, 40, 41, 7, 8]) (u := u) (k := 32) (i := 6) (by rw [hN]; decide) rfl f32
      generalize (frm A [33, 34, 35, 36, 37, 38, 32, 39, 40, 41, 7, 8] u).eval = ev at *
      refine k_val (.agg #[.bool (neg (Q)), .string (mag (Q))]) rfl rfl hG ?_ rfl
      simp [go_sem, e32]
    · intro u W hG hf
      have f32 : u 6 = .tuple #[.agg #[.bool (neg (Q)), .string (mag (Q))], .agg #[.bool (neg (R)), .string (mag (R))], .bool true] := hf 6 (by decide)
      have e32 := frm_head (ds := [33, 34, 35, 36, 37, 38, 32, 39, 40, 41, 7, 8]) (u := u) (k := 32) (i := 6) (by rw [hN]; decide) rfl f32
      generalize (frm A [33, 34, 35, 36, 37, 38, 32, 39, 40, 41, 7, 8] u).eval = ev at *
      refine k_val (.agg #[.bool (neg (R)), .string (mag (R))]) rfl rfl hG ?_ rfl
      simp [go_sem, e32]
    · intro u W hG hf
      have f32 : u 6 = .tuple #[.agg #[.bool (neg (Q)), .string (mag (Q))], .agg #[.bool (neg (R)), .string (mag (R))], .bool true] := hf 6 (by decide)
      have e32 := frm_head (ds := [33, 34, 35, 36, 37, 38, 32, 39, 40, 41, 7, 8]) (u := u) (k := 32) (i := 6) (by rw [hN]; decide) rfl f32
      generalize (frm A [33, 34, 35, 36, 37, 38, 32, 39, 40, 41, 7, 8] u).eval = ev at *
      refine k_val (.bool true) rfl rfl hG ?_ rfl
      simp [go_sem, e32]
    · intro u W hG hf
      generalize (frm A [33, 34, 35, 36, 37, 38, 32, 39, 40, 41, 7, 8] u).eval = ev at *
      refine k_new (.pointer (some ⟨W.heap.size, 0, none⟩)) (.cells #[.bool false, .string ⟨#[]⟩] 27) rfl ?_ (nxtA hG _) ⟨_, rfl, below_le hG, Bx.new _ _ _⟩ rfl
      simp [go_sem]
    · intro u W hG hf
      generalize (frm A [33, 34, 35, 36, 37, 38, 32, 39, 40, 41, 7, 8] u).eval = ev at *
      refine k_new (.pointer (some ⟨W.heap.size, 0, none⟩)) (.cells #[.bool false, .string ⟨#[]⟩] 27) rfl ?_ (nxtA hG _) ⟨_, rfl, below_le hG, Bx.new _ _ _⟩ rfl
      simp [go_sem]
  case hlate =>
    intro A hA
    have hN : A.tmps.size = 43 := by rw [hA]; rfl
    clear hA
    refine ⟨trivial, trivial, trivial, trivial, trivial, trivial, trivial, trivial, ⟨rfl, ?_⟩, ⟨rfl, ?_⟩, trivial, trivial, trivial⟩
    · intro u W hf
      have f32 : u 6 = .tuple #[.agg #[.bool (neg (Q)), .string (mag (Q))], .agg #[.bool (neg (R)), .string (mag (R))], .bool true] := hf 6 (by decide)
      have e32 := frm_head (a := A) (ds := [33, 34, 35, 36, 37, 38, 32, 39, 40, 41, 7, 8]) (u := u) (k := 32) (i := 6) (by rw [hN]; decide) rfl f32
      generalize (frm A [33, 34, 35, 36, 37, 38, 32, 39, 40, 41, 7, 8] u).eval = ev at *
      refine ⟨.agg #[.bool (neg (R)), .string (mag (R))], rfl, fun w => ?_, rfl⟩
      simp [go_sem, e32]
    · intro u W hf
      have f32 : u 6 = .tuple #[.agg #[.bool (neg (Q)), .string (mag (Q))], .agg #[.bool (neg (R)), .string (mag (R))], .bool true] := hf 6 (by decide)
      have e32 := frm_head (a := A) (ds := [33, 34, 35, 36, 37, 38, 32, 39, 40, 41, 7, 8]) (u := u) (k := 32) (i := 6) (by rw [hN]; decide) rfl f32
      generalize (frm A [33, 34, 35, 36, 37, 38, 32, 39, 40, 41, 7, 8] u).eval = ev at *
      refine ⟨.bool true, rfl, fun w => ?_, rfl⟩
      simp [go_sem, e32]
  case htail =>
    intro u w' hG hP hD
    have f39 : u 7 = .agg #[.bool (neg (Q)), .string (mag (Q))] := hP 7 (by decide)
    have f40 : u 8 = .agg #[.bool (neg (R)), .string (mag (R))] := hP 8 (by decide)
    have f41 : u 9 = .bool true := hP 9 (by decide)
    obtain ⟨g7, f7, hb7, hx7⟩ : ptrK w1.heap.size 27 #[.bool false, .string ⟨#[]⟩] (u 10) w' := hP 10 (by decide)
    obtain ⟨g8, f8, hb8, hx8⟩ : ptrK w1.heap.size 27 #[.bool false, .string ⟨#[]⟩] (u 11) w' := hP 11 (by decide)
    have hne : g7 ≠ g8 := fun e => hD 10 11 (by decide) (by decide) rfl rfl (by decide) (by rw [f7, f8, e])
    simp only [putAll, Act.put, List.setIfInBounds_toArray, List.set_cons_zero, List.set_cons_succ, List.length_cons, List.length_nil, Nat.reduceAdd, List.drop_succ_cons, List.drop_zero, f39, f40, f41, f7, f8]
    clear f39 f40 f41 f7 f8
    replace X1 := X1.later hG
    replace X2 := X2.later hG
    clear p1 p2 q1 q2 q3 q4 hP hD
    obtain ⟨q1, q2, q3, q4⟩ := X2.two
    obtain ⟨r1, r2, r3, r4⟩ := hx7.two
    obtain ⟨t1, t2, t3, t4⟩ := hx8.two
    generalize u 0 = u0
    generalize u 1 = u1
    generalize u 2 = u2
    generalize u 3 = u3
    generalize u 4 = u4
    generalize u 5 = u5
    generalize u 6 = u6
    clear u
    have hz1 := hB.size
    have n1 : w.heap.size + 1 ≠ g7 := by have := X2.lt; have := hl1; have := p2x; omega
    have n2 : w.heap.size + 1 ≠ g8 := by have := p2x; omega
    replace hB := nxt hB hG
    have Y8 := Bx.far2 (i := 0) (j := 1) hx8 (Ne.symm hne) (.bool (neg Q)) (.string (mag Q))
    have Y7 := hx7.set2 (.bool (neg Q)) (.string (mag Q))
    have Y2 := Bx.far2 (i := 0) (j := 1) X2 n1 (.bool (neg Q)) (.string (mag Q))
    have hB2 := st2 hB (Nat.le_trans hz1 hb7) (.bool (neg Q)) (.string (mag Q))
    have Z7 := Bx.far2 (i := 0) (j := 1) Y7 hne (.bool (neg R)) (.string (mag R))
    have Z2 := Bx.far2 (i := 0) (j := 1) Y2 n2 (.bool (neg R)) (.string (mag R))
    have hB3 := Lib.hid (st2 hB2 (Nat.le_trans hz1 hb8) (.bool (neg R)) (.string (mag R)))
    have HZ := Lib.hid Z2
    clear q1 q2 q3 q4 t1 t2 t3 t4
    obtain ⟨t1, t2, t3, t4⟩ := Y8.two
    obtain ⟨v1, v2, v3, v4⟩ := Z7.two
    obtain ⟨q1, q2, q3, q4⟩ := Z2.two
    clear hB hB2 X1 X2 hx7 hx8 Y8 Y7 Y2 Z7 Z2 hz1 n1 n2 hne hb7 hb8 hG
    go_wp2_with fail
    exact bodyPost_ret (v := .agg #[.bool (neg (Q)), .string (mag (Q))]) (by simp [results, Tryz.results62, go_sem, (HZ.out.set2 _ _).cel]) rfl ⟨rfl, st2 hB3.out (Nat.le_add_right _ 1) _ _⟩

set_option maxRecDepth 100000 in
set_option maxHeartbeats 1000000 in
theorem rShift_up (s : ByteArray) (b : Bool) (n : Int) (w : World) (hs : s.size ≤ 8388608) (h0 : 0 ≤ n) (hn : n ≤ 67108864) :
    Calls Tryz.prog 62 #[.agg #[.bool b, .string s], .int .i64 n] w fun e w' => e = .returned (.agg #[.bool (neg (ival b (sval s) * 2 ^ n.toNat)), .string (mag (ival b (sval s) * 2 ^ n.toNat))]) ∧ Below w.heap.size w w' := by
  have cS := Lib.hid (fun W => rShl_any s n W (by omega) (by omega))
  have hz : (nstr (sval s * 2 ^ n.toNat)).size ≤ 268435456 := by
    have h1 : bsz (ival b (sval s) * 2 ^ n.toNat) ≤ s.size + n.toNat / 8 + 1 := bsz_shl_le (bsz_ival _ _)
    have h2 : (nstr (sval s * 2 ^ n.toNat)).size = bsz (ival b (sval s) * 2 ^ n.toNat) := by
      rw [← ival_shl, nstr_size]; unfold bsz; rw [ival_natAbs]
    rw [h2]; omega
  have cF := Lib.hid (fun W => rForm_any (nstr (sval s * 2 ^ n.toNat)) b W hz)
  rw [sval_nstr, ival_shl] at cF
  clear hz
  go_enter Tryz.func62, Tryz.ntmps62
  go_wp2_with fail
  have X1 := (Bx.new w 27 #[.bool b, .string s]).alloc (.cells #[.bool false, .string ⟨#[]⟩] 27)
  have X2 := Bx.at1 w (.cells #[.bool b, .string s] 27) 27 #[.bool false, .string ⟨#[]⟩]
  have hB := b2 w (.cells #[.bool b, .string s] 27) (.cells #[.bool false, .string ⟨#[]⟩] 27)
  generalize (w.alloc (.cells #[.bool b, .string s] 27)).alloc (.cells #[.bool false, .string ⟨#[]⟩] 27) = w0 at *
  have hl0 := X1.lt
  have hl1 := X2.lt
  have p2x := X2.lt
  refine wp_region_know [12, 13, 14, 15, 16, 17, 18, 19] (fun W => Below w0.heap.size w0 W) (kAt [eqK (.pointer (some ⟨w.heap.size, 0, none⟩)), eqK (.bool b), eqK (.pointer (some ⟨w.heap.size, 1, none⟩)), eqK (.string s), eqK (.int .i64 (n)), eqK (.string (nstr (sval s * 2 ^ n.toNat))), eqK (.agg #[.bool b, .string (nstr (sval s * 2 ^ n.toNat))]), eqK (.agg #[.bool (neg (ival b (sval s) * 2 ^ n.toNat)), .string (mag (ival b (sval s) * 2 ^ n.toNat))])])
    (fun _ => true) (fun _ => false) (by kernel_rfl) (by kernel_rfl) (fun _ _ _ _ _ h => h) (by kernel_rfl) (by kernel_rfl) 43 rfl (by kernel_rfl) (by kernel_rfl) ?hG (fun i v w w' hi => kAt_stab (by exact ⟨stab_eq _, stab_eq _, stab_eq _, stab_eq _, stab_eq _, stab_eq _, stab_eq _, stab_eq _, trivial⟩) _ i v w w' hi) (fun _ _ _ _ hf _ => absurd hf Bool.false_ne_true) ?hop ?hlate ?htail
  case hG => exact (Below.refl _ _).drew
  case hop =>
    intro A hA
    have hN : A.tmps.size = 43 := by rw [hA]; rfl
    have q2 : A.tmps.getD 2 undef = .pointer (some ⟨w.heap.size, 0, none⟩) := by rw [hA]; rfl
    have q1 : A.tmps.getD 1 undef = .int .i64 (n) := by rw [hA]; rfl
    clear hA
    refine ⟨?_, ?_, ?_, ?_, ?_, ?_, ?_, ?_, trivial⟩
    · intro u W hG hf
      have e2 := frm_base (ds := [12, 13, 14, 15, 16, 17, 18, 19]) (u := u) (k := 2) (by rw [hN]; decide) rfl q2
      generalize (frm A [12, 13, 14, 15, 16, 17, 18, 19] u).eval = ev at *
      refine k_val (.pointer (some ⟨w.heap.size, 0, none⟩)) rfl rfl hG ?_ rfl
      simp [go_sem, e2]
    · intro u W hG hf
      have f12 : u 0 = .pointer (some ⟨w.heap.size, 0, none⟩) := hf 0 (by decide)
      have e12 := frm_head (ds := [12, 13, 14, 15, 16, 17, 18, 19]) (u := u) (k := 12) (i := 0) (by rw [hN]; decide) rfl f12
      generalize (frm A [12, 13, 14, 15, 16, 17, 18, 19] u).eval = ev at *
      have hx := X1.later hG
      have y0 := hx.cel 0
      simp at y0
      refine k_val (.bool b) rfl rfl hG ?_ rfl
      simp [go_sem, e12, y0]
    · intro u W hG hf
      have e2 := frm_base (ds := [12, 13, 14, 15, 16, 17, 18, 19]) (u := u) (k := 2) (by rw [hN]; decide) rfl q2
      generalize (frm A [12, 13, 14, 15, 16, 17, 18, 19] u).eval = ev at *
      refine k_val (.pointer (some ⟨w.heap.size, 1, none⟩)) rfl rfl hG ?_ rfl
      simp [go_sem, e2]
    · intro u W hG hf
      have f14 : u 2 = .pointer (some ⟨w.heap.size, 1, none⟩) := hf 2 (by decide)
      have e14 := frm_head (ds := [12, 13, 14, 15, 16, 17, 18, 19]) (u := u) (k := 14) (i := 2) (by rw [hN]; decide) rfl f14
      generalize (frm A [12, 13, 14, 15, 16, 17, 18, 19] u).eval = ev at *
      have hx := X1.later hG
      have y1 := hx.cel 1
      simp at y1
      refine k_val (.string s) rfl rfl hG ?_ rfl
      simp [go_sem, e14, y1]
    · intro u W hG hf
      have e1 := frm_base (ds := [12, 13, 14, 15, 16, 17, 18, 19]) (u := u) (k := 1) (by rw [hN]; decide) rfl q1
      generalize (frm A [12, 13, 14, 15, 16, 17, 18, 19] u).eval = ev at *
      refine k_val (.int .i64 (n)) rfl rfl hG ?_ rfl
      simp [go_sem, e1]
    · intro u W hG hf
      have f15 : u 3 = .string s := hf 3 (by decide)
      have e15 := frm_head (ds := [12, 13, 14, 15, 16, 17, 18, 19]) (u := u) (k := 15) (i := 3) (by rw [hN]; decide) rfl f15
      have f16 : u 4 = .int .i64 (n) := hf 4 (by decide)
      have e16 := frm_head (ds := [12, 13, 14, 15, 16, 17, 18, 19]) (u := u) (k := 16) (i := 4) (by rw [hN]; decide) rfl f16
      have ef : ∀ f, (frm A [12, 13, 14, 15, 16, 17, 18, 19] u).eval (.func f) = .func (.func f) #[] #[] := fun _ => rfl
      generalize (frm A [12, 13, 14, 15, 16, 17, 18, 19] u).eval = ev at *
      exact k_call _ _ rfl rfl (by simp [go_sem, ef, e15, e16]) (cS.out W) (fun w' hb => nxt hG hb) (fun _ _ => rfl)
    · intro u W hG hf
      have f13 : u 1 = .bool b := hf 1 (by decide)
      have e13 := frm_head (ds := [12, 13, 14, 15, 16, 17, 18, 19]) (u := u) (k := 13) (i := 1) (by rw [hN]; decide) rfl f13
      have f17 : u 5 = .string (nstr (sval s * 2 ^ n.toNat)) := hf 5 (by decide)
      have e17 := frm_head (ds := [12, 13, 14, 15, 16, 17, 18, 19]) (u := u) (k := 17) (i := 5) (by rw [hN]; decide) rfl f17
      generalize (frm A [12, 13, 14, 15, 16, 17, 18, 19] u).eval = ev at *
      refine k_val (.agg #[.bool b, .string (nstr (sval s * 2 ^ n.toNat))]) rfl rfl hG ?_ rfl
      simp [go_sem, e13, e17]
    · intro u W hG hf
      have f18 : u 6 = .agg #[.bool b, .string (nstr (sval s * 2 ^ n.toNat))] := hf 6 (by decide)
      have e18 := frm_head (ds := [12, 13, 14, 15, 16, 17, 18, 19]) (u := u) (k := 18) (i := 6) (by rw [hN]; decide) rfl f18
      have ef : ∀ f, (frm A [12, 13, 14, 15, 16, 17, 18, 19] u).eval (.func f) = .func (.func f) #[] #[] := fun _ => rfl
      generalize (frm A [12, 13, 14, 15, 16, 17, 18, 19] u).eval = ev at *
      exact k_call _ _ rfl rfl (by simp [go_sem, ef, e18]) (cF.out W) (fun w' hb => nxt hG hb) (fun _ _ => rfl)
  case hlate =>
    intro A _
    exact ⟨trivial, trivial, trivial, trivial, trivial, trivial, trivial, trivial, trivial⟩
  case htail =>
    intro u w' hG hP hD
    have f19 : u 7 = .agg #[.bool (neg (ival b (sval s) * 2 ^ n.toNat)), .string (mag (ival b (sval s) * 2 ^ n.toNat))] := hP 7 (by decide)
    simp only [putAll, Act.put, List.setIfInBounds_toArray, List.set_cons_zero, List.set_cons_succ, List.length_cons, List.length_nil, Nat.reduceAdd, List.drop_succ_cons, List.drop_zero, f19]
    replace hB := Lib.hid (nxt hB hG)
    replace X2 := X2.later hG
    have HX := Lib.hid X2
    obtain ⟨q1, q2, q3, q4⟩ := X2.two
    clear X1 X2 hP hD hG f19
    go_wp2_with fail
    exact bodyPost_ret (v := .agg #[.bool (neg (ival b (sval s) * 2 ^ n.toNat)), .string (mag (ival b (sval s) * 2 ^ n.toNat))]) (by simp [results, Tryz.results62, go_sem, (HX.out.set2 _ _).cel]) rfl ⟨rfl, st2 hB.out (Nat.le_add_right _ 1) _ _⟩

theorem rShift_any (s : ByteArray) (b : Bool) (n : Int) (w : World) (hs : s.size ≤ 8388608) (hn : n ≤ 67108864) :
    Calls Tryz.prog 62 #[.agg #[.bool b, .string s], .int .i64 n] w fun e w' => e = .returned (.agg #[.bool (neg (shiftI (ival b (sval s)) n)), .string (mag (shiftI (ival b (sval s)) n))]) ∧ Below w.heap.size w w' := by
  by_cases h0 : 0 ≤ n
  · have e : shiftI (ival b (sval s)) n = ival b (sval s) * 2 ^ n.toNat := by unfold shiftI; rw [if_pos h0]
    rw [e]
    exact rShift_up s b n w hs h0 hn
  · have hnd := nd1_size s
    have key : ∀ m : Nat, 0 < m → m ≤ nd 1 (sval s) + 1 → Hid (∀ W, Calls Tryz.prog 68 #[.agg #[.bool b, .string s], .agg #[.bool false, .string (nstr (2 ^ m))]] W fun e w' => e = .returned (.tuple #[.agg #[.bool (neg (ival b (sval s) / 2 ^ m)), .string (mag (ival b (sval s) / 2 ^ m))], .agg #[.bool (neg (ival b (sval s) % 2 ^ m)), .string (mag (ival b (sval s) % 2 ^ m))], .bool true]) ∧ Below W.heap.size W w') := fun m _ hm => by
      have hz : (nstr (2 ^ m)).size ≤ 16777216 := by
        have h1 : bsz ((1 : Int) * 2 ^ m) ≤ 1 + m / 8 + 1 := bsz_shl_le (bsz_le (by decide))
        have h2 : (nstr (2 ^ m)).size = bsz ((1 : Int) * 2 ^ m) := by
          rw [nstr_size]; unfold bsz; rw [Int.one_mul, Int.natAbs_pow]; rfl
        rw [h2]; omega
      have c := fun W => rWDiv_any s (nstr (2 ^ m)) b false W (by omega) hz
      have h3 : 2 ^ m ≠ 0 := Nat.ne_of_gt (Nat.two_pow_pos m)
      have h4 : ival false (2 ^ m) = 2 ^ m := by show ((2 ^ m : Nat) : Int) = 2 ^ m; simp
      simp only [sval_nstr, if_neg h3, h4] at c
      exact Lib.hid c
    by_cases hc : -(((nd 1 (sval s) : Nat) : Int) + 1) ≤ n
    · obtain ⟨m, rfl⟩ : ∃ m : Nat, n = -(m : Int) := ⟨n.natAbs, by omega⟩
      have e : shiftI (ival b (sval s)) (-(m : Int)) = ival b (sval s) / 2 ^ m := by
        unfold shiftI; rw [if_neg h0, Int.neg_neg, Int.toNat_natCast]
      rw [e]
      exact rShift_down s b m _ _ w hs (by omega) (by omega) (key m (by omega) (by omega))
    · have e : shiftI (ival b (sval s)) n = ival b (sval s) / 2 ^ (nd 1 (sval s) + 1) := by
        unfold shiftI; rw [if_neg h0]
        refine (shr_far ?_ (by omega)).symm
        rw [ival_natAbs]
        have h1 := nd_lt (k := 1) (by decide) (sval s)
        rw [pow2_pow, Nat.one_mul] at h1
        exact Nat.lt_of_lt_of_le h1 (Nat.pow_le_pow_right (by decide) (by omega))
      rw [e]
      exact rShift_far s b _ _ _ w hs n (by omega) rfl (key _ (by omega) (by omega))

end Go.Proofs.YtibbhpgpleeglaaGreatDoor

