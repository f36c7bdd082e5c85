/- The walks and plain laws beneath the statements. -/
import Derived.Test.YtchfglbkiebfpaaGreatDoorPM27
import Derived.Test.YtchfglbkiebfpaaGreatDoorPM28
namespace Go.Proofs.YtchfglbkiebfpaaGreatDoor
open Go.RowKit

set_option maxRecDepth 100000 in
set_option maxHeartbeats 1000000 in
theorem spanMeets_a (aM bM dM fM : Bool) (aS bS dS fS : ByteArray) (aE bE dE fE : Int) (SA : Option Addr) (n cc : Nat) (w : World)
    (HA : Hid (∀ W : World, Below w.heap.size w W → Calls Tryz.prog 15 #[] W fun r w' => r = .returned (.bool true) ∧ Below W.heap.size W w'))
    (cf : Hid (∀ (W : World) (g : Nat), Bx W g 27 #[.bool aM, .string aS, .int .i64 aE, .bool bM, .string bS, .int .i64 bE, .bool dM, .string dS, .int .i64 dE, .bool fM, .string fS, .int .i64 fE] → Calls Tryz.prog 14 #[.slice (some ⟨g, 0, none⟩) 2 2] W fun r w' => r = .returned (.bool true) ∧ Below W.heap.size W w'))
    :
    Calls Tryz.prog 5 #[.agg #[.bool aM, .string aS, .int .i64 aE, .bool bM, .string bS, .int .i64 bE], .agg #[.bool dM, .string dS, .int .i64 dE, .bool fM, .string fS, .int .i64 fE], .slice SA n cc] w fun r w' => r = .returned (.bool true) ∧ Below w.heap.size w w' := by
  go_enter Tryz.func5, Tryz.ntmps5
  go_upto_region 1 with (fail)
  have X1 := (Bx.new w 27 #[.bool aM, .string aS, .int .i64 aE, .bool bM, .string bS, .int .i64 bE]).alloc (.cells #[.bool dM, .string dS, .int .i64 dE, .bool fM, .string fS, .int .i64 fE] 27)
  have X2 := Bx.at1 w (.cells #[.bool aM, .string aS, .int .i64 aE, .bool bM, .string bS, .int .i64 bE] 27) 27 #[.bool dM, .string dS, .int .i64 dE, .bool fM, .string fS, .int .i64 fE]
  have hB := b2 w (.cells #[.bool aM, .string aS, .int .i64 aE, .bool bM, .string bS, .int .i64 bE] 27) (.cells #[.bool dM, .string dS, .int .i64 dE, .bool fM, .string fS, .int .i64 fE] 27)
  generalize (w.alloc (.cells #[.bool aM, .string aS, .int .i64 aE, .bool bM, .string bS, .int .i64 bE] 27)).alloc (.cells #[.bool dM, .string dS, .int .i64 dE, .bool fM, .string fS, .int .i64 fE] 27) = w0 at *
  obtain ⟨c1_0, c1_1, c1_2, c1_3, c1_4, c1_5, _, _, _, _, _, _⟩ := X1.k6
  obtain ⟨c2_0, c2_1, c2_2, c2_3, c2_4, c2_5, _, _, _, _, _, _⟩ := X2.k6
  have X3 := Bx.new w0 27 #[.bool aM, .string aS, .int .i64 aE, .bool bM, .string bS, .int .i64 bE, .bool dM, .string dS, .int .i64 dE, .bool fM, .string fS, .int .i64 fE]
  replace X1 := Bx.alloc X1 (.cells #[.bool aM, .string aS, .int .i64 aE, .bool bM, .string bS, .int .i64 bE, .bool dM, .string dS, .int .i64 dE, .bool fM, .string fS, .int .i64 fE] 27)
  replace X2 := Bx.alloc X2 (.cells #[.bool aM, .string aS, .int .i64 aE, .bool bM, .string bS, .int .i64 bE, .bool dM, .string dS, .int .i64 dE, .bool fM, .string fS, .int .i64 fE] 27)
  replace hB := nxtA hB (.cells #[.bool aM, .string aS, .int .i64 aE, .bool bM, .string bS, .int .i64 bE, .bool dM, .string dS, .int .i64 dE, .bool fM, .string fS, .int .i64 fE] 27)
  clear X1 X2
  have HK := Lib.hid (And.intro X3 hB)
  clear X3 hB
  go_wp2_with fail
  obtain ⟨X3, hB⟩ := HK.out
  clear HK
  clear c1_0 c1_1 c1_2 c1_3 c1_4 c1_5 c2_0 c2_1 c2_2 c2_3 c2_4 c2_5
  refine (cf.out _ _ X3).mono ?_
  rintro e w1 ⟨rfl, hb⟩
  replace X3 := X3.later hb
  replace hB := nxt hB hb
  clear hb
  generalize w0.heap.size = g4_ at *
  have HK := Lib.hid hB
  clear hB
  go_wp2_with fail
  have hB := HK.out
  clear HK
  refine (HA.out _ hB).mono ?_
  rintro e w2 ⟨rfl, hb⟩
  replace hB := nxt hB hb
  clear hb
  go_wp2
  go_ret
  exact ⟨rfl, hB⟩

set_option maxRecDepth 100000 in
set_option maxHeartbeats 1000000 in
theorem spanMeets_b (aM bM dM fM : Bool) (aS bS dS fS : ByteArray) (aE bE dE fE : Int) (SA : Option Addr) (n cc : Nat) (hn : (20 : Int) < (n : Int)) (w : World)
    (HA : Hid (∀ W : World, Below w.heap.size w W → Calls Tryz.prog 15 #[] W fun r w' => r = .returned (.bool true) ∧ Below W.heap.size W w'))
    (cf : Hid (∀ (W : World) (g : Nat), Bx W g 27 #[.bool aM, .string aS, .int .i64 aE, .bool bM, .string bS, .int .i64 bE, .bool dM, .string dS, .int .i64 dE, .bool fM, .string fS, .int .i64 fE] → Calls Tryz.prog 14 #[.slice (some ⟨g, 0, none⟩) 2 2] W fun r w' => r = .returned (.bool false) ∧ Below W.heap.size W w'))
    :
    Calls Tryz.prog 5 #[.agg #[.bool aM, .string aS, .int .i64 aE, .bool bM, .string bS, .int .i64 bE], .agg #[.bool dM, .string dS, .int .i64 dE, .bool fM, .string fS, .int .i64 fE], .slice SA n cc] w fun r w' => r = .returned (.bool true) ∧ Below w.heap.size w w' := by
  have hy0 : decide ((20 : Int) < (n : Int)) = true := by simpa using hn
  go_enter Tryz.func5, Tryz.ntmps5
  go_upto_region 1 with (fail)
  have X1 := (Bx.new w 27 #[.bool aM, .string aS, .int .i64 aE, .bool bM, .string bS, .int .i64 bE]).alloc (.cells #[.bool dM, .string dS, .int .i64 dE, .bool fM, .string fS, .int .i64 fE] 27)
  have X2 := Bx.at1 w (.cells #[.bool aM, .string aS, .int .i64 aE, .bool bM, .string bS, .int .i64 bE] 27) 27 #[.bool dM, .string dS, .int .i64 dE, .bool fM, .string fS, .int .i64 fE]
  have hB := b2 w (.cells #[.bool aM, .string aS, .int .i64 aE, .bool bM, .string bS, .int .i64 bE] 27) (.cells #[.bool dM, .string dS, .int .i64 dE, .bool fM, .string fS, .int .i64 fE] 27)
  generalize (w.alloc (.cells #[.bool aM, .string aS, .int .i64 aE, .bool bM, .string bS, .int .i64 bE] 27)).alloc (.cells #[.bool dM, .string dS, .int .i64 dE, .bool fM, .string fS, .int .i64 fE] 27) = w0 at *
  obtain ⟨c1_0, c1_1, c1_2, c1_3, c1_4, c1_5, _, _, _, _, _, _⟩ := X1.k6
  obtain ⟨c2_0, c2_1, c2_2, c2_3, c2_4, c2_5, _, _, _, _, _, _⟩ := X2.k6
  have X3 := Bx.new w0 27 #[.bool aM, .string aS, .int .i64 aE, .bool bM, .string bS, .int .i64 bE, .bool dM, .string dS, .int .i64 dE, .bool fM, .string fS, .int .i64 fE]
  replace X1 := Bx.alloc X1 (.cells #[.bool aM, .string aS, .int .i64 aE, .bool bM, .string bS, .int .i64 bE, .bool dM, .string dS, .int .i64 dE, .bool fM, .string fS, .int .i64 fE] 27)
  replace X2 := Bx.alloc X2 (.cells #[.bool aM, .string aS, .int .i64 aE, .bool bM, .string bS, .int .i64 bE, .bool dM, .string dS, .int .i64 dE, .bool fM, .string fS, .int .i64 fE] 27)
  replace hB := nxtA hB (.cells #[.bool aM, .string aS, .int .i64 aE, .bool bM, .string bS, .int .i64 bE, .bool dM, .string dS, .int .i64 dE, .bool fM, .string fS, .int .i64 fE] 27)
  clear X1 X2
  have HK := Lib.hid (And.intro X3 hB)
  clear X3 hB
  go_wp2_with fail
  obtain ⟨X3, hB⟩ := HK.out
  clear HK
  clear c1_0 c1_1 c1_2 c1_3 c1_4 c1_5 c2_0 c2_1 c2_2 c2_3 c2_4 c2_5
  refine (cf.out _ _ X3).mono ?_
  rintro e w1 ⟨rfl, hb⟩
  replace X3 := X3.later hb
  replace hB := nxt hB hb
  clear hb
  generalize w0.heap.size = g4_ at *
  have HK := Lib.hid hB
  clear hB
  go_wp2_with fail
  have hB := HK.out
  clear HK
  refine (HA.out _ hB).mono ?_
  rintro e w2 ⟨rfl, hb⟩
  replace hB := nxt hB hb
  clear hb
  go_wp2
  go_ret
  exact ⟨rfl, hB⟩

set_option maxRecDepth 100000 in
set_option maxHeartbeats 1000000 in
theorem spanMeets_c (aM bM dM fM : Bool) (aS bS dS fS : ByteArray) (aE bE dE fE : Int) (SA : Option Addr) (n cc : Nat) (hn : ¬ (20 : Int) < (n : Int)) (w : World)
    (HA : Hid (∀ W : World, Below w.heap.size w W → Calls Tryz.prog 15 #[] W fun r w' => r = .returned (.bool true) ∧ Below W.heap.size W w'))
    (cf : Hid (∀ (W : World) (g : Nat), Bx W g 27 #[.bool aM, .string aS, .int .i64 aE, .bool bM, .string bS, .int .i64 bE, .bool dM, .string dS, .int .i64 dE, .bool fM, .string fS, .int .i64 fE] → Calls Tryz.prog 14 #[.slice (some ⟨g, 0, none⟩) 2 2] W fun r w' => r = .returned (.bool false) ∧ Below W.heap.size W w'))
    (cl : Hid (∀ W : World, Below w.heap.size w W → Calls Tryz.prog 14 #[.slice SA n cc] W fun r w' => r = .returned (.bool true) ∧ Below W.heap.size W w'))
    :
    Calls Tryz.prog 5 #[.agg #[.bool aM, .string aS, .int .i64 aE, .bool bM, .string bS, .int .i64 bE], .agg #[.bool dM, .string dS, .int .i64 dE, .bool fM, .string fS, .int .i64 fE], .slice SA n cc] w fun r w' => r = .returned (.bool true) ∧ Below w.heap.size w w' := by
  have hn0 : decide ((20 : Int) < (n : Int)) = false := by simpa using hn
  go_enter Tryz.func5, Tryz.ntmps5
  go_upto_region 1 with (fail)
  have X1 := (Bx.new w 27 #[.bool aM, .string aS, .int .i64 aE, .bool bM, .string bS, .int .i64 bE]).alloc (.cells #[.bool dM, .string dS, .int .i64 dE, .bool fM, .string fS, .int .i64 fE] 27)
  have X2 := Bx.at1 w (.cells #[.bool aM, .string aS, .int .i64 aE, .bool bM, .string bS, .int .i64 bE] 27) 27 #[.bool dM, .string dS, .int .i64 dE, .bool fM, .string fS, .int .i64 fE]
  have hB := b2 w (.cells #[.bool aM, .string aS, .int .i64 aE, .bool bM, .string bS, .int .i64 bE] 27) (.cells #[.bool dM, .string dS, .int .i64 dE, .bool fM, .string fS, .int .i64 fE] 27)
  generalize (w.alloc (.cells #[.bool aM, .string aS, .int .i64 aE, .bool bM, .string bS, .int .i64 bE] 27)).alloc (.cells #[.bool dM, .string dS, .int .i64 dE, .bool fM, .string fS, .int .i64 fE] 27) = w0 at *
  obtain ⟨c1_0, c1_1, c1_2, c1_3, c1_4, c1_5, _, _, _, _, _, _⟩ := X1.k6
  obtain ⟨c2_0, c2_1, c2_2, c2_3, c2_4, c2_5, _, _, _, _, _, _⟩ := X2.k6
  have X3 := Bx.new w0 27 #[.bool aM, .string aS, .int .i64 aE, .bool bM, .string bS, .int .i64 bE, .bool dM, .string dS, .int .i64 dE, .bool fM, .string fS, .int .i64 fE]
  replace X1 := Bx.alloc X1 (.cells #[.bool aM, .string aS, .int .i64 aE, .bool bM, .string bS, .int .i64 bE, .bool dM, .string dS, .int .i64 dE, .bool fM, .string fS, .int .i64 fE] 27)
  replace X2 := Bx.alloc X2 (.cells #[.bool aM, .string aS, .int .i64 aE, .bool bM, .string bS, .int .i64 bE, .bool dM, .string dS, .int .i64 dE, .bool fM, .string fS, .int .i64 fE] 27)
  replace hB := nxtA hB (.cells #[.bool aM, .string aS, .int .i64 aE, .bool bM, .string bS, .int .i64 bE, .bool dM, .string dS, .int .i64 dE, .bool fM, .string fS, .int .i64 fE] 27)
  clear X1 X2
  have HK := Lib.hid (And.intro X3 hB)
  clear X3 hB
  go_wp2_with fail
  obtain ⟨X3, hB⟩ := HK.out
  clear HK
  clear c1_0 c1_1 c1_2 c1_3 c1_4 c1_5 c2_0 c2_1 c2_2 c2_3 c2_4 c2_5
  refine (cf.out _ _ X3).mono ?_
  rintro e w1 ⟨rfl, hb⟩
  replace X3 := X3.later hb
  replace hB := nxt hB hb
  clear hb
  generalize w0.heap.size = g4_ at *
  have HK := Lib.hid hB
  clear hB
  go_wp2_with fail
  have hB := HK.out
  clear HK
  refine (cl.out _ hB).mono ?_
  rintro e w2 ⟨rfl, hb⟩
  replace hB := nxt hB hb
  clear hb
  have HK := Lib.hid hB
  clear hB
  go_wp2_with fail
  have hB := HK.out
  clear HK
  refine (HA.out _ hB).mono ?_
  rintro e w3 ⟨rfl, hb⟩
  replace hB := nxt hB hb
  clear hb
  go_wp2
  go_ret
  exact ⟨rfl, hB⟩

set_option maxRecDepth 100000 in
set_option maxHeartbeats 1000000 in
theorem spanMeets_st (aM bM dM fM uM vM xM yM : Bool) (aS bS dS fS uS vS xS yS : ByteArray) (aE bE dE fE uE vE xE yE : Int) (SA : Option Addr) (n cc : Nat) (B : Bool) (hn : ¬ (20 : Int) < (n : Int)) (w : World)
    (HA : Hid (∀ W : World, Below w.heap.size w W → Calls Tryz.prog 15 #[] W fun r w' => r = .returned (.bool true) ∧ Below W.heap.size W w'))
    (cf : Hid (∀ (W : World) (g : Nat), Bx W g 27 #[.bool aM, .string aS, .int .i64 aE, .bool bM, .string bS, .int .i64 bE, .bool dM, .string dS, .int .i64 dE, .bool fM, .string fS, .int .i64 fE] → Calls Tryz.prog 14 #[.slice (some ⟨g, 0, none⟩) 2 2] W fun r w' => r = .returned (.bool false) ∧ Below W.heap.size W w'))
    (cl : Hid (∀ W : World, Below w.heap.size w W → Calls Tryz.prog 14 #[.slice SA n cc] W fun r w' => r = .returned (.bool false) ∧ Below W.heap.size W w'))
    (c1 : Hid (∀ W : World, Below w.heap.size w W → Calls Tryz.prog 30 #[.agg #[.bool aM, .string aS, .int .i64 aE, .bool bM, .string bS, .int .i64 bE], .agg #[.bool dM, .string dS, .int .i64 dE, .bool fM, .string fS, .int .i64 fE]] W fun r w' => r = .returned (.tuple #[.agg #[.bool xM, .string xS, .int .i64 xE, .bool yM, .string yS, .int .i64 yE], .int .i64 0]) ∧ Below W.heap.size W w'))
    (c2 : Hid (∀ W : World, Below w.heap.size w W → Calls Tryz.prog 31 #[.agg #[.bool aM, .string aS, .int .i64 aE, .bool bM, .string bS, .int .i64 bE], .agg #[.bool dM, .string dS, .int .i64 dE, .bool fM, .string fS, .int .i64 fE]] W fun r w' => r = .returned (.tuple #[.agg #[.bool xM, .string xS, .int .i64 xE, .bool yM, .string yS, .int .i64 yE], .bool true]) ∧ Below W.heap.size W w'))
    (c3 : Hid (∀ W : World, Below w.heap.size w W → Calls Tryz.prog 32 #[.agg #[.bool dM, .string dS, .int .i64 dE, .bool fM, .string fS, .int .i64 fE], .agg #[.bool aM, .string aS, .int .i64 aE]] W fun r w' => r = .returned (.bool true) ∧ Below W.heap.size W w'))
    (c4 : Hid (∀ W : World, Below w.heap.size w W → Calls Tryz.prog 32 #[.agg #[.bool dM, .string dS, .int .i64 dE, .bool fM, .string fS, .int .i64 fE], .agg #[.bool bM, .string bS, .int .i64 bE]] W fun r w' => r = .returned (.bool B) ∧ Below W.heap.size W w'))
    (c5 : Hid (∀ W : World, Below w.heap.size w W → Calls Tryz.prog 33 #[.agg #[.bool aM, .string aS, .int .i64 aE, .bool bM, .string bS, .int .i64 bE], .agg #[.bool dM, .string dS, .int .i64 dE, .bool fM, .string fS, .int .i64 fE]] W fun r w' => r = .returned (.bool B) ∧ Below W.heap.size W w'))
    (c6 : Hid (∀ W : World, Below w.heap.size w W → Calls Tryz.prog 34 #[.slice SA n cc] W fun r w' => r = .returned (.agg #[.bool uM, .string uS, .int .i64 uE, .bool vM, .string vS, .int .i64 vE]) ∧ Below W.heap.size W w'))
    (c7 : Hid (∀ W : World, Below w.heap.size w W → Calls Tryz.prog 35 #[.slice SA n cc] W fun r w' => r = .returned (.agg #[.bool uM, .string uS, .int .i64 uE, .bool vM, .string vS, .int .i64 vE]) ∧ Below W.heap.size W w'))
    :
    Calls Tryz.prog 5 #[.agg #[.bool aM, .string aS, .int .i64 aE, .bool bM, .string bS, .int .i64 bE], .agg #[.bool dM, .string dS, .int .i64 dE, .bool fM, .string fS, .int .i64 fE], .slice SA n cc] w fun r w' => r = .returned (.bool true) ∧ Below w.heap.size w w' := by
  have hn0 : decide ((20 : Int) < (n : Int)) = false := by simpa using hn
  go_enter Tryz.func5, Tryz.ntmps5
  go_upto_region 1 with (fail)
  have X1 := (Bx.new w 27 #[.bool aM, .string aS, .int .i64 aE, .bool bM, .string bS, .int .i64 bE]).alloc (.cells #[.bool dM, .string dS, .int .i64 dE, .bool fM, .string fS, .int .i64 fE] 27)
  have X2 := Bx.at1 w (.cells #[.bool aM, .string aS, .int .i64 aE, .bool bM, .string bS, .int .i64 bE] 27) 27 #[.bool dM, .string dS, .int .i64 dE, .bool fM, .string fS, .int .i64 fE]
  have hB := b2 w (.cells #[.bool aM, .string aS, .int .i64 aE, .bool bM, .string bS, .int .i64 bE] 27) (.cells #[.bool dM, .string dS, .int .i64 dE, .bool fM, .string fS, .int .i64 fE] 27)
  generalize (w.alloc (.cells #[.bool aM, .string aS, .int .i64 aE, .bool bM, .string bS, .int .i64 bE] 27)).alloc (.cells #[.bool dM, .string dS, .int .i64 dE, .bool fM, .string fS, .int .i64 fE] 27) = w0 at *
  obtain ⟨c1_0, c1_1, c1_2, c1_3, c1_4, c1_5, _, _, _, _, _, _⟩ := X1.k6
  obtain ⟨c2_0, c2_1, c2_2, c2_3, c2_4, c2_5, _, _, _, _, _, _⟩ := X2.k6
  have X3 := Bx.new w0 27 #[.bool aM, .string aS, .int .i64 aE, .bool bM, .string bS, .int .i64 bE, .bool dM, .string dS, .int .i64 dE, .bool fM, .string fS, .int .i64 fE]
  replace X1 := Bx.alloc X1 (.cells #[.bool aM, .string aS, .int .i64 aE, .bool bM, .string bS, .int .i64 bE, .bool dM, .string dS, .int .i64 dE, .bool fM, .string fS, .int .i64 fE] 27)
  replace X2 := Bx.alloc X2 (.cells #[.bool aM, .string aS, .int .i64 aE, .bool bM, .string bS, .int .i64 bE, .bool dM, .string dS, .int .i64 dE, .bool fM, .string fS, .int .i64 fE] 27)
  replace hB := nxtA hB (.cells #[.bool aM, .string aS, .int .i64 aE, .bool bM, .string bS, .int .i64 bE, .bool dM, .string dS, .int .i64 dE, .bool fM, .string fS, .int .i64 fE] 27)
  have HK := Lib.hid (And.intro X1 (And.intro X2 (And.intro X3 hB)))
  clear X1 X2 X3 hB
  go_wp2_with fail
  obtain ⟨X1, X2, X3, hB⟩ := HK.out
  clear HK
  clear c1_0 c1_1 c1_2 c1_3 c1_4 c1_5 c2_0 c2_1 c2_2 c2_3 c2_4 c2_5
  refine (cf.out _ _ X3).mono ?_
  rintro e w1 ⟨rfl, hb⟩
  replace X1 := X1.later hb
  replace X2 := X2.later hb
  replace X3 := X3.later hb
  replace hB := nxt hB hb
  clear hb
  generalize w0.heap.size = g4_ at *
  have HK := Lib.hid (And.intro X1 (And.intro X2 hB))
  clear X1 X2 hB
  go_wp2_with fail
  obtain ⟨X1, X2, hB⟩ := HK.out
  clear HK
  refine (cl.out _ hB).mono ?_
  rintro e w2 ⟨rfl, hb⟩
  replace X1 := X1.later hb
  replace X2 := X2.later hb
  replace hB := nxt hB hb
  clear hb
  obtain ⟨c5_0, c5_1, c5_2, c5_3, c5_4, c5_5, _, _, _, _, _, _⟩ := X1.k6
  obtain ⟨c6_0, c6_1, c6_2, c6_3, c6_4, c6_5, _, _, _, _, _, _⟩ := X2.k6
  have HK := Lib.hid (And.intro X1 (And.intro X2 hB))
  clear X1 X2 hB
  go_wp2_with fail
  obtain ⟨X1, X2, hB⟩ := HK.out
  clear HK
  clear c5_0 c5_1 c5_2 c5_3 c5_4 c5_5 c6_0 c6_1 c6_2 c6_3 c6_4 c6_5
  refine (c1.out _ hB).mono ?_
  rintro e w3 ⟨rfl, hb⟩
  replace X1 := X1.later hb
  replace X2 := X2.later hb
  replace hB := nxt hB hb
  clear hb
  have X4 := Bx.new w3 27 #[.bool xM, .string xS, .int .i64 xE, .bool yM, .string yS, .int .i64 yE]
  replace X1 := Bx.alloc X1 (.cells #[.bool xM, .string xS, .int .i64 xE, .bool yM, .string yS, .int .i64 yE] 27)
  replace X2 := Bx.alloc X2 (.cells #[.bool xM, .string xS, .int .i64 xE, .bool yM, .string yS, .int .i64 yE] 27)
  replace hB := nxtA hB (.cells #[.bool xM, .string xS, .int .i64 xE, .bool yM, .string yS, .int .i64 yE] 27)
  obtain ⟨c8_0, c8_1, c8_2, c8_3, c8_4, c8_5, _, _, _, _, _, _⟩ := X1.k6
  obtain ⟨c9_0, c9_1, c9_2, c9_3, c9_4, c9_5, _, _, _, _, _, _⟩ := X2.k6
  have HK := Lib.hid (And.intro X1 (And.intro X2 (And.intro X4 hB)))
  clear X1 X2 X4 hB
  go_wp2_with fail
  obtain ⟨X1, X2, X4, hB⟩ := HK.out
  clear HK
  clear c8_0 c8_1 c8_2 c8_3 c8_4 c8_5 c9_0 c9_1 c9_2 c9_3 c9_4 c9_5
  refine (c2.out _ hB).mono ?_
  rintro e w4 ⟨rfl, hb⟩
  replace X1 := X1.later hb
  replace X2 := X2.later hb
  replace X4 := X4.later hb
  replace hB := nxt hB hb
  clear hb
  generalize w3.heap.size = g10_ at *
  have X5 := Bx.new w4 27 #[.bool xM, .string xS, .int .i64 xE, .bool yM, .string yS, .int .i64 yE]
  replace X1 := Bx.alloc X1 (.cells #[.bool xM, .string xS, .int .i64 xE, .bool yM, .string yS, .int .i64 yE] 27)
  replace X2 := Bx.alloc X2 (.cells #[.bool xM, .string xS, .int .i64 xE, .bool yM, .string yS, .int .i64 yE] 27)
  replace X4 := Bx.alloc X4 (.cells #[.bool xM, .string xS, .int .i64 xE, .bool yM, .string yS, .int .i64 yE] 27)
  replace hB := nxtA hB (.cells #[.bool xM, .string xS, .int .i64 xE, .bool yM, .string yS, .int .i64 yE] 27)
  obtain ⟨c12_0, c12_1, c12_2, c12_3, c12_4, c12_5, _, _, _, _, _, _⟩ := X2.k6
  obtain ⟨c13_0, c13_1, c13_2, _, _, _, _, _, _, _, _, _⟩ := X1.k6
  have HK := Lib.hid (And.intro X1 (And.intro X2 (And.intro X4 (And.intro X5 hB))))
  clear X1 X2 X4 X5 hB
  go_wp2_with fail
  obtain ⟨X1, X2, X4, X5, hB⟩ := HK.out
  clear HK
  clear c12_0 c12_1 c12_2 c12_3 c12_4 c12_5 c13_0 c13_1 c13_2
  refine (c3.out _ hB).mono ?_
  rintro e w5 ⟨rfl, hb⟩
  replace X1 := X1.later hb
  replace X2 := X2.later hb
  replace X4 := X4.later hb
  replace X5 := X5.later hb
  replace hB := nxt hB hb
  clear hb
  generalize w4.heap.size = g14_ at *
  obtain ⟨c15_0, c15_1, c15_2, c15_3, c15_4, c15_5, _, _, _, _, _, _⟩ := X2.k6
  obtain ⟨_, _, _, c16_3, c16_4, c16_5, _, _, _, _, _, _⟩ := X1.k6
  have HK := Lib.hid (And.intro X1 (And.intro X2 (And.intro X4 (And.intro X5 hB))))
  clear X1 X2 X4 X5 hB
  go_wp2_with fail
  obtain ⟨X1, X2, X4, X5, hB⟩ := HK.out
  clear HK
  clear c15_0 c15_1 c15_2 c15_3 c15_4 c15_5 c16_3 c16_4 c16_5
  refine (c4.out _ hB).mono ?_
  rintro e w6 ⟨rfl, hb⟩
  replace X1 := X1.later hb
  replace X2 := X2.later hb
  replace X4 := X4.later hb
  replace X5 := X5.later hb
  replace hB := nxt hB hb
  clear hb
  obtain ⟨c17_0, c17_1, c17_2, c17_3, c17_4, c17_5, _, _, _, _, _, _⟩ := X4.k6
  obtain ⟨c18_0, c18_1, c18_2, c18_3, c18_4, c18_5, _, _, _, _, _, _⟩ := X5.k6
  obtain ⟨c19_0, c19_1, c19_2, c19_3, c19_4, c19_5, _, _, _, _, _, _⟩ := X1.k6
  obtain ⟨c20_0, c20_1, c20_2, c20_3, c20_4, c20_5, _, _, _, _, _, _⟩ := X2.k6
  clear X1 X2 X4 X5
  have HK := Lib.hid hB
  clear hB
  go_wp2_with fail
  have hB := HK.out
  clear HK
  clear c17_0 c17_1 c17_2 c17_3 c17_4 c17_5 c18_0 c18_1 c18_2 c18_3 c18_4 c18_5 c19_0 c19_1 c19_2 c19_3 c19_4 c19_5 c20_0 c20_1 c20_2 c20_3 c20_4 c20_5
  refine (c5.out _ hB).mono ?_
  rintro e w7 ⟨rfl, hb⟩
  replace hB := nxt hB hb
  clear hb
  have HK := Lib.hid hB
  clear hB
  go_wp2_with fail
  have hB := HK.out
  clear HK
  refine (c6.out _ hB).mono ?_
  rintro e w8 ⟨rfl, hb⟩
  replace hB := nxt hB hb
  clear hb
  have HK := Lib.hid hB
  clear hB
  go_wp2_with fail
  have hB := HK.out
  clear HK
  refine (c7.out _ hB).mono ?_
  rintro e w9 ⟨rfl, hb⟩
  replace hB := nxt hB hb
  clear hb
  have HK := Lib.hid hB
  clear hB
  go_wp2_with fail
  have hB := HK.out
  clear HK
  refine (HA.out _ hB).mono ?_
  rintro e w10 ⟨rfl, hb⟩
  replace hB := nxt hB hb
  clear hb
  go_wp2
  go_ret
  exact ⟨rfl, hB⟩

set_option maxRecDepth 100000 in
set_option maxHeartbeats 1000000 in
theorem spanMeets_sf (aM bM dM fM uM vM xM yM : Bool) (aS bS dS fS uS vS xS yS : ByteArray) (aE bE dE fE uE vE xE yE : Int) (SA : Option Addr) (n cc : Nat) (hn : ¬ (20 : Int) < (n : Int)) (w : World)
    (HA : Hid (∀ W : World, Below w.heap.size w W → Calls Tryz.prog 15 #[] W fun r w' => r = .returned (.bool true) ∧ Below W.heap.size W w'))
    (cf : Hid (∀ (W : World) (g : Nat), Bx W g 27 #[.bool aM, .string aS, .int .i64 aE, .bool bM, .string bS, .int .i64 bE, .bool dM, .string dS, .int .i64 dE, .bool fM, .string fS, .int .i64 fE] → Calls Tryz.prog 14 #[.slice (some ⟨g, 0, none⟩) 2 2] W fun r w' => r = .returned (.bool false) ∧ Below W.heap.size W w'))
    (cl : Hid (∀ W : World, Below w.heap.size w W → Calls Tryz.prog 14 #[.slice SA n cc] W fun r w' => r = .returned (.bool false) ∧ Below W.heap.size W w'))
    (c1 : Hid (∀ W : World, Below w.heap.size w W → Calls Tryz.prog 30 #[.agg #[.bool aM, .string aS, .int .i64 aE, .bool bM, .string bS, .int .i64 bE], .agg #[.bool dM, .string dS, .int .i64 dE, .bool fM, .string fS, .int .i64 fE]] W fun r w' => r = .returned (.tuple #[.agg #[.bool xM, .string xS, .int .i64 xE, .bool yM, .string yS, .int .i64 yE], .int .i64 0]) ∧ Below W.heap.size W w'))
    (c2 : Hid (∀ W : World, Below w.heap.size w W → Calls Tryz.prog 31 #[.agg #[.bool aM, .string aS, .int .i64 aE, .bool bM, .string bS, .int .i64 bE], .agg #[.bool dM, .string dS, .int .i64 dE, .bool fM, .string fS, .int .i64 fE]] W fun r w' => r = .returned (.tuple #[.agg #[.bool xM, .string xS, .int .i64 xE, .bool yM, .string yS, .int .i64 yE], .bool true]) ∧ Below W.heap.size W w'))
    (c3 : Hid (∀ W : World, Below w.heap.size w W → Calls Tryz.prog 32 #[.agg #[.bool dM, .string dS, .int .i64 dE, .bool fM, .string fS, .int .i64 fE], .agg #[.bool aM, .string aS, .int .i64 aE]] W fun r w' => r = .returned (.bool false) ∧ Below W.heap.size W w'))
    (c4 : Hid (∀ W : World, Below w.heap.size w W → Calls Tryz.prog 33 #[.agg #[.bool aM, .string aS, .int .i64 aE, .bool bM, .string bS, .int .i64 bE], .agg #[.bool dM, .string dS, .int .i64 dE, .bool fM, .string fS, .int .i64 fE]] W fun r w' => r = .returned (.bool false) ∧ Below W.heap.size W w'))
    (c5 : Hid (∀ W : World, Below w.heap.size w W → Calls Tryz.prog 34 #[.slice SA n cc] W fun r w' => r = .returned (.agg #[.bool uM, .string uS, .int .i64 uE, .bool vM, .string vS, .int .i64 vE]) ∧ Below W.heap.size W w'))
    (c6 : Hid (∀ W : World, Below w.heap.size w W → Calls Tryz.prog 35 #[.slice SA n cc] W fun r w' => r = .returned (.agg #[.bool uM, .string uS, .int .i64 uE, .bool vM, .string vS, .int .i64 vE]) ∧ Below W.heap.size W w'))
    :
    Calls Tryz.prog 5 #[.agg #[.bool aM, .string aS, .int .i64 aE, .bool bM, .string bS, .int .i64 bE], .agg #[.bool dM, .string dS, .int .i64 dE, .bool fM, .string fS, .int .i64 fE], .slice SA n cc] w fun r w' => r = .returned (.bool true) ∧ Below w.heap.size w w' := by
  have hn0 : decide ((20 : Int) < (n : Int)) = false := by simpa using hn
  go_enter Tryz.func5, Tryz.ntmps5
  go_upto_region 1 with (fail)
  have X1 := (Bx.new w 27 #[.bool aM, .string aS, .int .i64 aE, .bool bM, .string bS, .int .i64 bE]).alloc (.cells #[.bool dM, .string dS, .int .i64 dE, .bool fM, .string fS, .int .i64 fE] 27)
  have X2 := Bx.at1 w (.cells #[.bool aM, .string aS, .int .i64 aE, .bool bM, .string bS, .int .i64 bE] 27) 27 #[.bool dM, .string dS, .int .i64 dE, .bool fM, .string fS, .int .i64 fE]
  have hB := b2 w (.cells #[.bool aM, .string aS, .int .i64 aE, .bool bM, .string bS, .int .i64 bE] 27) (.cells #[.bool dM, .string dS, .int .i64 dE, .bool fM, .string fS, .int .i64 fE] 27)
  generalize (w.alloc (.cells #[.bool aM, .string aS, .int .i64 aE, .bool bM, .string bS, .int .i64 bE] 27)).alloc (.cells #[.bool dM, .string dS, .int .i64 dE, .bool fM, .string fS, .int .i64 fE] 27) = w0 at *
  obtain ⟨c1_0, c1_1, c1_2, c1_3, c1_4, c1_5, _, _, _, _, _, _⟩ := X1.k6
  obtain ⟨c2_0, c2_1, c2_2, c2_3, c2_4, c2_5, _, _, _, _, _, _⟩ := X2.k6
  have X3 := Bx.new w0 27 #[.bool aM, .string aS, .int .i64 aE, .bool bM, .string bS, .int .i64 bE, .bool dM, .string dS, .int .i64 dE, .bool fM, .string fS, .int .i64 fE]
  replace X1 := Bx.alloc X1 (.cells #[.bool aM, .string aS, .int .i64 aE, .bool bM, .string bS, .int .i64 bE, .bool dM, .string dS, .int .i64 dE, .bool fM, .string fS, .int .i64 fE] 27)
  replace X2 := Bx.alloc X2 (.cells #[.bool aM, .string aS, .int .i64 aE, .bool bM, .string bS, .int .i64 bE, .bool dM, .string dS, .int .i64 dE, .bool fM, .string fS, .int .i64 fE] 27)
  replace hB := nxtA hB (.cells #[.bool aM, .string aS, .int .i64 aE, .bool bM, .string bS, .int .i64 bE, .bool dM, .string dS, .int .i64 dE, .bool fM, .string fS, .int .i64 fE] 27)
  have HK := Lib.hid (And.intro X1 (And.intro X2 (And.intro X3 hB)))
  clear X1 X2 X3 hB
  go_wp2_with fail
  obtain ⟨X1, X2, X3, hB⟩ := HK.out
  clear HK
  clear c1_0 c1_1 c1_2 c1_3 c1_4 c1_5 c2_0 c2_1 c2_2 c2_3 c2_4 c2_5
  refine (cf.out _ _ X3).mono ?_
  rintro e w1 ⟨rfl, hb⟩
  replace X1 := X1.later hb
  replace X2 := X2.later hb
  replace X3 := X3.later hb
  replace hB := nxt hB hb
  clear hb
  generalize w0.heap.size = g4_ at *
  have HK := Lib.hid (And.intro X1 (And.intro X2 hB))
  clear X1 X2 hB
  go_wp2_with fail
  obtain ⟨X1, X2, hB⟩ := HK.out
  clear HK
  refine (cl.out _ hB).mono ?_
  rintro e w2 ⟨rfl, hb⟩
  replace X1 := X1.later hb
  replace X2 := X2.later hb
  replace hB := nxt hB hb
  clear hb
  obtain ⟨c5_0, c5_1, c5_2, c5_3, c5_4, c5_5, _, _, _, _, _, _⟩ := X1.k6
  obtain ⟨c6_0, c6_1, c6_2, c6_3, c6_4, c6_5, _, _, _, _, _, _⟩ := X2.k6
  have HK := Lib.hid (And.intro X1 (And.intro X2 hB))
  clear X1 X2 hB
  go_wp2_with fail
  obtain ⟨X1, X2, hB⟩ := HK.out
  clear HK
  clear c5_0 c5_1 c5_2 c5_3 c5_4 c5_5 c6_0 c6_1 c6_2 c6_3 c6_4 c6_5
  refine (c1.out _ hB).mono ?_
  rintro e w3 ⟨rfl, hb⟩
  replace X1 := X1.later hb
  replace X2 := X2.later hb
  replace hB := nxt hB hb
  clear hb
  have X4 := Bx.new w3 27 #[.bool xM, .string xS, .int .i64 xE, .bool yM, .string yS, .int .i64 yE]
  replace X1 := Bx.alloc X1 (.cells #[.bool xM, .string xS, .int .i64 xE, .bool yM, .string yS, .int .i64 yE] 27)
  replace X2 := Bx.alloc X2 (.cells #[.bool xM, .string xS, .int .i64 xE, .bool yM, .string yS, .int .i64 yE] 27)
  replace hB := nxtA hB (.cells #[.bool xM, .string xS, .int .i64 xE, .bool yM, .string yS, .int .i64 yE] 27)
  obtain ⟨c8_0, c8_1, c8_2, c8_3, c8_4, c8_5, _, _, _, _, _, _⟩ := X1.k6
  obtain ⟨c9_0, c9_1, c9_2, c9_3, c9_4, c9_5, _, _, _, _, _, _⟩ := X2.k6
  have HK := Lib.hid (And.intro X1 (And.intro X2 (And.intro X4 hB)))
  clear X1 X2 X4 hB
  go_wp2_with fail
  obtain ⟨X1, X2, X4, hB⟩ := HK.out
  clear HK
  clear c8_0 c8_1 c8_2 c8_3 c8_4 c8_5 c9_0 c9_1 c9_2 c9_3 c9_4 c9_5
  refine (c2.out _ hB).mono ?_
  rintro e w4 ⟨rfl, hb⟩
  replace X1 := X1.later hb
  replace X2 := X2.later hb
  replace X4 := X4.later hb
  replace hB := nxt hB hb
  clear hb
  generalize w3.heap.size = g10_ at *
  have X5 := Bx.new w4 27 #[.bool xM, .string xS, .int .i64 xE, .bool yM, .string yS, .int .i64 yE]
  replace X1 := Bx.alloc X1 (.cells #[.bool xM, .string xS, .int .i64 xE, .bool yM, .string yS, .int .i64 yE] 27)
  replace X2 := Bx.alloc X2 (.cells #[.bool xM, .string xS, .int .i64 xE, .bool yM, .string yS, .int .i64 yE] 27)
  replace X4 := Bx.alloc X4 (.cells #[.bool xM, .string xS, .int .i64 xE, .bool yM, .string yS, .int .i64 yE] 27)
  replace hB := nxtA hB (.cells #[.bool xM, .string xS, .int .i64 xE, .bool yM, .string yS, .int .i64 yE] 27)
  obtain ⟨c12_0, c12_1, c12_2, c12_3, c12_4, c12_5, _, _, _, _, _, _⟩ := X2.k6
  obtain ⟨c13_0, c13_1, c13_2, _, _, _, _, _, _, _, _, _⟩ := X1.k6
  have HK := Lib.hid (And.intro X1 (And.intro X2 (And.intro X4 (And.intro X5 hB))))
  clear X1 X2 X4 X5 hB
  go_wp2_with fail
  obtain ⟨X1, X2, X4, X5, hB⟩ := HK.out
  clear HK
  clear c12_0 c12_1 c12_2 c12_3 c12_4 c12_5 c13_0 c13_1 c13_2
  refine (c3.out _ hB).mono ?_
  rintro e w5 ⟨rfl, hb⟩
  replace X1 := X1.later hb
  replace X2 := X2.later hb
  replace X4 := X4.later hb
  replace X5 := X5.later hb
  replace hB := nxt hB hb
  clear hb
  generalize w4.heap.size = g14_ at *
  obtain ⟨c15_0, c15_1, c15_2, c15_3, c15_4, c15_5, _, _, _, _, _, _⟩ := X4.k6
  obtain ⟨c16_0, c16_1, c16_2, c16_3, c16_4, c16_5, _, _, _, _, _, _⟩ := X5.k6
  obtain ⟨c17_0, c17_1, c17_2, c17_3, c17_4, c17_5, _, _, _, _, _, _⟩ := X1.k6
  obtain ⟨c18_0, c18_1, c18_2, c18_3, c18_4, c18_5, _, _, _, _, _, _⟩ := X2.k6
  clear X1 X2 X4 X5
  have HK := Lib.hid hB
  clear hB
  go_wp2_with fail
  have hB := HK.out
  clear HK
  clear c15_0 c15_1 c15_2 c15_3 c15_4 c15_5 c16_0 c16_1 c16_2 c16_3 c16_4 c16_5 c17_0 c17_1 c17_2 c17_3 c17_4 c17_5 c18_0 c18_1 c18_2 c18_3 c18_4 c18_5
  refine (c4.out _ hB).mono ?_
  rintro e w6 ⟨rfl, hb⟩
  replace hB := nxt hB hb
  clear hb
  have HK := Lib.hid hB
  clear hB
  go_wp2_with fail
  have hB := HK.out
  clear HK
  refine (c5.out _ hB).mono ?_
  rintro e w7 ⟨rfl, hb⟩
  replace hB := nxt hB hb
  clear hb
  have HK := Lib.hid hB
  clear hB
  go_wp2_with fail
  have hB := HK.out
  clear HK
  refine (c6.out _ hB).mono ?_
  rintro e w8 ⟨rfl, hb⟩
  replace hB := nxt hB hb
  clear hb
  have HK := Lib.hid hB
  clear hB
  go_wp2_with fail
  have hB := HK.out
  clear HK
  refine (HA.out _ hB).mono ?_
  rintro e w9 ⟨rfl, hb⟩
  replace hB := nxt hB hb
  clear hb
  go_wp2
  go_ret
  exact ⟨rfl, hB⟩

set_option maxRecDepth 100000 in
set_option maxHeartbeats 1000000 in
theorem spanMeets_nt (aM bM dM fM uM vM : Bool) (aS bS dS fS uS vS : ByteArray) (aE bE dE fE uE vE : Int) (SA : Option Addr) (n cc : Nat) (B : Bool) (hn : ¬ (20 : Int) < (n : Int)) (w : World)
    (HA : Hid (∀ W : World, Below w.heap.size w W → Calls Tryz.prog 15 #[] W fun r w' => r = .returned (.bool true) ∧ Below W.heap.size W w'))
    (cf : Hid (∀ (W : World) (g : Nat), Bx W g 27 #[.bool aM, .string aS, .int .i64 aE, .bool bM, .string bS, .int .i64 bE, .bool dM, .string dS, .int .i64 dE, .bool fM, .string fS, .int .i64 fE] → Calls Tryz.prog 14 #[.slice (some ⟨g, 0, none⟩) 2 2] W fun r w' => r = .returned (.bool false) ∧ Below W.heap.size W w'))
    (cl : Hid (∀ W : World, Below w.heap.size w W → Calls Tryz.prog 14 #[.slice SA n cc] W fun r w' => r = .returned (.bool false) ∧ Below W.heap.size W w'))
    (c1 : Hid (∀ W : World, Below w.heap.size w W → Calls Tryz.prog 30 #[.agg #[.bool aM, .string aS, .int .i64 aE, .bool bM, .string bS, .int .i64 bE], .agg #[.bool dM, .string dS, .int .i64 dE, .bool fM, .string fS, .int .i64 fE]] W fun r w' => r = .returned (.tuple #[.agg #[.bool false, .string ⟨#[]⟩, .int .i64 0, .bool false, .string ⟨#[]⟩, .int .i64 0], .int .i64 4]) ∧ Below W.heap.size W w'))
    (c2 : Hid (∀ W : World, Below w.heap.size w W → Calls Tryz.prog 31 #[.agg #[.bool aM, .string aS, .int .i64 aE, .bool bM, .string bS, .int .i64 bE], .agg #[.bool dM, .string dS, .int .i64 dE, .bool fM, .string fS, .int .i64 fE]] W fun r w' => r = .returned (.tuple #[.agg #[.bool false, .string ⟨#[]⟩, .int .i64 0, .bool false, .string ⟨#[]⟩, .int .i64 0], .bool false]) ∧ Below W.heap.size W w'))
    (c3 : Hid (∀ W : World, Below w.heap.size w W → Calls Tryz.prog 32 #[.agg #[.bool dM, .string dS, .int .i64 dE, .bool fM, .string fS, .int .i64 fE], .agg #[.bool aM, .string aS, .int .i64 aE]] W fun r w' => r = .returned (.bool true) ∧ Below W.heap.size W w'))
    (c4 : Hid (∀ W : World, Below w.heap.size w W → Calls Tryz.prog 32 #[.agg #[.bool dM, .string dS, .int .i64 dE, .bool fM, .string fS, .int .i64 fE], .agg #[.bool bM, .string bS, .int .i64 bE]] W fun r w' => r = .returned (.bool B) ∧ Below W.heap.size W w'))
    (c5 : Hid (∀ W : World, Below w.heap.size w W → Calls Tryz.prog 33 #[.agg #[.bool aM, .string aS, .int .i64 aE, .bool bM, .string bS, .int .i64 bE], .agg #[.bool dM, .string dS, .int .i64 dE, .bool fM, .string fS, .int .i64 fE]] W fun r w' => r = .returned (.bool B) ∧ Below W.heap.size W w'))
    (c6 : Hid (∀ W : World, Below w.heap.size w W → Calls Tryz.prog 34 #[.slice SA n cc] W fun r w' => r = .returned (.agg #[.bool uM, .string uS, .int .i64 uE, .bool vM, .string vS, .int .i64 vE]) ∧ Below W.heap.size W w'))
    (c7 : Hid (∀ W : World, Below w.heap.size w W → Calls Tryz.prog 35 #[.slice SA n cc] W fun r w' => r = .returned (.agg #[.bool uM, .string uS, .int .i64 uE, .bool vM, .string vS, .int .i64 vE]) ∧ Below W.heap.size W w'))
    :
    Calls Tryz.prog 5 #[.agg #[.bool aM, .string aS, .int .i64 aE, .bool bM, .string bS, .int .i64 bE], .agg #[.bool dM, .string dS, .int .i64 dE, .bool fM, .string fS, .int .i64 fE], .slice SA n cc] w fun r w' => r = .returned (.bool true) ∧ Below w.heap.size w w' := by
  have hn0 : decide ((20 : Int) < (n : Int)) = false := by simpa using hn
  go_enter Tryz.func5, Tryz.ntmps5
  go_upto_region 1 with (fail)
  have X1 := (Bx.new w 27 #[.bool aM, .string aS, .int .i64 aE, .bool bM, .string bS, .int .i64 bE]).alloc (.cells #[.bool dM, .string dS, .int .i64 dE, .bool fM, .string fS, .int .i64 fE] 27)
  have X2 := Bx.at1 w (.cells #[.bool aM, .string aS, .int .i64 aE, .bool bM, .string bS, .int .i64 bE] 27) 27 #[.bool dM, .string dS, .int .i64 dE, .bool fM, .string fS, .int .i64 fE]
  have hB := b2 w (.cells #[.bool aM, .string aS, .int .i64 aE, .bool bM, .string bS, .int .i64 bE] 27) (.cells #[.bool dM, .string dS, .int .i64 dE, .bool fM, .string fS, .int .i64 fE] 27)
  generalize (w.alloc (.cells #[.bool aM, .string aS, .int .i64 aE, .bool bM, .string bS, .int .i64 bE] 27)).alloc (.cells #[.bool dM, .string dS, .int .i64 dE, .bool fM, .string fS, .int .i64 fE] 27) = w0 at *
  obtain ⟨c1_0, c1_1, c1_2, c1_3, c1_4, c1_5, _, _, _, _, _, _⟩ := X1.k6
  obtain ⟨c2_0, c2_1, c2_2, c2_3, c2_4, c2_5, _, _, _, _, _, _⟩ := X2.k6
  have X3 := Bx.new w0 27 #[.bool aM, .string aS, .int .i64 aE, .bool bM, .string bS, .int .i64 bE, .bool dM, .string dS, .int .i64 dE, .bool fM, .string fS, .int .i64 fE]
  replace X1 := Bx.alloc X1 (.cells #[.bool aM, .string aS, .int .i64 aE, .bool bM, .string bS, .int .i64 bE, .bool dM, .string dS, .int .i64 dE, .bool fM, .string fS, .int .i64 fE] 27)
  replace X2 := Bx.alloc X2 (.cells #[.bool aM, .string aS, .int .i64 aE, .bool bM, .string bS, .int .i64 bE, .bool dM, .string dS, .int .i64 dE, .bool fM, .string fS, .int .i64 fE] 27)
  replace hB := nxtA hB (.cells #[.bool aM, .string aS, .int .i64 aE, .bool bM, .string bS, .int .i64 bE, .bool dM, .string dS, .int .i64 dE, .bool fM, .string fS, .int .i64 fE] 27)
  have HK := Lib.hid (And.intro X1 (And.intro X2 (And.intro X3 hB)))
  clear X1 X2 X3 hB
  go_wp2_with fail
  obtain ⟨X1, X2, X3, hB⟩ := HK.out
  clear HK
  clear c1_0 c1_1 c1_2 c1_3 c1_4 c1_5 c2_0 c2_1 c2_2 c2_3 c2_4 c2_5
  refine (cf.out _ _ X3).mono ?_
  rintro e w1 ⟨rfl, hb⟩
  replace X1 := X1.later hb
  replace X2 := X2.later hb
  replace X3 := X3.later hb
  replace hB := nxt hB hb
  clear hb
  generalize w0.heap.size = g4_ at *
  have HK := Lib.hid (And.intro X1 (And.intro X2 hB))
  clear X1 X2 hB
  go_wp2_with fail
  obtain ⟨X1, X2, hB⟩ := HK.out
  clear HK
  refine (cl.out _ hB).mono ?_
  rintro e w2 ⟨rfl, hb⟩
  replace X1 := X1.later hb
  replace X2 := X2.later hb
  replace hB := nxt hB hb
  clear hb
  obtain ⟨c5_0, c5_1, c5_2, c5_3, c5_4, c5_5, _, _, _, _, _, _⟩ := X1.k6
  obtain ⟨c6_0, c6_1, c6_2, c6_3, c6_4, c6_5, _, _, _, _, _, _⟩ := X2.k6
  have HK := Lib.hid (And.intro X1 (And.intro X2 hB))
  clear X1 X2 hB
  go_wp2_with fail
  obtain ⟨X1, X2, hB⟩ := HK.out
  clear HK
  clear c5_0 c5_1 c5_2 c5_3 c5_4 c5_5 c6_0 c6_1 c6_2 c6_3 c6_4 c6_5
  refine (c1.out _ hB).mono ?_
  rintro e w3 ⟨rfl, hb⟩
  replace X1 := X1.later hb
  replace X2 := X2.later hb
  replace hB := nxt hB hb
  clear hb
  have X4 := Bx.new w3 27 #[.bool false, .string ⟨#[]⟩, .int .i64 0, .bool false, .string ⟨#[]⟩, .int .i64 0]
  replace X1 := Bx.alloc X1 (.cells #[.bool false, .string ⟨#[]⟩, .int .i64 0, .bool false, .string ⟨#[]⟩, .int .i64 0] 27)
  replace X2 := Bx.alloc X2 (.cells #[.bool false, .string ⟨#[]⟩, .int .i64 0, .bool false, .string ⟨#[]⟩, .int .i64 0] 27)
  replace hB := nxtA hB (.cells #[.bool false, .string ⟨#[]⟩, .int .i64 0, .bool false, .string ⟨#[]⟩, .int .i64 0] 27)
  obtain ⟨c8_0, c8_1, c8_2, c8_3, c8_4, c8_5, _, _, _, _, _, _⟩ := X1.k6
  obtain ⟨c9_0, c9_1, c9_2, c9_3, c9_4, c9_5, _, _, _, _, _, _⟩ := X2.k6
  have HK := Lib.hid (And.intro X1 (And.intro X2 (And.intro X4 hB)))
  clear X1 X2 X4 hB
  go_wp2_with fail
  obtain ⟨X1, X2, X4, hB⟩ := HK.out
  clear HK
  clear c8_0 c8_1 c8_2 c8_3 c8_4 c8_5 c9_0 c9_1 c9_2 c9_3 c9_4 c9_5
  refine (c2.out _ hB).mono ?_
  rintro e w4 ⟨rfl, hb⟩
  replace X1 := X1.later hb
  replace X2 := X2.later hb
  replace X4 := X4.later hb
  replace hB := nxt hB hb
  clear hb
  generalize w3.heap.size = g10_ at *
  have X5 := Bx.new w4 27 #[.bool false, .string ⟨#[]⟩, .int .i64 0, .bool false, .string ⟨#[]⟩, .int .i64 0]
  replace X1 := Bx.alloc X1 (.cells #[.bool false, .string ⟨#[]⟩, .int .i64 0, .bool false, .string ⟨#[]⟩, .int .i64 0] 27)
  replace X2 := Bx.alloc X2 (.cells #[.bool false, .string ⟨#[]⟩, .int .i64 0, .bool false, .string ⟨#[]⟩, .int .i64 0] 27)
  replace X4 := Bx.alloc X4 (.cells #[.bool false, .string ⟨#[]⟩, .int .i64 0, .bool false, .string ⟨#[]⟩, .int .i64 0] 27)
  replace hB := nxtA hB (.cells #[.bool false, .string ⟨#[]⟩, .int .i64 0, .bool false, .string ⟨#[]⟩, .int .i64 0] 27)
  obtain ⟨c12_0, c12_1, c12_2, c12_3, c12_4, c12_5, _, _, _, _, _, _⟩ := X2.k6
  obtain ⟨c13_0, c13_1, c13_2, _, _, _, _, _, _, _, _, _⟩ := X1.k6
  have HK := Lib.hid (And.intro X1 (And.intro X2 (And.intro X4 (And.intro X5 hB))))
  clear X1 X2 X4 X5 hB
  go_wp2_with fail
  obtain ⟨X1, X2, X4, X5, hB⟩ := HK.out
  clear HK
  clear c12_0 c12_1 c12_2 c12_3 c12_4 c12_5 c13_0 c13_1 c13_2
  refine (c3.out _ hB).mono ?_
  rintro e w5 ⟨rfl, hb⟩
  replace X1 := X1.later hb
  replace X2 := X2.later hb
  replace X4 := X4.later hb
  replace X5 := X5.later hb
  replace hB := nxt hB hb
  clear hb
  generalize w4.heap.size = g14_ at *
  obtain ⟨c15_0, c15_1, c15_2, c15_3, c15_4, c15_5, _, _, _, _, _, _⟩ := X2.k6
  obtain ⟨_, _, _, c16_3, c16_4, c16_5, _, _, _, _, _, _⟩ := X1.k6
  have HK := Lib.hid (And.intro X1 (And.intro X2 (And.intro X4 (And.intro X5 hB))))
  clear X1 X2 X4 X5 hB
  go_wp2_with fail
  obtain ⟨X1, X2, X4, X5, hB⟩ := HK.out
  clear HK
  clear c15_0 c15_1 c15_2 c15_3 c15_4 c15_5 c16_3 c16_4 c16_5
  refine (c4.out _ hB).mono ?_
  rintro e w6 ⟨rfl, hb⟩
  replace X1 := X1.later hb
  replace X2 := X2.later hb
  replace X4 := X4.later hb
  replace X5 := X5.later hb
  replace hB := nxt hB hb
  clear hb
  obtain ⟨c17_0, c17_1, c17_2, c17_3, c17_4, c17_5, _, _, _, _, _, _⟩ := X4.k6
  obtain ⟨c18_0, c18_1, c18_2, c18_3, c18_4, c18_5, _, _, _, _, _, _⟩ := X5.k6
  obtain ⟨c19_0, c19_1, c19_2, c19_3, c19_4, c19_5, _, _, _, _, _, _⟩ := X1.k6
  obtain ⟨c20_0, c20_1, c20_2, c20_3, c20_4, c20_5, _, _, _, _, _, _⟩ := X2.k6
  clear X1 X2 X4 X5
  have HK := Lib.hid hB
  clear hB
  go_wp2_with fail
  have hB := HK.out
  clear HK
  clear c17_0 c17_1 c17_2 c17_3 c17_4 c17_5 c18_0 c18_1 c18_2 c18_3 c18_4 c18_5 c19_0 c19_1 c19_2 c19_3 c19_4 c19_5 c20_0 c20_1 c20_2 c20_3 c20_4 c20_5
  refine (c5.out _ hB).mono ?_
  rintro e w7 ⟨rfl, hb⟩
  replace hB := nxt hB hb
  clear hb
  have HK := Lib.hid hB
  clear hB
  go_wp2_with fail
  have hB := HK.out
  clear HK
  refine (c6.out _ hB).mono ?_
  rintro e w8 ⟨rfl, hb⟩
  replace hB := nxt hB hb
  clear hb
  have HK := Lib.hid hB
  clear hB
  go_wp2_with fail
  have hB := HK.out
  clear HK
  refine (c7.out _ hB).mono ?_
  rintro e w9 ⟨rfl, hb⟩
  replace hB := nxt hB hb
  clear hb
  have HK := Lib.hid hB
  clear hB
  go_wp2_with fail
  have hB := HK.out
  clear HK
  refine (HA.out _ hB).mono ?_
  rintro e w10 ⟨rfl, hb⟩
  replace hB := nxt hB hb
  clear hb
  go_wp2
  go_ret
  exact ⟨rfl, hB⟩

set_option maxRecDepth 100000 in
set_option maxHeartbeats 1000000 in
theorem spanMeets_nf (aM bM dM fM uM vM : Bool) (aS bS dS fS uS vS : ByteArray) (aE bE dE fE uE vE : Int) (SA : Option Addr) (n cc : Nat) (hn : ¬ (20 : Int) < (n : Int)) (w : World)
    (HA : Hid (∀ W : World, Below w.heap.size w W → Calls Tryz.prog 15 #[] W fun r w' => r = .returned (.bool true) ∧ Below W.heap.size W w'))
    (cf : Hid (∀ (W : World) (g : Nat), Bx W g 27 #[.bool aM, .string aS, .int .i64 aE, .bool bM, .string bS, .int .i64 bE, .bool dM, .string dS, .int .i64 dE, .bool fM, .string fS, .int .i64 fE] → Calls Tryz.prog 14 #[.slice (some ⟨g, 0, none⟩) 2 2] W fun r w' => r = .returned (.bool false) ∧ Below W.heap.size W w'))
    (cl : Hid (∀ W : World, Below w.heap.size w W → Calls Tryz.prog 14 #[.slice SA n cc] W fun r w' => r = .returned (.bool false) ∧ Below W.heap.size W w'))
    (c1 : Hid (∀ W : World, Below w.heap.size w W → Calls Tryz.prog 30 #[.agg #[.bool aM, .string aS, .int .i64 aE, .bool bM, .string bS, .int .i64 bE], .agg #[.bool dM, .string dS, .int .i64 dE, .bool fM, .string fS, .int .i64 fE]] W fun r w' => r = .returned (.tuple #[.agg #[.bool false, .string ⟨#[]⟩, .int .i64 0, .bool false, .string ⟨#[]⟩, .int .i64 0], .int .i64 4]) ∧ Below W.heap.size W w'))
    (c2 : Hid (∀ W : World, Below w.heap.size w W → Calls Tryz.prog 31 #[.agg #[.bool aM, .string aS, .int .i64 aE, .bool bM, .string bS, .int .i64 bE], .agg #[.bool dM, .string dS, .int .i64 dE, .bool fM, .string fS, .int .i64 fE]] W fun r w' => r = .returned (.tuple #[.agg #[.bool false, .string ⟨#[]⟩, .int .i64 0, .bool false, .string ⟨#[]⟩, .int .i64 0], .bool false]) ∧ Below W.heap.size W w'))
    (c3 : Hid (∀ W : World, Below w.heap.size w W → Calls Tryz.prog 32 #[.agg #[.bool dM, .string dS, .int .i64 dE, .bool fM, .string fS, .int .i64 fE], .agg #[.bool aM, .string aS, .int .i64 aE]] W fun r w' => r = .returned (.bool false) ∧ Below W.heap.size W w'))
    (c4 : Hid (∀ W : World, Below w.heap.size w W → Calls Tryz.prog 33 #[.agg #[.bool aM, .string aS, .int .i64 aE, .bool bM, .string bS, .int .i64 bE], .agg #[.bool dM, .string dS, .int .i64 dE, .bool fM, .string fS, .int .i64 fE]] W fun r w' => r = .returned (.bool false) ∧ Below W.heap.size W w'))
    (c5 : Hid (∀ W : World, Below w.heap.size w W → Calls Tryz.prog 34 #[.slice SA n cc] W fun r w' => r = .returned (.agg #[.bool uM, .string uS, .int .i64 uE, .bool vM, .string vS, .int .i64 vE]) ∧ Below W.heap.size W w'))
    (c6 : Hid (∀ W : World, Below w.heap.size w W → Calls Tryz.prog 35 #[.slice SA n cc] W fun r w' => r = .returned (.agg #[.bool uM, .string uS, .int .i64 uE, .bool vM, .string vS, .int .i64 vE]) ∧ Below W.heap.size W w'))
    :
    Calls Tryz.prog 5 #[.agg #[.bool aM, .string aS, .int .i64 aE, .bool bM, .string bS, .int .i64 bE], .agg #[.bool dM, .string dS, .int .i64 dE, .bool fM, .string fS, .int .i64 fE], .slice SA n cc] w fun r w' => r = .returned (.bool true) ∧ Below w.heap.size w w' := by
  have hn0 : decide ((20 : Int) < (n : Int)) = false := by simpa using hn
  go_enter Tryz.func5, Tryz.ntmps5
  go_upto_region 1 with (fail)
  have X1 := (Bx.new w 27 #[.bool aM, .string aS, .int .i64 aE, .bool bM, .string bS, .int .i64 bE]).alloc (.cells #[.bool dM, .string dS, .int .i64 dE, .bool fM, .string fS, .int .i64 fE] 27)
  have X2 := Bx.at1 w (.cells #[.bool aM, .string aS, .int .i64 aE, .bool bM, .string bS, .int .i64 bE] 27) 27 #[.bool dM, .string dS, .int .i64 dE, .bool fM, .string fS, .int .i64 fE]
  have hB := b2 w (.cells #[.bool aM, .string aS, .int .i64 aE, .bool bM, .string bS, .int .i64 bE] 27) (.cells #[.bool dM, .string dS, .int .i64 dE, .bool fM, .string fS, .int .i64 fE] 27)
  generalize (w.alloc (.cells #[.bool aM, .string aS, .int .i64 aE, .bool bM, .string bS, .int .i64 bE] 27)).alloc (.cells #[.bool dM, .string dS, .int .i64 dE, .bool fM, .string fS, .int .i64 fE] 27) = w0 at *
  obtain ⟨c1_0, c1_1, c1_2, c1_3, c1_4, c1_5, _, _, _, _, _, _⟩ := X1.k6
  obtain ⟨c2_0, c2_1, c2_2, c2_3, c2_4, c2_5, _, _, _, _, _, _⟩ := X2.k6
  have X3 := Bx.new w0 27 #[.bool aM, .string aS, .int .i64 aE, .bool bM, .string bS, .int .i64 bE, .bool dM, .string dS, .int .i64 dE, .bool fM, .string fS, .int .i64 fE]
  replace X1 := Bx.alloc X1 (.cells #[.bool aM, .string aS, .int .i64 aE, .bool bM, .string bS, .int .i64 bE, .bool dM, .string dS, .int .i64 dE, .bool fM, .string fS, .int .i64 fE] 27)
  replace X2 := Bx.alloc X2 (.cells #[.bool aM, .string aS, .int .i64 aE, .bool bM, .string bS, .int .i64 bE, .bool dM, .string dS, .int .i64 dE, .bool fM, .string fS, .int .i64 fE] 27)
  replace hB := nxtA hB (.cells #[.bool aM, .string aS, .int .i64 aE, .bool bM, .string bS, .int .i64 bE, .bool dM, .string dS, .int .i64 dE, .bool fM, .string fS, .int .i64 fE] 27)
  have HK := Lib.hid (And.intro X1 (And.intro X2 (And.intro X3 hB)))
  clear X1 X2 X3 hB
  go_wp2_with fail
  obtain ⟨X1, X2, X3, hB⟩ := HK.out
  clear HK
  clear c1_0 c1_1 c1_2 c1_3 c1_4 c1_5 c2_0 c2_1 c2_2 c2_3 c2_4 c2_5
  refine (cf.out _ _ X3).mono ?_
  rintro e w1 ⟨rfl, hb⟩
  replace X1 := X1.later hb
  replace X2 := X2.later hb
  replace X3 := X3.later hb
  replace hB := nxt hB hb
  clear hb
  generalize w0.heap.size = g4_ at *
  have HK := Lib.hid (And.intro X1 (And.intro X2 hB))
  clear X1 X2 hB
  go_wp2_with fail
  obtain ⟨X1, X2, hB⟩ := HK.out
  clear HK
  refine (cl.out _ hB).mono ?_
  rintro e w2 ⟨rfl, hb⟩
  replace X1 := X1.later hb
  replace X2 := X2.later hb
  replace hB := nxt hB hb
  clear hb
  obtain ⟨c5_0, c5_1, c5_2, c5_3, c5_4, c5_5, _, _, _, _, _, _⟩ := X1.k6
  obtain ⟨c6_0, c6_1, c6_2, c6_3, c6_4, c6_5, _, _, _, _, _, _⟩ := X2.k6
  have HK := Lib.hid (And.intro X1 (And.intro X2 hB))
  clear X1 X2 hB
  go_wp2_with fail
  obtain ⟨X1, X2, hB⟩ := HK.out
  clear HK
  clear c5_0 c5_1 c5_2 c5_3 c5_4 c5_5 c6_0 c6_1 c6_2 c6_3 c6_4 c6_5
  refine (c1.out _ hB).mono ?_
  rintro e w3 ⟨rfl, hb⟩
  replace X1 := X1.later hb
  replace X2 := X2.later hb
  replace hB := nxt hB hb
  clear hb
  have X4 := Bx.new w3 27 #[.bool false, .string ⟨#[]⟩, .int .i64 0, .bool false, .string ⟨#[]⟩, .int .i64 0]
  replace X1 := Bx.alloc X1 (.cells #[.bool false, .string ⟨#[]⟩, .int .i64 0, .bool false, .string ⟨#[]⟩, .int .i64 0] 27)
  replace X2 := Bx.alloc X2 (.cells #[.bool false, .string ⟨#[]⟩, .int .i64 0, .bool false, .string ⟨#[]⟩, .int .i64 0] 27)
  replace hB := nxtA hB (.cells #[.bool false, .string ⟨#[]⟩, .int .i64 0, .bool false, .string ⟨#[]⟩, .int .i64 0] 27)
  obtain ⟨c8_0, c8_1, c8_2, c8_3, c8_4, c8_5, _, _, _, _, _, _⟩ := X1.k6
  obtain ⟨c9_0, c9_1, c9_2, c9_3, c9_4, c9_5, _, _, _, _, _, _⟩ := X2.k6
  have HK := Lib.hid (And.intro X1 (And.intro X2 (And.intro X4 hB)))
  clear X1 X2 X4 hB
  go_wp2_with fail
  obtain ⟨X1, X2, X4, hB⟩ := HK.out
  clear HK
  clear c8_0 c8_1 c8_2 c8_3 c8_4 c8_5 c9_0 c9_1 c9_2 c9_3 c9_4 c9_5
  refine (c2.out _ hB).mono ?_
  rintro e w4 ⟨rfl, hb⟩
  replace X1 := X1.later hb
  replace X2 := X2.later hb
  replace X4 := X4.later hb
  replace hB := nxt hB hb
  clear hb
  generalize w3.heap.size = g10_ at *
  have X5 := Bx.new w4 27 #[.bool false, .string ⟨#[]⟩, .int .i64 0, .bool false, .string ⟨#[]⟩, .int .i64 0]
  replace X1 := Bx.alloc X1 (.cells #[.bool false, .string ⟨#[]⟩, .int .i64 0, .bool false, .string ⟨#[]⟩, .int .i64 0] 27)
  replace X2 := Bx.alloc X2 (.cells #[.bool false, .string ⟨#[]⟩, .int .i64 0, .bool false, .string ⟨#[]⟩, .int .i64 0] 27)
  replace X4 := Bx.alloc X4 (.cells #[.bool false, .string ⟨#[]⟩, .int .i64 0, .bool false, .string ⟨#[]⟩, .int .i64 0] 27)
  replace hB := nxtA hB (.cells #[.bool false, .string ⟨#[]⟩, .int .i64 0, .bool false, .string ⟨#[]⟩, .int .i64 0] 27)
  obtain ⟨c12_0, c12_1, c12_2, c12_3, c12_4, c12_5, _, _, _, _, _, _⟩ := X2.k6
  obtain ⟨c13_0, c13_1, c13_2, _, _, _, _, _, _, _, _, _⟩ := X1.k6
  have HK := Lib.hid (And.intro X1 (And.intro X2 (And.intro X4 (And.intro X5 hB))))
  clear X1 X2 X4 X5 hB
  go_wp2_with fail
  obtain ⟨X1, X2, X4, X5, hB⟩ := HK.out
  clear HK
  clear c12_0 c12_1 c12_2 c12_3 c12_4 c12_5 c13_0 c13_1 c13_2
  refine (c3.out _ hB).mono ?_
  rintro e w5 ⟨rfl, hb⟩
  replace X1 := X1.later hb
  replace X2 := X2.later hb
  replace X4 := X4.later hb
  replace X5 := X5.later hb
  replace hB := nxt hB hb
  clear hb
  generalize w4.heap.size = g14_ at *
  obtain ⟨c15_0, c15_1, c15_2, c15_3, c15_4, c15_5, _, _, _, _, _, _⟩ := X4.k6
  obtain ⟨c16_0, c16_1, c16_2, c16_3, c16_4, c16_5, _, _, _, _, _, _⟩ := X5.k6
  obtain ⟨c17_0, c17_1, c17_2, c17_3, c17_4, c17_5, _, _, _, _, _, _⟩ := X1.k6
  obtain ⟨c18_0, c18_1, c18_2, c18_3, c18_4, c18_5, _, _, _, _, _, _⟩ := X2.k6
  clear X1 X2 X4 X5
  have HK := Lib.hid hB
  clear hB
  go_wp2_with fail
  have hB := HK.out
  clear HK
  clear c15_0 c15_1 c15_2 c15_3 c15_4 c15_5 c16_0 c16_1 c16_2 c16_3 c16_4 c16_5 c17_0 c17_1 c17_2 c17_3 c17_4 c17_5 c18_0 c18_1 c18_2 c18_3 c18_4 c18_5
  refine (c4.out _ hB).mono ?_
  rintro e w6 ⟨rfl, hb⟩
  replace hB := nxt hB hb
  clear hb
  have HK := Lib.hid hB
  clear hB
  go_wp2_with fail
  have hB := HK.out
  clear HK
  refine (c5.out _ hB).mono ?_
  rintro e w7 ⟨rfl, hb⟩
  replace hB := nxt hB hb
  clear hb
  have HK := Lib.hid hB
  clear hB
  go_wp2_with fail
  have hB := HK.out
  clear HK
  refine (c6.out _ hB).mono ?_
  rintro e w8 ⟨rfl, hb⟩
  replace hB := nxt hB hb
  clear hb
  have HK := Lib.hid hB
  clear hB
  go_wp2_with fail
  have hB := HK.out
  clear HK
  refine (HA.out _ hB).mono ?_
  rintro e w9 ⟨rfl, hb⟩
  replace hB := nxt hB hb
  clear hb
  go_wp2
  go_ret
  exact ⟨rfl, hB⟩

end Go.Proofs.YtchfglbkiebfpaaGreatDoor

