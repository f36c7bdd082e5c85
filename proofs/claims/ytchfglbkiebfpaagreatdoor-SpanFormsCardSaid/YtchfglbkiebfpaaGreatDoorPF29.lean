/- The walks and plain laws beneath the statements. -/
import Derived.Test.YtchfglbkiebfpaaGreatDoorPF27
import Derived.Test.YtchfglbkiebfpaaGreatDoorPF28
namespace Go.Proofs.YtchfglbkiebfpaaGreatDoor
open Go.RowKit

set_option maxRecDepth 100000 in
set_option maxHeartbeats 1000000 in
theorem spanForms_a (aM bM cM : Bool) (aS bS cS : ByteArray) (aE bE cE : Int) (SA : Option Addr) (n cc : Nat) (w : World)
    (HA : Hid (∀ W : World, Below w.heap.size w W → Calls Tryz.prog 15 #[] W fun r w' => r = .returned (.bool true) ∧ Below W.heap.size W w'))
    (cf : Hid (∀ (W : World) (g : Nat), Bx W g 27 #[.bool aM, .string aS, .int .i64 aE, .bool bM, .string bS, .int .i64 bE] → Calls Tryz.prog 14 #[.slice (some ⟨g, 0, none⟩) 1 1] W fun r w' => r = .returned (.bool true) ∧ Below W.heap.size W w'))
    :
    Calls Tryz.prog 8 #[.agg #[.bool aM, .string aS, .int .i64 aE, .bool bM, .string bS, .int .i64 bE], .agg #[.bool cM, .string cS, .int .i64 cE], .slice SA n cc] w fun r w' => r = .returned (.bool true) ∧ Below w.heap.size w w' := by
  go_enter Tryz.func8, Tryz.ntmps8
  go_upto_region 1 with (fail)
  have X1 := (Bx.new w 27 #[.bool aM, .string aS, .int .i64 aE, .bool bM, .string bS, .int .i64 bE]).alloc (.cells #[.bool cM, .string cS, .int .i64 cE] 25)
  have X2 := Bx.at1 w (.cells #[.bool aM, .string aS, .int .i64 aE, .bool bM, .string bS, .int .i64 bE] 27) 25 #[.bool cM, .string cS, .int .i64 cE]
  have hB := b2 w (.cells #[.bool aM, .string aS, .int .i64 aE, .bool bM, .string bS, .int .i64 bE] 27) (.cells #[.bool cM, .string cS, .int .i64 cE] 25)
  generalize (w.alloc (.cells #[.bool aM, .string aS, .int .i64 aE, .bool bM, .string bS, .int .i64 bE] 27)).alloc (.cells #[.bool cM, .string cS, .int .i64 cE] 25) = w0 at *
  obtain ⟨c1_0, c1_1, c1_2, c1_3, c1_4, c1_5, _, _, _, _, _, _⟩ := X1.k6
  have X3 := Bx.new w0 27 #[.bool aM, .string aS, .int .i64 aE, .bool bM, .string bS, .int .i64 bE]
  replace X1 := Bx.alloc X1 (.cells #[.bool aM, .string aS, .int .i64 aE, .bool bM, .string bS, .int .i64 bE] 27)
  replace X2 := Bx.alloc X2 (.cells #[.bool aM, .string aS, .int .i64 aE, .bool bM, .string bS, .int .i64 bE] 27)
  replace hB := nxtA hB (.cells #[.bool aM, .string aS, .int .i64 aE, .bool bM, .string bS, .int .i64 bE] 27)
  clear X1
  have HK := Lib.hid (And.intro X2 (And.intro X3 hB))
  clear X2 X3 hB
  go_wp2_with fail
  obtain ⟨X2, X3, hB⟩ := HK.out
  clear HK
  clear c1_0 c1_1 c1_2 c1_3 c1_4 c1_5
  refine (cf.out _ _ X3).mono ?_
  rintro e w1 ⟨rfl, hb⟩
  replace X2 := X2.later hb
  replace X3 := X3.later hb
  replace hB := nxt hB hb
  clear hb
  generalize w0.heap.size = g3_ at *
  clear X2
  have HK := Lib.hid hB
  clear hB
  go_wp2_with fail
  have hB := HK.out
  clear HK
  refine (HA.out _ hB).mono ?_
  rintro e w2 ⟨rfl, hb⟩
  replace hB := nxt hB hb
  clear hb
  go_wp2
  go_ret
  exact ⟨rfl, hB⟩

set_option maxRecDepth 100000 in
set_option maxHeartbeats 1000000 in
theorem spanForms_b (aM bM cM : Bool) (aS bS cS : ByteArray) (aE bE cE : Int) (SA : Option Addr) (n cc : Nat) (w : World)
    (HA : Hid (∀ W : World, Below w.heap.size w W → Calls Tryz.prog 15 #[] W fun r w' => r = .returned (.bool true) ∧ Below W.heap.size W w'))
    (cf : Hid (∀ (W : World) (g : Nat), Bx W g 27 #[.bool aM, .string aS, .int .i64 aE, .bool bM, .string bS, .int .i64 bE] → Calls Tryz.prog 14 #[.slice (some ⟨g, 0, none⟩) 1 1] W fun r w' => r = .returned (.bool false) ∧ Below W.heap.size W w'))
    (ca : Hid (∀ (W : World) (g : Nat), Bx W g 25 #[.bool cM, .string cS, .int .i64 cE] → Calls Tryz.prog 22 #[.slice (some ⟨g, 0, none⟩) 1 1] W fun r w' => r = .returned (.bool true) ∧ Below W.heap.size W w'))
    :
    Calls Tryz.prog 8 #[.agg #[.bool aM, .string aS, .int .i64 aE, .bool bM, .string bS, .int .i64 bE], .agg #[.bool cM, .string cS, .int .i64 cE], .slice SA n cc] w fun r w' => r = .returned (.bool true) ∧ Below w.heap.size w w' := by
  go_enter Tryz.func8, Tryz.ntmps8
  go_upto_region 1 with (fail)
  have X1 := (Bx.new w 27 #[.bool aM, .string aS, .int .i64 aE, .bool bM, .string bS, .int .i64 bE]).alloc (.cells #[.bool cM, .string cS, .int .i64 cE] 25)
  have X2 := Bx.at1 w (.cells #[.bool aM, .string aS, .int .i64 aE, .bool bM, .string bS, .int .i64 bE] 27) 25 #[.bool cM, .string cS, .int .i64 cE]
  have hB := b2 w (.cells #[.bool aM, .string aS, .int .i64 aE, .bool bM, .string bS, .int .i64 bE] 27) (.cells #[.bool cM, .string cS, .int .i64 cE] 25)
  generalize (w.alloc (.cells #[.bool aM, .string aS, .int .i64 aE, .bool bM, .string bS, .int .i64 bE] 27)).alloc (.cells #[.bool cM, .string cS, .int .i64 cE] 25) = w0 at *
  obtain ⟨c1_0, c1_1, c1_2, c1_3, c1_4, c1_5, _, _, _, _, _, _⟩ := X1.k6
  have X3 := Bx.new w0 27 #[.bool aM, .string aS, .int .i64 aE, .bool bM, .string bS, .int .i64 bE]
  replace X1 := Bx.alloc X1 (.cells #[.bool aM, .string aS, .int .i64 aE, .bool bM, .string bS, .int .i64 bE] 27)
  replace X2 := Bx.alloc X2 (.cells #[.bool aM, .string aS, .int .i64 aE, .bool bM, .string bS, .int .i64 bE] 27)
  replace hB := nxtA hB (.cells #[.bool aM, .string aS, .int .i64 aE, .bool bM, .string bS, .int .i64 bE] 27)
  clear X1
  have HK := Lib.hid (And.intro X2 (And.intro X3 hB))
  clear X2 X3 hB
  go_wp2_with fail
  obtain ⟨X2, X3, hB⟩ := HK.out
  clear HK
  clear c1_0 c1_1 c1_2 c1_3 c1_4 c1_5
  refine (cf.out _ _ X3).mono ?_
  rintro e w1 ⟨rfl, hb⟩
  replace X2 := X2.later hb
  replace X3 := X3.later hb
  replace hB := nxt hB hb
  clear hb
  generalize w0.heap.size = g3_ at *
  obtain ⟨c4_0, c4_1, c4_2, _, _, _⟩ := X2.k3
  have X4 := Bx.new w1 25 #[.bool cM, .string cS, .int .i64 cE]
  replace X2 := Bx.alloc X2 (.cells #[.bool cM, .string cS, .int .i64 cE] 25)
  replace hB := nxtA hB (.cells #[.bool cM, .string cS, .int .i64 cE] 25)
  clear X2
  have HK := Lib.hid (And.intro X4 hB)
  clear X4 hB
  go_wp2_with fail
  obtain ⟨X4, hB⟩ := HK.out
  clear HK
  clear c4_0 c4_1 c4_2
  refine (ca.out _ _ X4).mono ?_
  rintro e w2 ⟨rfl, hb⟩
  replace X4 := X4.later hb
  replace hB := nxt hB hb
  clear hb
  generalize w1.heap.size = g6_ at *
  have HK := Lib.hid hB
  clear hB
  go_wp2_with fail
  have hB := HK.out
  clear HK
  refine (HA.out _ hB).mono ?_
  rintro e w3 ⟨rfl, hb⟩
  replace hB := nxt hB hb
  clear hb
  go_wp2
  go_ret
  exact ⟨rfl, hB⟩

set_option maxRecDepth 100000 in
set_option maxHeartbeats 1000000 in
theorem spanForms_c (aM bM cM : Bool) (aS bS cS : ByteArray) (aE bE cE : Int) (SA : Option Addr) (n cc : Nat) (hn : (20 : Int) < (n : Int)) (w : World)
    (HA : Hid (∀ W : World, Below w.heap.size w W → Calls Tryz.prog 15 #[] W fun r w' => r = .returned (.bool true) ∧ Below W.heap.size W w'))
    (cf : Hid (∀ (W : World) (g : Nat), Bx W g 27 #[.bool aM, .string aS, .int .i64 aE, .bool bM, .string bS, .int .i64 bE] → Calls Tryz.prog 14 #[.slice (some ⟨g, 0, none⟩) 1 1] W fun r w' => r = .returned (.bool false) ∧ Below W.heap.size W w'))
    (ca : Hid (∀ (W : World) (g : Nat), Bx W g 25 #[.bool cM, .string cS, .int .i64 cE] → Calls Tryz.prog 22 #[.slice (some ⟨g, 0, none⟩) 1 1] W fun r w' => r = .returned (.bool false) ∧ Below W.heap.size W w'))
    :
    Calls Tryz.prog 8 #[.agg #[.bool aM, .string aS, .int .i64 aE, .bool bM, .string bS, .int .i64 bE], .agg #[.bool cM, .string cS, .int .i64 cE], .slice SA n cc] w fun r w' => r = .returned (.bool true) ∧ Below w.heap.size w w' := by
  have hy0 : decide ((20 : Int) < (n : Int)) = true := by simpa using hn
  go_enter Tryz.func8, Tryz.ntmps8
  go_upto_region 1 with (fail)
  have X1 := (Bx.new w 27 #[.bool aM, .string aS, .int .i64 aE, .bool bM, .string bS, .int .i64 bE]).alloc (.cells #[.bool cM, .string cS, .int .i64 cE] 25)
  have X2 := Bx.at1 w (.cells #[.bool aM, .string aS, .int .i64 aE, .bool bM, .string bS, .int .i64 bE] 27) 25 #[.bool cM, .string cS, .int .i64 cE]
  have hB := b2 w (.cells #[.bool aM, .string aS, .int .i64 aE, .bool bM, .string bS, .int .i64 bE] 27) (.cells #[.bool cM, .string cS, .int .i64 cE] 25)
  generalize (w.alloc (.cells #[.bool aM, .string aS, .int .i64 aE, .bool bM, .string bS, .int .i64 bE] 27)).alloc (.cells #[.bool cM, .string cS, .int .i64 cE] 25) = w0 at *
  obtain ⟨c1_0, c1_1, c1_2, c1_3, c1_4, c1_5, _, _, _, _, _, _⟩ := X1.k6
  have X3 := Bx.new w0 27 #[.bool aM, .string aS, .int .i64 aE, .bool bM, .string bS, .int .i64 bE]
  replace X1 := Bx.alloc X1 (.cells #[.bool aM, .string aS, .int .i64 aE, .bool bM, .string bS, .int .i64 bE] 27)
  replace X2 := Bx.alloc X2 (.cells #[.bool aM, .string aS, .int .i64 aE, .bool bM, .string bS, .int .i64 bE] 27)
  replace hB := nxtA hB (.cells #[.bool aM, .string aS, .int .i64 aE, .bool bM, .string bS, .int .i64 bE] 27)
  clear X1
  have HK := Lib.hid (And.intro X2 (And.intro X3 hB))
  clear X2 X3 hB
  go_wp2_with fail
  obtain ⟨X2, X3, hB⟩ := HK.out
  clear HK
  clear c1_0 c1_1 c1_2 c1_3 c1_4 c1_5
  refine (cf.out _ _ X3).mono ?_
  rintro e w1 ⟨rfl, hb⟩
  replace X2 := X2.later hb
  replace X3 := X3.later hb
  replace hB := nxt hB hb
  clear hb
  generalize w0.heap.size = g3_ at *
  obtain ⟨c4_0, c4_1, c4_2, _, _, _⟩ := X2.k3
  have X4 := Bx.new w1 25 #[.bool cM, .string cS, .int .i64 cE]
  replace X2 := Bx.alloc X2 (.cells #[.bool cM, .string cS, .int .i64 cE] 25)
  replace hB := nxtA hB (.cells #[.bool cM, .string cS, .int .i64 cE] 25)
  clear X2
  have HK := Lib.hid (And.intro X4 hB)
  clear X4 hB
  go_wp2_with fail
  obtain ⟨X4, hB⟩ := HK.out
  clear HK
  clear c4_0 c4_1 c4_2
  refine (ca.out _ _ X4).mono ?_
  rintro e w2 ⟨rfl, hb⟩
  replace X4 := X4.later hb
  replace hB := nxt hB hb
  clear hb
  generalize w1.heap.size = g6_ at *
  have HK := Lib.hid hB
  clear hB
  go_wp2_with fail
  have hB := HK.out
  clear HK
  refine (HA.out _ hB).mono ?_
  rintro e w3 ⟨rfl, hb⟩
  replace hB := nxt hB hb
  clear hb
  go_wp2
  go_ret
  exact ⟨rfl, hB⟩

set_option maxRecDepth 100000 in
set_option maxHeartbeats 1000000 in
theorem spanForms_d (aM bM cM : Bool) (aS bS cS : ByteArray) (aE bE cE : Int) (SA : Option Addr) (n cc : Nat) (hn : ¬ (20 : Int) < (n : Int)) (w : World)
    (HA : Hid (∀ W : World, Below w.heap.size w W → Calls Tryz.prog 15 #[] W fun r w' => r = .returned (.bool true) ∧ Below W.heap.size W w'))
    (cf : Hid (∀ (W : World) (g : Nat), Bx W g 27 #[.bool aM, .string aS, .int .i64 aE, .bool bM, .string bS, .int .i64 bE] → Calls Tryz.prog 14 #[.slice (some ⟨g, 0, none⟩) 1 1] W fun r w' => r = .returned (.bool false) ∧ Below W.heap.size W w'))
    (ca : Hid (∀ (W : World) (g : Nat), Bx W g 25 #[.bool cM, .string cS, .int .i64 cE] → Calls Tryz.prog 22 #[.slice (some ⟨g, 0, none⟩) 1 1] W fun r w' => r = .returned (.bool false) ∧ Below W.heap.size W w'))
    (cl : Hid (∀ W : World, Below w.heap.size w W → Calls Tryz.prog 22 #[.slice SA n cc] W fun r w' => r = .returned (.bool true) ∧ Below W.heap.size W w'))
    :
    Calls Tryz.prog 8 #[.agg #[.bool aM, .string aS, .int .i64 aE, .bool bM, .string bS, .int .i64 bE], .agg #[.bool cM, .string cS, .int .i64 cE], .slice SA n cc] w fun r w' => r = .returned (.bool true) ∧ Below w.heap.size w w' := by
  have hn0 : decide ((20 : Int) < (n : Int)) = false := by simpa using hn
  go_enter Tryz.func8, Tryz.ntmps8
  go_upto_region 1 with (fail)
  have X1 := (Bx.new w 27 #[.bool aM, .string aS, .int .i64 aE, .bool bM, .string bS, .int .i64 bE]).alloc (.cells #[.bool cM, .string cS, .int .i64 cE] 25)
  have X2 := Bx.at1 w (.cells #[.bool aM, .string aS, .int .i64 aE, .bool bM, .string bS, .int .i64 bE] 27) 25 #[.bool cM, .string cS, .int .i64 cE]
  have hB := b2 w (.cells #[.bool aM, .string aS, .int .i64 aE, .bool bM, .string bS, .int .i64 bE] 27) (.cells #[.bool cM, .string cS, .int .i64 cE] 25)
  generalize (w.alloc (.cells #[.bool aM, .string aS, .int .i64 aE, .bool bM, .string bS, .int .i64 bE] 27)).alloc (.cells #[.bool cM, .string cS, .int .i64 cE] 25) = w0 at *
  obtain ⟨c1_0, c1_1, c1_2, c1_3, c1_4, c1_5, _, _, _, _, _, _⟩ := X1.k6
  have X3 := Bx.new w0 27 #[.bool aM, .string aS, .int .i64 aE, .bool bM, .string bS, .int .i64 bE]
  replace X1 := Bx.alloc X1 (.cells #[.bool aM, .string aS, .int .i64 aE, .bool bM, .string bS, .int .i64 bE] 27)
  replace X2 := Bx.alloc X2 (.cells #[.bool aM, .string aS, .int .i64 aE, .bool bM, .string bS, .int .i64 bE] 27)
  replace hB := nxtA hB (.cells #[.bool aM, .string aS, .int .i64 aE, .bool bM, .string bS, .int .i64 bE] 27)
  clear X1
  have HK := Lib.hid (And.intro X2 (And.intro X3 hB))
  clear X2 X3 hB
  go_wp2_with fail
  obtain ⟨X2, X3, hB⟩ := HK.out
  clear HK
  clear c1_0 c1_1 c1_2 c1_3 c1_4 c1_5
  refine (cf.out _ _ X3).mono ?_
  rintro e w1 ⟨rfl, hb⟩
  replace X2 := X2.later hb
  replace X3 := X3.later hb
  replace hB := nxt hB hb
  clear hb
  generalize w0.heap.size = g3_ at *
  obtain ⟨c4_0, c4_1, c4_2, _, _, _⟩ := X2.k3
  have X4 := Bx.new w1 25 #[.bool cM, .string cS, .int .i64 cE]
  replace X2 := Bx.alloc X2 (.cells #[.bool cM, .string cS, .int .i64 cE] 25)
  replace hB := nxtA hB (.cells #[.bool cM, .string cS, .int .i64 cE] 25)
  clear X2
  have HK := Lib.hid (And.intro X4 hB)
  clear X4 hB
  go_wp2_with fail
  obtain ⟨X4, hB⟩ := HK.out
  clear HK
  clear c4_0 c4_1 c4_2
  refine (ca.out _ _ X4).mono ?_
  rintro e w2 ⟨rfl, hb⟩
  replace X4 := X4.later hb
  replace hB := nxt hB hb
  clear hb
  generalize w1.heap.size = g6_ at *
  have HK := Lib.hid hB
  clear hB
  go_wp2_with fail
  have hB := HK.out
  clear HK
  refine (cl.out _ hB).mono ?_
  rintro e w3 ⟨rfl, hb⟩
  replace hB := nxt hB hb
  clear hb
  have HK := Lib.hid hB
  clear hB
  go_wp2_with fail
  have hB := HK.out
  clear HK
  refine (HA.out _ hB).mono ?_
  rintro e w4 ⟨rfl, hb⟩
  replace hB := nxt hB hb
  clear hb
  go_wp2
  go_ret
  exact ⟨rfl, hB⟩

set_option maxRecDepth 100000 in
set_option maxHeartbeats 1000000 in
theorem spanForms_main (aM bM cM xM yM uM vM mM kM : Bool) (aS bS cS xS yS uS vS mS kS : ByteArray) (aE bE cE xE yE uE vE mE kE : Int) (SA : Option Addr) (n cc : Nat) (B : Bool) (hn : ¬ (20 : Int) < (n : Int)) (w : World)
    (HA : Hid (∀ W : World, Below w.heap.size w W → Calls Tryz.prog 15 #[] W fun r w' => r = .returned (.bool true) ∧ Below W.heap.size W w'))
    (cf : Hid (∀ (W : World) (g : Nat), Bx W g 27 #[.bool aM, .string aS, .int .i64 aE, .bool bM, .string bS, .int .i64 bE] → Calls Tryz.prog 14 #[.slice (some ⟨g, 0, none⟩) 1 1] W fun r w' => r = .returned (.bool false) ∧ Below W.heap.size W w'))
    (ca : Hid (∀ (W : World) (g : Nat), Bx W g 25 #[.bool cM, .string cS, .int .i64 cE] → Calls Tryz.prog 22 #[.slice (some ⟨g, 0, none⟩) 1 1] W fun r w' => r = .returned (.bool false) ∧ Below W.heap.size W w'))
    (cl : Hid (∀ W : World, Below w.heap.size w W → Calls Tryz.prog 22 #[.slice SA n cc] W fun r w' => r = .returned (.bool false) ∧ Below W.heap.size W w'))
    (c1 : Hid (∀ W : World, Below w.heap.size w W → Calls Tryz.prog 40 #[.agg #[.bool aM, .string aS, .int .i64 aE, .bool bM, .string bS, .int .i64 bE]] W fun r w' => r = .returned (.agg #[.bool xM, .string xS, .int .i64 xE, .bool yM, .string yS, .int .i64 yE]) ∧ Below W.heap.size W w'))
    (c2 : Hid (∀ W : World, Below w.heap.size w W → Calls Tryz.prog 41 #[.agg #[.bool aM, .string aS, .int .i64 aE, .bool bM, .string bS, .int .i64 bE]] W fun r w' => r = .returned (.agg #[.bool xM, .string xS, .int .i64 xE, .bool yM, .string yS, .int .i64 yE]) ∧ Below W.heap.size W w'))
    (c3 : Hid (∀ W : World, Below w.heap.size w W → Calls Tryz.prog 37 #[.agg #[.bool aM, .string aS, .int .i64 aE, .bool bM, .string bS, .int .i64 bE], .agg #[.bool cM, .string cS, .int .i64 cE]] W fun r w' => r = .returned (.bool B) ∧ Below W.heap.size W w'))
    (c4 : Hid (∀ W : World, Below w.heap.size w W → Calls Tryz.prog 32 #[.agg #[.bool aM, .string aS, .int .i64 aE, .bool bM, .string bS, .int .i64 bE], .agg #[.bool cM, .string cS, .int .i64 cE]] W fun r w' => r = .returned (.bool B) ∧ Below W.heap.size W w'))
    (c5 : Hid (∀ W : World, Below w.heap.size w W → Calls Tryz.prog 42 #[.agg #[.bool aM, .string aS, .int .i64 aE, .bool bM, .string bS, .int .i64 bE]] W fun r w' => r = .returned (.agg #[.bool uM, .string uS, .int .i64 uE]) ∧ Below W.heap.size W w'))
    (c6 : Hid (∀ W : World, Below w.heap.size w W → Calls Tryz.prog 43 #[.agg #[.bool aM, .string aS, .int .i64 aE, .bool bM, .string bS, .int .i64 bE]] W fun r w' => r = .returned (.agg #[.bool uM, .string uS, .int .i64 uE]) ∧ Below W.heap.size W w'))
    (c7 : Hid (∀ W : World, Below w.heap.size w W → Calls Tryz.prog 44 #[.agg #[.bool aM, .string aS, .int .i64 aE, .bool bM, .string bS, .int .i64 bE]] W fun r w' => r = .returned (.agg #[.bool vM, .string vS, .int .i64 vE]) ∧ Below W.heap.size W w'))
    (c8 : Hid (∀ W : World, Below w.heap.size w W → Calls Tryz.prog 45 #[.agg #[.bool aM, .string aS, .int .i64 aE, .bool bM, .string bS, .int .i64 bE]] W fun r w' => r = .returned (.agg #[.bool vM, .string vS, .int .i64 vE]) ∧ Below W.heap.size W w'))
    (c9 : Hid (∀ W : World, Below w.heap.size w W → Calls Tryz.prog 46 #[.slice SA n cc] W fun r w' => r = .returned (.agg #[.bool mM, .string mS, .int .i64 mE, .bool kM, .string kS, .int .i64 kE]) ∧ Below W.heap.size W w'))
    (c10 : Hid (∀ W : World, Below w.heap.size w W → Calls Tryz.prog 47 #[.slice SA n cc] W fun r w' => r = .returned (.agg #[.bool mM, .string mS, .int .i64 mE, .bool kM, .string kS, .int .i64 kE]) ∧ Below W.heap.size W w'))
    :
    Calls Tryz.prog 8 #[.agg #[.bool aM, .string aS, .int .i64 aE, .bool bM, .string bS, .int .i64 bE], .agg #[.bool cM, .string cS, .int .i64 cE], .slice SA n cc] w fun r w' => r = .returned (.bool true) ∧ Below w.heap.size w w' := by
  have hn0 : decide ((20 : Int) < (n : Int)) = false := by simpa using hn
  go_enter Tryz.func8, Tryz.ntmps8
  go_upto_region 1 with (fail)
  have X1 := (Bx.new w 27 #[.bool aM, .string aS, .int .i64 aE, .bool bM, .string bS, .int .i64 bE]).alloc (.cells #[.bool cM, .string cS, .int .i64 cE] 25)
  have X2 := Bx.at1 w (.cells #[.bool aM, .string aS, .int .i64 aE, .bool bM, .string bS, .int .i64 bE] 27) 25 #[.bool cM, .string cS, .int .i64 cE]
  have hB := b2 w (.cells #[.bool aM, .string aS, .int .i64 aE, .bool bM, .string bS, .int .i64 bE] 27) (.cells #[.bool cM, .string cS, .int .i64 cE] 25)
  generalize (w.alloc (.cells #[.bool aM, .string aS, .int .i64 aE, .bool bM, .string bS, .int .i64 bE] 27)).alloc (.cells #[.bool cM, .string cS, .int .i64 cE] 25) = w0 at *
  obtain ⟨c1_0, c1_1, c1_2, c1_3, c1_4, c1_5, _, _, _, _, _, _⟩ := X1.k6
  have X3 := Bx.new w0 27 #[.bool aM, .string aS, .int .i64 aE, .bool bM, .string bS, .int .i64 bE]
  replace X1 := Bx.alloc X1 (.cells #[.bool aM, .string aS, .int .i64 aE, .bool bM, .string bS, .int .i64 bE] 27)
  replace X2 := Bx.alloc X2 (.cells #[.bool aM, .string aS, .int .i64 aE, .bool bM, .string bS, .int .i64 bE] 27)
  replace hB := nxtA hB (.cells #[.bool aM, .string aS, .int .i64 aE, .bool bM, .string bS, .int .i64 bE] 27)
  have HK := Lib.hid (And.intro X1 (And.intro X2 (And.intro X3 hB)))
  clear X1 X2 X3 hB
  go_wp2_with fail
  obtain ⟨X1, X2, X3, hB⟩ := HK.out
  clear HK
  clear c1_0 c1_1 c1_2 c1_3 c1_4 c1_5
  refine (cf.out _ _ X3).mono ?_
  rintro e w1 ⟨rfl, hb⟩
  replace X1 := X1.later hb
  replace X2 := X2.later hb
  replace X3 := X3.later hb
  replace hB := nxt hB hb
  clear hb
  generalize w0.heap.size = g3_ at *
  obtain ⟨c4_0, c4_1, c4_2, _, _, _⟩ := X2.k3
  have X4 := Bx.new w1 25 #[.bool cM, .string cS, .int .i64 cE]
  replace X1 := Bx.alloc X1 (.cells #[.bool cM, .string cS, .int .i64 cE] 25)
  replace X2 := Bx.alloc X2 (.cells #[.bool cM, .string cS, .int .i64 cE] 25)
  replace hB := nxtA hB (.cells #[.bool cM, .string cS, .int .i64 cE] 25)
  have HK := Lib.hid (And.intro X1 (And.intro X2 (And.intro X4 hB)))
  clear X1 X2 X4 hB
  go_wp2_with fail
  obtain ⟨X1, X2, X4, hB⟩ := HK.out
  clear HK
  clear c4_0 c4_1 c4_2
  refine (ca.out _ _ X4).mono ?_
  rintro e w2 ⟨rfl, hb⟩
  replace X1 := X1.later hb
  replace X2 := X2.later hb
  replace X4 := X4.later hb
  replace hB := nxt hB hb
  clear hb
  generalize w1.heap.size = g6_ at *
  have HK := Lib.hid (And.intro X1 (And.intro X2 hB))
  clear X1 X2 hB
  go_wp2_with fail
  obtain ⟨X1, X2, hB⟩ := HK.out
  clear HK
  refine (cl.out _ hB).mono ?_
  rintro e w3 ⟨rfl, hb⟩
  replace X1 := X1.later hb
  replace X2 := X2.later hb
  replace hB := nxt hB hb
  clear hb
  have HK := Lib.hid (And.intro X1 (And.intro X2 hB))
  clear X1 X2 hB
  go_upto_region 3 with (fail)
  obtain ⟨X1, X2, hB⟩ := HK.out
  clear HK
  refine wp_region_k [25, 26, 27, 28, 29, 30, 31, 32, 33, 34, 35, 36, 37, 38, 39, 40, 41, 42, 43, 44, 45, 46, 47, 48, 49, 50, 51, 52, 53, 54, 55, 56, 57, 58, 59, 60, 61, 62, 6] [.eq (.agg #[.bool aM, .string aS, .int .i64 aE, .bool bM, .string bS, .int .i64 bE]), .eq (.agg #[.bool xM, .string xS, .int .i64 xE, .bool yM, .string yS, .int .i64 yE]), .eq (.agg #[.bool aM, .string aS, .int .i64 aE, .bool bM, .string bS, .int .i64 bE]), .eq (.agg #[.bool xM, .string xS, .int .i64 xE, .bool yM, .string yS, .int .i64 yE]), .eq (.bool true), .eq (.bool true), .eq (.agg #[.bool aM, .string aS, .int .i64 aE, .bool bM, .string bS, .int .i64 bE]), .eq (.agg #[.bool cM, .string cS, .int .i64 cE]), .eq (.bool B), .eq (.agg #[.bool aM, .string aS, .int .i64 aE, .bool bM, .string bS, .int .i64 bE]), .eq (.agg #[.bool cM, .string cS, .int .i64 cE]), .eq (.bool B), .eq (.bool true), .eq (.bool true), .eq (.bool true), .eq (.agg #[.bool aM, .string aS, .int .i64 aE, .bool bM, .string bS, .int .i64 bE]), .eq (.agg #[.bool uM, .string uS, .int .i64 uE]), .eq (.agg #[.bool aM, .string aS, .int .i64 aE, .bool bM, .string bS, .int .i64 bE]), .eq (.agg #[.bool uM, .string uS, .int .i64 uE]), .eq (.bool true), .eq (.bool true), .eq (.bool true), .eq (.agg #[.bool aM, .string aS, .int .i64 aE, .bool bM, .string bS, .int .i64 bE]), .eq (.agg #[.bool vM, .string vS, .int .i64 vE]), .eq (.agg #[.bool aM, .string aS, .int .i64 aE, .bool bM, .string bS, .int .i64 bE]), .eq (.agg #[.bool vM, .string vS, .int .i64 vE]), .eq (.bool true), .eq (.bool true), .eq (.bool true), .eq (.slice SA n cc), .eq (.agg #[.bool mM, .string mS, .int .i64 mE, .bool kM, .string kS, .int .i64 kE]), .eq (.slice SA n cc), .eq (.agg #[.bool mM, .string mS, .int .i64 mE, .bool kM, .string kS, .int .i64 kE]), .eq (.bool true), .eq (.bool true), .eq (.bool true), .eq (.bool true), .eq (.bool true), .eq (.bool true)] 63 (by kernel_rfl) (by exact fun _ _ _ _ _ h => h) (by kernel_rfl) (by rfl) ?hop ?htail
  case hop =>
    intro A hA
    have hN : A.tmps.size = 63 := by rw [hA]; rfl
    have q2 : A.tmps.getD 2 undef = .slice SA n cc := by rw [hA]; rfl
    have q3 : A.tmps.getD 3 undef = .pointer (some ⟨w.heap.size, 0, none⟩) := by rw [hA]; rfl
    have q4 : A.tmps.getD 4 undef = .pointer (some ⟨w.heap.size + 1, 0, none⟩) := by rw [hA]; rfl
    clear hA
    refine ⟨?_, ?_, ?_, ?_, ?_, ?_, ?_, ?_, ?_, ?_, ?_, ?_, ?_, ?_, ?_, ?_, ?_, ?_, ?_, ?_, ?_, ?_, ?_, ?_, ?_, ?_, ?_, ?_, ?_, ?_, ?_, ?_, ?_, ?_, ?_, ?_, ?_, ?_, ?_, trivial⟩
    · refine kok hN fun u W ev ec ef E B hG hf => ?_
      exact k_val _ rfl rfl hG (by simp [go_sem, B 3 rfl rfl q3, (X1.later hG).cel]) rfl
    · refine kok hN fun u W ev ec ef E B hG hf => ?_
      exact k_cl rfl rfl (by simp [go_sem, ef, E 25 0 rfl rfl (hf 0 rfl)]) (c1.out W (nxt hB hG)) hG (fun _ _ => rfl)
    · refine kok hN fun u W ev ec ef E B hG hf => ?_
      exact k_val _ rfl rfl hG (by simp [go_sem, B 3 rfl rfl q3, (X1.later hG).cel]) rfl
    · refine kok hN fun u W ev ec ef E B hG hf => ?_
      exact k_cl rfl rfl (by simp [go_sem, ef, E 27 2 rfl rfl (hf 2 rfl)]) (c2.out W (nxt hB hG)) hG (fun _ _ => rfl)
    · refine kok hN fun u W ev ec ef E B hG hf => ?_
      exact k_val _ rfl rfl hG (by simp [go_sem, E 26 1 rfl rfl (hf 1 rfl), E 28 3 rfl rfl (hf 3 rfl)]) rfl
    · refine kok hN fun u W ev ec ef E B hG hf => ?_
      exact k_val _ rfl rfl hG (by simp [go_sem, E 29 4 rfl rfl (hf 4 rfl)]) rfl
    · refine kok hN fun u W ev ec ef E B hG hf => ?_
      exact k_val _ ⟨_, hf 5 rfl, rfl⟩ rfl hG (by simp [go_sem, B 3 rfl rfl q3, (X1.later hG).cel]) rfl
    · refine kok hN fun u W ev ec ef E B hG hf => ?_
      exact k_val _ ⟨_, hf 5 rfl, rfl⟩ rfl hG (by simp [go_sem, B 4 rfl rfl q4, (X2.later hG).cel]) rfl
    · refine kok hN fun u W ev ec ef E B hG hf => ?_
      exact k_cl ⟨_, hf 5 rfl, rfl⟩ rfl (by simp [go_sem, ef, E 31 6 rfl rfl (hf 6 rfl), E 32 7 rfl rfl (hf 7 rfl)]) (c3.out W (nxt hB hG)) hG (fun _ _ => rfl)
    · refine kok hN fun u W ev ec ef E B hG hf => ?_
      exact k_val _ ⟨_, hf 5 rfl, rfl⟩ rfl hG (by simp [go_sem, B 3 rfl rfl q3, (X1.later hG).cel]) rfl
    · refine kok hN fun u W ev ec ef E B hG hf => ?_
      exact k_val _ ⟨_, hf 5 rfl, rfl⟩ rfl hG (by simp [go_sem, B 4 rfl rfl q4, (X2.later hG).cel]) rfl
    · refine kok hN fun u W ev ec ef E B hG hf => ?_
      exact k_cl ⟨_, hf 5 rfl, rfl⟩ rfl (by simp [go_sem, ef, E 34 9 rfl rfl (hf 9 rfl), E 35 10 rfl rfl (hf 10 rfl)]) (c4.out W (nxt hB hG)) hG (fun _ _ => rfl)
    · refine kok hN fun u W ev ec ef E B hG hf => ?_
      exact k_val _ ⟨_, hf 5 rfl, rfl⟩ rfl hG (by simp [go_sem, E 33 8 rfl rfl (hf 8 rfl), E 36 11 rfl rfl (hf 11 rfl)]) rfl
    · refine kok hN fun u W ev ec ef E B hG hf => ?_
      exact k_val _ rfl rfl hG (by simp [go_sem, E 30 5 rfl rfl (hf 5 rfl), E 37 12 rfl rfl (hf 12 rfl)]) rfl
    · refine kok hN fun u W ev ec ef E B hG hf => ?_
      exact k_val _ rfl rfl hG (by simp [go_sem, E 38 13 rfl rfl (hf 13 rfl)]) rfl
    · refine kok hN fun u W ev ec ef E B hG hf => ?_
      exact k_val _ ⟨_, hf 14 rfl, rfl⟩ rfl hG (by simp [go_sem, B 3 rfl rfl q3, (X1.later hG).cel]) rfl
    · refine kok hN fun u W ev ec ef E B hG hf => ?_
      exact k_cl ⟨_, hf 14 rfl, rfl⟩ rfl (by simp [go_sem, ef, E 40 15 rfl rfl (hf 15 rfl)]) (c5.out W (nxt hB hG)) hG (fun _ _ => rfl)
    · refine kok hN fun u W ev ec ef E B hG hf => ?_
      exact k_val _ ⟨_, hf 14 rfl, rfl⟩ rfl hG (by simp [go_sem, B 3 rfl rfl q3, (X1.later hG).cel]) rfl
    · refine kok hN fun u W ev ec ef E B hG hf => ?_
      exact k_cl ⟨_, hf 14 rfl, rfl⟩ rfl (by simp [go_sem, ef, E 42 17 rfl rfl (hf 17 rfl)]) (c6.out W (nxt hB hG)) hG (fun _ _ => rfl)
    · refine kok hN fun u W ev ec ef E B hG hf => ?_
      exact k_val _ ⟨_, hf 14 rfl, rfl⟩ rfl hG (by simp [go_sem, E 41 16 rfl rfl (hf 16 rfl), E 43 18 rfl rfl (hf 18 rfl)]) rfl
    · refine kok hN fun u W ev ec ef E B hG hf => ?_
      exact k_val _ rfl rfl hG (by simp [go_sem, E 39 14 rfl rfl (hf 14 rfl), E 44 19 rfl rfl (hf 19 rfl)]) rfl
    · refine kok hN fun u W ev ec ef E B hG hf => ?_
      exact k_val _ rfl rfl hG (by simp [go_sem, E 45 20 rfl rfl (hf 20 rfl)]) rfl
    · refine kok hN fun u W ev ec ef E B hG hf => ?_
      exact k_val _ ⟨_, hf 21 rfl, rfl⟩ rfl hG (by simp [go_sem, B 3 rfl rfl q3, (X1.later hG).cel]) rfl
    · refine kok hN fun u W ev ec ef E B hG hf => ?_
      exact k_cl ⟨_, hf 21 rfl, rfl⟩ rfl (by simp [go_sem, ef, E 47 22 rfl rfl (hf 22 rfl)]) (c7.out W (nxt hB hG)) hG (fun _ _ => rfl)
    · refine kok hN fun u W ev ec ef E B hG hf => ?_
      exact k_val _ ⟨_, hf 21 rfl, rfl⟩ rfl hG (by simp [go_sem, B 3 rfl rfl q3, (X1.later hG).cel]) rfl
    · refine kok hN fun u W ev ec ef E B hG hf => ?_
      exact k_cl ⟨_, hf 21 rfl, rfl⟩ rfl (by simp [go_sem, ef, E 49 24 rfl rfl (hf 24 rfl)]) (c8.out W (nxt hB hG)) hG (fun _ _ => rfl)
    · refine kok hN fun u W ev ec ef E B hG hf => ?_
      exact k_val _ ⟨_, hf 21 rfl, rfl⟩ rfl hG (by simp [go_sem, E 48 23 rfl rfl (hf 23 rfl), E 50 25 rfl rfl (hf 25 rfl)]) rfl
    · refine kok hN fun u W ev ec ef E B hG hf => ?_
      exact k_val _ rfl rfl hG (by simp [go_sem, E 46 21 rfl rfl (hf 21 rfl), E 51 26 rfl rfl (hf 26 rfl)]) rfl
    · refine kok hN fun u W ev ec ef E B hG hf => ?_
      exact k_val _ rfl rfl hG (by simp [go_sem, E 52 27 rfl rfl (hf 27 rfl)]) rfl
    · refine kok hN fun u W ev ec ef E B hG hf => ?_
      exact k_val _ ⟨_, hf 28 rfl, rfl⟩ rfl hG (by simp [go_sem, B 2 rfl rfl q2]) rfl
    · refine kok hN fun u W ev ec ef E B hG hf => ?_
      exact k_cl ⟨_, hf 28 rfl, rfl⟩ rfl (by simp [go_sem, ef, E 54 29 rfl rfl (hf 29 rfl)]) (c9.out W (nxt hB hG)) hG (fun _ _ => rfl)
    · refine kok hN fun u W ev ec ef E B hG hf => ?_
      exact k_val _ ⟨_, hf 28 rfl, rfl⟩ rfl hG (by simp [go_sem, B 2 rfl rfl q2]) rfl
    · refine kok hN fun u W ev ec ef E B hG hf => ?_
      exact k_cl ⟨_, hf 28 rfl, rfl⟩ rfl (by simp [go_sem, ef, E 56 31 rfl rfl (hf 31 rfl)]) (c10.out W (nxt hB hG)) hG (fun _ _ => rfl)
    · refine kok hN fun u W ev ec ef E B hG hf => ?_
      exact k_val _ ⟨_, hf 28 rfl, rfl⟩ rfl hG (by simp [go_sem, E 55 30 rfl rfl (hf 30 rfl), E 57 32 rfl rfl (hf 32 rfl)]) rfl
    · refine kok hN fun u W ev ec ef E B hG hf => ?_
      exact k_val _ rfl rfl hG (by simp [go_sem, E 53 28 rfl rfl (hf 28 rfl), E 58 33 rfl rfl (hf 33 rfl)]) rfl
    · refine kok hN fun u W ev ec ef E B hG hf => ?_
      exact k_val _ rfl rfl hG (by simp [go_sem, E 59 34 rfl rfl (hf 34 rfl)]) rfl
    · refine kok hN fun u W ev ec ef E B hG hf => ?_
      exact k_cl ⟨_, hf 35 rfl, rfl⟩ rfl (by simp [go_sem, ef]) (HA.out W (nxt hB hG)) hG (fun _ _ => rfl)
    · refine kok hN fun u W ev ec ef E B hG hf => ?_
      exact k_val _ rfl rfl hG (by simp [go_sem, E 60 35 rfl rfl (hf 35 rfl), E 61 36 rfl rfl (hf 36 rfl)]) rfl
    · refine kok hN fun u W ev ec ef E B hG hf => ?_
      exact k_val _ rfl rfl hG (by simp [go_sem, E 62 37 rfl rfl (hf 37 rfl)]) rfl
  case htail =>
    intro u w4 hG hP hD
    have f6 : u 38 = .bool true := hP 38 (by decide)
    simp only [putAll, Act.put, List.setIfInBounds_toArray, List.set_cons_zero, List.set_cons_succ, List.length_cons, List.length_nil, Nat.reduceAdd, List.drop_succ_cons, List.drop_zero, f6]
    replace X1 := X1.later hG
    replace X2 := X2.later hG
    replace hB := nxt hB hG
    clear hP hD hG f6
    clear X1 X2
    go_wp2
    go_ret
    exact ⟨rfl, hB⟩

end Go.Proofs.YtchfglbkiebfpaaGreatDoor

