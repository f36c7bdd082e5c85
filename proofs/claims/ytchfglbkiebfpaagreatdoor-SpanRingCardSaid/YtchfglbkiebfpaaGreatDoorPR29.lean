/- The walks and plain laws beneath the statements. -/
import Derived.Test.YtchfglbkiebfpaaGreatDoorPR27
import Derived.Test.YtchfglbkiebfpaaGreatDoorPR28
namespace Go.Proofs.YtchfglbkiebfpaaGreatDoor
open Go.RowKit

set_option maxRecDepth 100000 in
set_option maxHeartbeats 1000000 in
theorem spanRing_a (aM bM dM fM : Bool) (aS bS dS fS : ByteArray) (aE bE dE fE : Int) (SA : Option Addr) (n c : Nat) (w : World)
    (HA : Hid (∀ W : World, Below w.heap.size w W → Calls Tryz.prog 15 #[] W fun r w' => r = .returned (.bool true) ∧ Below W.heap.size W w'))
    (cf : Hid (∀ (W : World) (g : Nat), Bx W g 27 #[.bool aM, .string aS, .int .i64 aE, .bool bM, .string bS, .int .i64 bE, .bool dM, .string dS, .int .i64 dE, .bool fM, .string fS, .int .i64 fE] → Calls Tryz.prog 14 #[.slice (some ⟨g, 0, none⟩) 2 2] W fun r w' => r = .returned (.bool true) ∧ Below W.heap.size W w'))
    :
    Calls Tryz.prog 3 #[.agg #[.bool aM, .string aS, .int .i64 aE, .bool bM, .string bS, .int .i64 bE], .agg #[.bool dM, .string dS, .int .i64 dE, .bool fM, .string fS, .int .i64 fE], .slice SA n c] w fun r w' => r = .returned (.bool true) ∧ Below w.heap.size w w' := by
  go_enter Tryz.func3, Tryz.ntmps3
  go_upto_region 1 with (fail)
  have X1 := (Bx.new w 27 #[.bool aM, .string aS, .int .i64 aE, .bool bM, .string bS, .int .i64 bE]).alloc (.cells #[.bool dM, .string dS, .int .i64 dE, .bool fM, .string fS, .int .i64 fE] 27)
  have X2 := Bx.at1 w (.cells #[.bool aM, .string aS, .int .i64 aE, .bool bM, .string bS, .int .i64 bE] 27) 27 #[.bool dM, .string dS, .int .i64 dE, .bool fM, .string fS, .int .i64 fE]
  have hB := b2 w (.cells #[.bool aM, .string aS, .int .i64 aE, .bool bM, .string bS, .int .i64 bE] 27) (.cells #[.bool dM, .string dS, .int .i64 dE, .bool fM, .string fS, .int .i64 fE] 27)
  generalize (w.alloc (.cells #[.bool aM, .string aS, .int .i64 aE, .bool bM, .string bS, .int .i64 bE] 27)).alloc (.cells #[.bool dM, .string dS, .int .i64 dE, .bool fM, .string fS, .int .i64 fE] 27) = w0 at *
  obtain ⟨c1_0, c1_1, c1_2, c1_3, c1_4, c1_5, _, _, _, _, _, _⟩ := X1.k6
  obtain ⟨c2_0, c2_1, c2_2, c2_3, c2_4, c2_5, _, _, _, _, _, _⟩ := X2.k6
  have X3 := Bx.new w0 27 #[.bool aM, .string aS, .int .i64 aE, .bool bM, .string bS, .int .i64 bE, .bool dM, .string dS, .int .i64 dE, .bool fM, .string fS, .int .i64 fE]
  replace X1 := Bx.alloc X1 (.cells #[.bool aM, .string aS, .int .i64 aE, .bool bM, .string bS, .int .i64 bE, .bool dM, .string dS, .int .i64 dE, .bool fM, .string fS, .int .i64 fE] 27)
  replace X2 := Bx.alloc X2 (.cells #[.bool aM, .string aS, .int .i64 aE, .bool bM, .string bS, .int .i64 bE, .bool dM, .string dS, .int .i64 dE, .bool fM, .string fS, .int .i64 fE] 27)
  replace hB := nxtA hB (.cells #[.bool aM, .string aS, .int .i64 aE, .bool bM, .string bS, .int .i64 bE, .bool dM, .string dS, .int .i64 dE, .bool fM, .string fS, .int .i64 fE] 27)
  clear X1 X2
  have HK := Lib.hid (And.intro X3 hB)
  clear X3 hB
  go_wp2_with fail
  obtain ⟨X3, hB⟩ := HK.out
  clear HK
  clear c1_0 c1_1 c1_2 c1_3 c1_4 c1_5 c2_0 c2_1 c2_2 c2_3 c2_4 c2_5
  refine (cf.out _ _ X3).mono ?_
  rintro e w1 ⟨rfl, hb⟩
  replace X3 := X3.later hb
  replace hB := nxt hB hb
  clear hb
  generalize w0.heap.size = g4_ at *
  have HK := Lib.hid hB
  clear hB
  go_wp2_with fail
  have hB := HK.out
  clear HK
  refine (HA.out _ hB).mono ?_
  rintro e w2 ⟨rfl, hb⟩
  replace hB := nxt hB hb
  clear hb
  go_wp2
  go_ret
  exact ⟨rfl, hB⟩

set_option maxRecDepth 100000 in
set_option maxHeartbeats 1000000 in
theorem spanRing_b (aM bM dM fM : Bool) (aS bS dS fS : ByteArray) (aE bE dE fE : Int) (SA : Option Addr) (n c : Nat) (hn : (20 : Int) < (n : Int)) (w : World)
    (HA : Hid (∀ W : World, Below w.heap.size w W → Calls Tryz.prog 15 #[] W fun r w' => r = .returned (.bool true) ∧ Below W.heap.size W w'))
    (cf : Hid (∀ (W : World) (g : Nat), Bx W g 27 #[.bool aM, .string aS, .int .i64 aE, .bool bM, .string bS, .int .i64 bE, .bool dM, .string dS, .int .i64 dE, .bool fM, .string fS, .int .i64 fE] → Calls Tryz.prog 14 #[.slice (some ⟨g, 0, none⟩) 2 2] W fun r w' => r = .returned (.bool false) ∧ Below W.heap.size W w'))
    :
    Calls Tryz.prog 3 #[.agg #[.bool aM, .string aS, .int .i64 aE, .bool bM, .string bS, .int .i64 bE], .agg #[.bool dM, .string dS, .int .i64 dE, .bool fM, .string fS, .int .i64 fE], .slice SA n c] w fun r w' => r = .returned (.bool true) ∧ Below w.heap.size w w' := by
  have hy0 : decide ((20 : Int) < (n : Int)) = true := by simpa using hn
  go_enter Tryz.func3, Tryz.ntmps3
  go_upto_region 1 with (fail)
  have X1 := (Bx.new w 27 #[.bool aM, .string aS, .int .i64 aE, .bool bM, .string bS, .int .i64 bE]).alloc (.cells #[.bool dM, .string dS, .int .i64 dE, .bool fM, .string fS, .int .i64 fE] 27)
  have X2 := Bx.at1 w (.cells #[.bool aM, .string aS, .int .i64 aE, .bool bM, .string bS, .int .i64 bE] 27) 27 #[.bool dM, .string dS, .int .i64 dE, .bool fM, .string fS, .int .i64 fE]
  have hB := b2 w (.cells #[.bool aM, .string aS, .int .i64 aE, .bool bM, .string bS, .int .i64 bE] 27) (.cells #[.bool dM, .string dS, .int .i64 dE, .bool fM, .string fS, .int .i64 fE] 27)
  generalize (w.alloc (.cells #[.bool aM, .string aS, .int .i64 aE, .bool bM, .string bS, .int .i64 bE] 27)).alloc (.cells #[.bool dM, .string dS, .int .i64 dE, .bool fM, .string fS, .int .i64 fE] 27) = w0 at *
  obtain ⟨c1_0, c1_1, c1_2, c1_3, c1_4, c1_5, _, _, _, _, _, _⟩ := X1.k6
  obtain ⟨c2_0, c2_1, c2_2, c2_3, c2_4, c2_5, _, _, _, _, _, _⟩ := X2.k6
  have X3 := Bx.new w0 27 #[.bool aM, .string aS, .int .i64 aE, .bool bM, .string bS, .int .i64 bE, .bool dM, .string dS, .int .i64 dE, .bool fM, .string fS, .int .i64 fE]
  replace X1 := Bx.alloc X1 (.cells #[.bool aM, .string aS, .int .i64 aE, .bool bM, .string bS, .int .i64 bE, .bool dM, .string dS, .int .i64 dE, .bool fM, .string fS, .int .i64 fE] 27)
  replace X2 := Bx.alloc X2 (.cells #[.bool aM, .string aS, .int .i64 aE, .bool bM, .string bS, .int .i64 bE, .bool dM, .string dS, .int .i64 dE, .bool fM, .string fS, .int .i64 fE] 27)
  replace hB := nxtA hB (.cells #[.bool aM, .string aS, .int .i64 aE, .bool bM, .string bS, .int .i64 bE, .bool dM, .string dS, .int .i64 dE, .bool fM, .string fS, .int .i64 fE] 27)
  clear X1 X2
  have HK := Lib.hid (And.intro X3 hB)
  clear X3 hB
  go_wp2_with fail
  obtain ⟨X3, hB⟩ := HK.out
  clear HK
  clear c1_0 c1_1 c1_2 c1_3 c1_4 c1_5 c2_0 c2_1 c2_2 c2_3 c2_4 c2_5
  refine (cf.out _ _ X3).mono ?_
  rintro e w1 ⟨rfl, hb⟩
  replace X3 := X3.later hb
  replace hB := nxt hB hb
  clear hb
  generalize w0.heap.size = g4_ at *
  have HK := Lib.hid hB
  clear hB
  go_wp2_with fail
  have hB := HK.out
  clear HK
  refine (HA.out _ hB).mono ?_
  rintro e w2 ⟨rfl, hb⟩
  replace hB := nxt hB hb
  clear hb
  go_wp2
  go_ret
  exact ⟨rfl, hB⟩

set_option maxRecDepth 100000 in
set_option maxHeartbeats 1000000 in
theorem spanRing_c (aM bM dM fM : Bool) (aS bS dS fS : ByteArray) (aE bE dE fE : Int) (SA : Option Addr) (n c : Nat) (hn : ¬ (20 : Int) < (n : Int)) (w : World)
    (HA : Hid (∀ W : World, Below w.heap.size w W → Calls Tryz.prog 15 #[] W fun r w' => r = .returned (.bool true) ∧ Below W.heap.size W w'))
    (cf : Hid (∀ (W : World) (g : Nat), Bx W g 27 #[.bool aM, .string aS, .int .i64 aE, .bool bM, .string bS, .int .i64 bE, .bool dM, .string dS, .int .i64 dE, .bool fM, .string fS, .int .i64 fE] → Calls Tryz.prog 14 #[.slice (some ⟨g, 0, none⟩) 2 2] W fun r w' => r = .returned (.bool false) ∧ Below W.heap.size W w'))
    (cl : Hid (∀ W : World, Below w.heap.size w W → Calls Tryz.prog 14 #[.slice SA n c] W fun r w' => r = .returned (.bool true) ∧ Below W.heap.size W w'))
    :
    Calls Tryz.prog 3 #[.agg #[.bool aM, .string aS, .int .i64 aE, .bool bM, .string bS, .int .i64 bE], .agg #[.bool dM, .string dS, .int .i64 dE, .bool fM, .string fS, .int .i64 fE], .slice SA n c] w fun r w' => r = .returned (.bool true) ∧ Below w.heap.size w w' := by
  have hn0 : decide ((20 : Int) < (n : Int)) = false := by simpa using hn
  go_enter Tryz.func3, Tryz.ntmps3
  go_upto_region 1 with (fail)
  have X1 := (Bx.new w 27 #[.bool aM, .string aS, .int .i64 aE, .bool bM, .string bS, .int .i64 bE]).alloc (.cells #[.bool dM, .string dS, .int .i64 dE, .bool fM, .string fS, .int .i64 fE] 27)
  have X2 := Bx.at1 w (.cells #[.bool aM, .string aS, .int .i64 aE, .bool bM, .string bS, .int .i64 bE] 27) 27 #[.bool dM, .string dS, .int .i64 dE, .bool fM, .string fS, .int .i64 fE]
  have hB := b2 w (.cells #[.bool aM, .string aS, .int .i64 aE, .bool bM, .string bS, .int .i64 bE] 27) (.cells #[.bool dM, .string dS, .int .i64 dE, .bool fM, .string fS, .int .i64 fE] 27)
  generalize (w.alloc (.cells #[.bool aM, .string aS, .int .i64 aE, .bool bM, .string bS, .int .i64 bE] 27)).alloc (.cells #[.bool dM, .string dS, .int .i64 dE, .bool fM, .string fS, .int .i64 fE] 27) = w0 at *
  obtain ⟨c1_0, c1_1, c1_2, c1_3, c1_4, c1_5, _, _, _, _, _, _⟩ := X1.k6
  obtain ⟨c2_0, c2_1, c2_2, c2_3, c2_4, c2_5, _, _, _, _, _, _⟩ := X2.k6
  have X3 := Bx.new w0 27 #[.bool aM, .string aS, .int .i64 aE, .bool bM, .string bS, .int .i64 bE, .bool dM, .string dS, .int .i64 dE, .bool fM, .string fS, .int .i64 fE]
  replace X1 := Bx.alloc X1 (.cells #[.bool aM, .string aS, .int .i64 aE, .bool bM, .string bS, .int .i64 bE, .bool dM, .string dS, .int .i64 dE, .bool fM, .string fS, .int .i64 fE] 27)
  replace X2 := Bx.alloc X2 (.cells #[.bool aM, .string aS, .int .i64 aE, .bool bM, .string bS, .int .i64 bE, .bool dM, .string dS, .int .i64 dE, .bool fM, .string fS, .int .i64 fE] 27)
  replace hB := nxtA hB (.cells #[.bool aM, .string aS, .int .i64 aE, .bool bM, .string bS, .int .i64 bE, .bool dM, .string dS, .int .i64 dE, .bool fM, .string fS, .int .i64 fE] 27)
  clear X1 X2
  have HK := Lib.hid (And.intro X3 hB)
  clear X3 hB
  go_wp2_with fail
  obtain ⟨X3, hB⟩ := HK.out
  clear HK
  clear c1_0 c1_1 c1_2 c1_3 c1_4 c1_5 c2_0 c2_1 c2_2 c2_3 c2_4 c2_5
  refine (cf.out _ _ X3).mono ?_
  rintro e w1 ⟨rfl, hb⟩
  replace X3 := X3.later hb
  replace hB := nxt hB hb
  clear hb
  generalize w0.heap.size = g4_ at *
  have HK := Lib.hid hB
  clear hB
  go_wp2_with fail
  have hB := HK.out
  clear HK
  refine (cl.out _ hB).mono ?_
  rintro e w2 ⟨rfl, hb⟩
  replace hB := nxt hB hb
  clear hb
  have HK := Lib.hid hB
  clear hB
  go_wp2_with fail
  have hB := HK.out
  clear HK
  refine (HA.out _ hB).mono ?_
  rintro e w3 ⟨rfl, hb⟩
  replace hB := nxt hB hb
  clear hb
  go_wp2
  go_ret
  exact ⟨rfl, hB⟩

set_option maxRecDepth 100000 in
set_option maxHeartbeats 1000000 in
theorem spanRing_main (aM bM dM fM xM yM uM vM mM kM : Bool) (aS bS dS fS xS yS uS vS mS kS : ByteArray) (aE bE dE fE xE yE uE vE mE kE : Int) (SA : Option Addr) (n c : Nat) (hn : ¬ (20 : Int) < (n : Int)) (w : World)
    (HA : Hid (∀ W : World, Below w.heap.size w W → Calls Tryz.prog 15 #[] W fun r w' => r = .returned (.bool true) ∧ Below W.heap.size W w'))
    (cf : Hid (∀ (W : World) (g : Nat), Bx W g 27 #[.bool aM, .string aS, .int .i64 aE, .bool bM, .string bS, .int .i64 bE, .bool dM, .string dS, .int .i64 dE, .bool fM, .string fS, .int .i64 fE] → Calls Tryz.prog 14 #[.slice (some ⟨g, 0, none⟩) 2 2] W fun r w' => r = .returned (.bool false) ∧ Below W.heap.size W w'))
    (cl : Hid (∀ W : World, Below w.heap.size w W → Calls Tryz.prog 14 #[.slice SA n c] W fun r w' => r = .returned (.bool false) ∧ Below W.heap.size W w'))
    (c1 : Hid (∀ W : World, Below w.heap.size w W → Calls Tryz.prog 16 #[.slice SA n c] W fun r w' => r = .returned (.agg #[.bool xM, .string xS, .int .i64 xE, .bool yM, .string yS, .int .i64 yE]) ∧ Below W.heap.size W w'))
    (c2 : Hid (∀ W : World, Below w.heap.size w W → Calls Tryz.prog 17 #[.slice SA n c] W fun r w' => r = .returned (.agg #[.bool xM, .string xS, .int .i64 xE, .bool yM, .string yS, .int .i64 yE]) ∧ Below W.heap.size W w'))
    (c3 : Hid (∀ W : World, Below w.heap.size w W → Calls Tryz.prog 18 #[.agg #[.bool aM, .string aS, .int .i64 aE, .bool bM, .string bS, .int .i64 bE]] W fun r w' => r = .returned (.agg #[.bool uM, .string uS, .int .i64 uE, .bool vM, .string vS, .int .i64 vE]) ∧ Below W.heap.size W w'))
    (c4 : Hid (∀ W : World, Below w.heap.size w W → Calls Tryz.prog 19 #[.agg #[.bool aM, .string aS, .int .i64 aE, .bool bM, .string bS, .int .i64 bE]] W fun r w' => r = .returned (.agg #[.bool uM, .string uS, .int .i64 uE, .bool vM, .string vS, .int .i64 vE]) ∧ Below W.heap.size W w'))
    (c5 : Hid (∀ W : World, Below w.heap.size w W → Calls Tryz.prog 20 #[.agg #[.bool aM, .string aS, .int .i64 aE, .bool bM, .string bS, .int .i64 bE], .agg #[.bool dM, .string dS, .int .i64 dE, .bool fM, .string fS, .int .i64 fE]] W fun r w' => r = .returned (.agg #[.bool mM, .string mS, .int .i64 mE, .bool kM, .string kS, .int .i64 kE]) ∧ Below W.heap.size W w'))
    (c6 : Hid (∀ W : World, Below w.heap.size w W → Calls Tryz.prog 21 #[.agg #[.bool aM, .string aS, .int .i64 aE, .bool bM, .string bS, .int .i64 bE], .agg #[.bool dM, .string dS, .int .i64 dE, .bool fM, .string fS, .int .i64 fE]] W fun r w' => r = .returned (.agg #[.bool mM, .string mS, .int .i64 mE, .bool kM, .string kS, .int .i64 kE]) ∧ Below W.heap.size W w'))
    :
    Calls Tryz.prog 3 #[.agg #[.bool aM, .string aS, .int .i64 aE, .bool bM, .string bS, .int .i64 bE], .agg #[.bool dM, .string dS, .int .i64 dE, .bool fM, .string fS, .int .i64 fE], .slice SA n c] w fun r w' => r = .returned (.bool true) ∧ Below w.heap.size w w' := by
  have hn0 : decide ((20 : Int) < (n : Int)) = false := by simpa using hn
  go_enter Tryz.func3, Tryz.ntmps3
  go_upto_region 1 with (fail)
  have X1 := (Bx.new w 27 #[.bool aM, .string aS, .int .i64 aE, .bool bM, .string bS, .int .i64 bE]).alloc (.cells #[.bool dM, .string dS, .int .i64 dE, .bool fM, .string fS, .int .i64 fE] 27)
  have X2 := Bx.at1 w (.cells #[.bool aM, .string aS, .int .i64 aE, .bool bM, .string bS, .int .i64 bE] 27) 27 #[.bool dM, .string dS, .int .i64 dE, .bool fM, .string fS, .int .i64 fE]
  have hB := b2 w (.cells #[.bool aM, .string aS, .int .i64 aE, .bool bM, .string bS, .int .i64 bE] 27) (.cells #[.bool dM, .string dS, .int .i64 dE, .bool fM, .string fS, .int .i64 fE] 27)
  generalize (w.alloc (.cells #[.bool aM, .string aS, .int .i64 aE, .bool bM, .string bS, .int .i64 bE] 27)).alloc (.cells #[.bool dM, .string dS, .int .i64 dE, .bool fM, .string fS, .int .i64 fE] 27) = w0 at *
  obtain ⟨c1_0, c1_1, c1_2, c1_3, c1_4, c1_5, _, _, _, _, _, _⟩ := X1.k6
  obtain ⟨c2_0, c2_1, c2_2, c2_3, c2_4, c2_5, _, _, _, _, _, _⟩ := X2.k6
  have X3 := Bx.new w0 27 #[.bool aM, .string aS, .int .i64 aE, .bool bM, .string bS, .int .i64 bE, .bool dM, .string dS, .int .i64 dE, .bool fM, .string fS, .int .i64 fE]
  replace X1 := Bx.alloc X1 (.cells #[.bool aM, .string aS, .int .i64 aE, .bool bM, .string bS, .int .i64 bE, .bool dM, .string dS, .int .i64 dE, .bool fM, .string fS, .int .i64 fE] 27)
  replace X2 := Bx.alloc X2 (.cells #[.bool aM, .string aS, .int .i64 aE, .bool bM, .string bS, .int .i64 bE, .bool dM, .string dS, .int .i64 dE, .bool fM, .string fS, .int .i64 fE] 27)
  replace hB := nxtA hB (.cells #[.bool aM, .string aS, .int .i64 aE, .bool bM, .string bS, .int .i64 bE, .bool dM, .string dS, .int .i64 dE, .bool fM, .string fS, .int .i64 fE] 27)
  have HK := Lib.hid (And.intro X1 (And.intro X2 (And.intro X3 hB)))
  clear X1 X2 X3 hB
  go_wp2_with fail
  obtain ⟨X1, X2, X3, hB⟩ := HK.out
  clear HK
  clear c1_0 c1_1 c1_2 c1_3 c1_4 c1_5 c2_0 c2_1 c2_2 c2_3 c2_4 c2_5
  refine (cf.out _ _ X3).mono ?_
  rintro e w1 ⟨rfl, hb⟩
  replace X1 := X1.later hb
  replace X2 := X2.later hb
  replace X3 := X3.later hb
  replace hB := nxt hB hb
  clear hb
  generalize w0.heap.size = g4_ at *
  have HK := Lib.hid (And.intro X1 (And.intro X2 hB))
  clear X1 X2 hB
  go_wp2_with fail
  obtain ⟨X1, X2, hB⟩ := HK.out
  clear HK
  refine (cl.out _ hB).mono ?_
  rintro e w2 ⟨rfl, hb⟩
  replace X1 := X1.later hb
  replace X2 := X2.later hb
  replace hB := nxt hB hb
  clear hb
  have HK := Lib.hid (And.intro X1 (And.intro X2 hB))
  clear X1 X2 hB
  go_upto_region 3 with (fail)
  obtain ⟨X1, X2, hB⟩ := HK.out
  clear HK
  refine wp_region_k [21, 22, 23, 24, 25, 26, 27, 28, 29, 30, 31, 32, 33, 34, 35, 36, 37, 38, 39, 40, 41, 42, 43, 44, 6] [.eq (.slice SA n c), .eq (.agg #[.bool xM, .string xS, .int .i64 xE, .bool yM, .string yS, .int .i64 yE]), .eq (.slice SA n c), .eq (.agg #[.bool xM, .string xS, .int .i64 xE, .bool yM, .string yS, .int .i64 yE]), .eq (.bool true), .eq (.bool true), .eq (.agg #[.bool aM, .string aS, .int .i64 aE, .bool bM, .string bS, .int .i64 bE]), .eq (.agg #[.bool uM, .string uS, .int .i64 uE, .bool vM, .string vS, .int .i64 vE]), .eq (.agg #[.bool aM, .string aS, .int .i64 aE, .bool bM, .string bS, .int .i64 bE]), .eq (.agg #[.bool uM, .string uS, .int .i64 uE, .bool vM, .string vS, .int .i64 vE]), .eq (.bool true), .eq (.bool true), .eq (.bool true), .eq (.agg #[.bool aM, .string aS, .int .i64 aE, .bool bM, .string bS, .int .i64 bE]), .eq (.agg #[.bool dM, .string dS, .int .i64 dE, .bool fM, .string fS, .int .i64 fE]), .eq (.agg #[.bool mM, .string mS, .int .i64 mE, .bool kM, .string kS, .int .i64 kE]), .eq (.agg #[.bool aM, .string aS, .int .i64 aE, .bool bM, .string bS, .int .i64 bE]), .eq (.agg #[.bool dM, .string dS, .int .i64 dE, .bool fM, .string fS, .int .i64 fE]), .eq (.agg #[.bool mM, .string mS, .int .i64 mE, .bool kM, .string kS, .int .i64 kE]), .eq (.bool true), .eq (.bool true), .eq (.bool true), .eq (.bool true), .eq (.bool true), .eq (.bool true)] 45 (by kernel_rfl) (by exact fun _ _ _ _ _ h => h) (by kernel_rfl) (by rfl) ?hop ?htail
  case hop =>
    intro A hA
    have hN : A.tmps.size = 45 := by rw [hA]; rfl
    have q2 : A.tmps.getD 2 undef = .slice SA n c := by rw [hA]; rfl
    have q3 : A.tmps.getD 3 undef = .pointer (some ⟨w.heap.size, 0, none⟩) := by rw [hA]; rfl
    have q4 : A.tmps.getD 4 undef = .pointer (some ⟨w.heap.size + 1, 0, none⟩) := by rw [hA]; rfl
    clear hA
    refine ⟨?_, ?_, ?_, ?_, ?_, ?_, ?_, ?_, ?_, ?_, ?_, ?_, ?_, ?_, ?_, ?_, ?_, ?_, ?_, ?_, ?_, ?_, ?_, ?_, ?_, trivial⟩
    · refine kok hN fun u W ev ec ef E B hG hf => ?_
      exact k_val _ rfl rfl hG (by simp [go_sem, B 2 rfl rfl q2]) rfl
    · refine kok hN fun u W ev ec ef E B hG hf => ?_
      exact k_cl rfl rfl (by simp [go_sem, ef, E 21 0 rfl rfl (hf 0 rfl)]) (c1.out W (nxt hB hG)) hG (fun _ _ => rfl)
    · refine kok hN fun u W ev ec ef E B hG hf => ?_
      exact k_val _ rfl rfl hG (by simp [go_sem, B 2 rfl rfl q2]) rfl
    · refine kok hN fun u W ev ec ef E B hG hf => ?_
      exact k_cl rfl rfl (by simp [go_sem, ef, E 23 2 rfl rfl (hf 2 rfl)]) (c2.out W (nxt hB hG)) hG (fun _ _ => rfl)
    · refine kok hN fun u W ev ec ef E B hG hf => ?_
      exact k_val _ rfl rfl hG (by simp [go_sem, E 22 1 rfl rfl (hf 1 rfl), E 24 3 rfl rfl (hf 3 rfl)]) rfl
    · refine kok hN fun u W ev ec ef E B hG hf => ?_
      exact k_val _ rfl rfl hG (by simp [go_sem, E 25 4 rfl rfl (hf 4 rfl)]) rfl
    · refine kok hN fun u W ev ec ef E B hG hf => ?_
      exact k_val _ ⟨_, hf 5 rfl, rfl⟩ rfl hG (by simp [go_sem, B 3 rfl rfl q3, (X1.later hG).cel]) rfl
    · refine kok hN fun u W ev ec ef E B hG hf => ?_
      exact k_cl ⟨_, hf 5 rfl, rfl⟩ rfl (by simp [go_sem, ef, E 27 6 rfl rfl (hf 6 rfl)]) (c3.out W (nxt hB hG)) hG (fun _ _ => rfl)
    · refine kok hN fun u W ev ec ef E B hG hf => ?_
      exact k_val _ ⟨_, hf 5 rfl, rfl⟩ rfl hG (by simp [go_sem, B 3 rfl rfl q3, (X1.later hG).cel]) rfl
    · refine kok hN fun u W ev ec ef E B hG hf => ?_
      exact k_cl ⟨_, hf 5 rfl, rfl⟩ rfl (by simp [go_sem, ef, E 29 8 rfl rfl (hf 8 rfl)]) (c4.out W (nxt hB hG)) hG (fun _ _ => rfl)
    · refine kok hN fun u W ev ec ef E B hG hf => ?_
      exact k_val _ ⟨_, hf 5 rfl, rfl⟩ rfl hG (by simp [go_sem, E 28 7 rfl rfl (hf 7 rfl), E 30 9 rfl rfl (hf 9 rfl)]) rfl
    · refine kok hN fun u W ev ec ef E B hG hf => ?_
      exact k_val _ rfl rfl hG (by simp [go_sem, E 26 5 rfl rfl (hf 5 rfl), E 31 10 rfl rfl (hf 10 rfl)]) rfl
    · refine kok hN fun u W ev ec ef E B hG hf => ?_
      exact k_val _ rfl rfl hG (by simp [go_sem, E 32 11 rfl rfl (hf 11 rfl)]) rfl
    · refine kok hN fun u W ev ec ef E B hG hf => ?_
      exact k_val _ ⟨_, hf 12 rfl, rfl⟩ rfl hG (by simp [go_sem, B 3 rfl rfl q3, (X1.later hG).cel]) rfl
    · refine kok hN fun u W ev ec ef E B hG hf => ?_
      exact k_val _ ⟨_, hf 12 rfl, rfl⟩ rfl hG (by simp [go_sem, B 4 rfl rfl q4, (X2.later hG).cel]) rfl
    · refine kok hN fun u W ev ec ef E B hG hf => ?_
      exact k_cl ⟨_, hf 12 rfl, rfl⟩ rfl (by simp [go_sem, ef, E 34 13 rfl rfl (hf 13 rfl), E 35 14 rfl rfl (hf 14 rfl)]) (c5.out W (nxt hB hG)) hG (fun _ _ => rfl)
    · refine kok hN fun u W ev ec ef E B hG hf => ?_
      exact k_val _ ⟨_, hf 12 rfl, rfl⟩ rfl hG (by simp [go_sem, B 3 rfl rfl q3, (X1.later hG).cel]) rfl
    · refine kok hN fun u W ev ec ef E B hG hf => ?_
      exact k_val _ ⟨_, hf 12 rfl, rfl⟩ rfl hG (by simp [go_sem, B 4 rfl rfl q4, (X2.later hG).cel]) rfl
    · refine kok hN fun u W ev ec ef E B hG hf => ?_
      exact k_cl ⟨_, hf 12 rfl, rfl⟩ rfl (by simp [go_sem, ef, E 37 16 rfl rfl (hf 16 rfl), E 38 17 rfl rfl (hf 17 rfl)]) (c6.out W (nxt hB hG)) hG (fun _ _ => rfl)
    · refine kok hN fun u W ev ec ef E B hG hf => ?_
      exact k_val _ ⟨_, hf 12 rfl, rfl⟩ rfl hG (by simp [go_sem, E 36 15 rfl rfl (hf 15 rfl), E 39 18 rfl rfl (hf 18 rfl)]) rfl
    · refine kok hN fun u W ev ec ef E B hG hf => ?_
      exact k_val _ rfl rfl hG (by simp [go_sem, E 33 12 rfl rfl (hf 12 rfl), E 40 19 rfl rfl (hf 19 rfl)]) rfl
    · refine kok hN fun u W ev ec ef E B hG hf => ?_
      exact k_val _ rfl rfl hG (by simp [go_sem, E 41 20 rfl rfl (hf 20 rfl)]) rfl
    · refine kok hN fun u W ev ec ef E B hG hf => ?_
      exact k_cl ⟨_, hf 21 rfl, rfl⟩ rfl (by simp [go_sem, ef]) (HA.out W (nxt hB hG)) hG (fun _ _ => rfl)
    · refine kok hN fun u W ev ec ef E B hG hf => ?_
      exact k_val _ rfl rfl hG (by simp [go_sem, E 42 21 rfl rfl (hf 21 rfl), E 43 22 rfl rfl (hf 22 rfl)]) rfl
    · refine kok hN fun u W ev ec ef E B hG hf => ?_
      exact k_val _ rfl rfl hG (by simp [go_sem, E 44 23 rfl rfl (hf 23 rfl)]) rfl
  case htail =>
    intro u w3 hG hP hD
    have f6 : u 24 = .bool true := hP 24 (by decide)
    simp only [putAll, Act.put, List.setIfInBounds_toArray, List.set_cons_zero, List.set_cons_succ, List.length_cons, List.length_nil, Nat.reduceAdd, List.drop_succ_cons, List.drop_zero, f6]
    replace X1 := X1.later hG
    replace X2 := X2.later hG
    replace hB := nxt hB hG
    clear hP hD hG f6
    clear X1 X2
    go_wp2
    go_ret
    exact ⟨rfl, hB⟩

end Go.Proofs.YtchfglbkiebfpaaGreatDoor

