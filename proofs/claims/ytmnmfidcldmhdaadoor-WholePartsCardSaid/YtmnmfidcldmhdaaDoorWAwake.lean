/- The walk of ogeelaw02.awake: the chapter's examples. -/
import Derived.Test.YtmnmfidcldmhdaaDoorWLawA
namespace Go.Proofs.YtmnmfidcldmhdaaDoor
open Go.RowKit

theorem wk1 (W : World) : Calls Tryd.prog 35 #[.int .i64 1] W fun e w' => e = .returned (.agg #[.bool false, .string ⟨#[1]⟩]) ∧ Below W.heap.size W w' :=
  (lOf_any 1 W (by decide) (by decide)).mono fun _ _ ⟨he, hb⟩ => ⟨he.trans (congrArg Ending.returned (by kernel_rfl)), hb⟩
theorem wk2 (W : World) : Calls Tryd.prog 25 #[.agg #[.bool false, .string ⟨#[1]⟩], .agg #[.bool true, .string ⟨#[]⟩]] W fun e w' => e = .returned (.tuple #[.agg #[.bool false, .string ⟨#[]⟩], .agg #[.bool false, .string ⟨#[]⟩], .bool false]) ∧ Below W.heap.size W w' :=
  (wDiv_any ⟨#[1]⟩ ⟨#[]⟩ false true W (by decide) (by decide)).mono fun _ _ ⟨he, hb⟩ => ⟨he.trans (congrArg Ending.returned (by kernel_rfl)), hb⟩
theorem wk3 (W : World) : Calls Tryd.prog 32 #[.int .i64 (-5)] W fun e w' => e = .returned (.agg #[.bool true, .string ⟨#[5]⟩]) ∧ Below W.heap.size W w' :=
  (wOf_any (-5) W (by decide) (by decide)).mono fun _ _ ⟨he, hb⟩ => ⟨he.trans (congrArg Ending.returned (by kernel_rfl)), hb⟩
theorem wk4 (W : World) : Calls Tryd.prog 35 #[.int .i64 5] W fun e w' => e = .returned (.agg #[.bool false, .string ⟨#[5]⟩]) ∧ Below W.heap.size W w' :=
  (lOf_any 5 W (by decide) (by decide)).mono fun _ _ ⟨he, hb⟩ => ⟨he.trans (congrArg Ending.returned (by kernel_rfl)), hb⟩
theorem wk5 (W : World) : Calls Tryd.prog 35 #[.int .i64 (-7)] W fun e w' => e = .returned (.agg #[.bool true, .string ⟨#[7]⟩]) ∧ Below W.heap.size W w' :=
  (lOf_any (-7) W (by decide) (by decide)).mono fun _ _ ⟨he, hb⟩ => ⟨he.trans (congrArg Ending.returned (by kernel_rfl)), hb⟩
theorem wk6 (W : World) : Calls Tryd.prog 15 #[.slice (some ⟨W.heap.size, 0, none⟩) 2 2] (W.alloc (.cells #[.bool false, .string ⟨#[5]⟩, .bool true, .string ⟨#[7]⟩] 26)) fun e w' => e = .returned (.agg #[.bool true, .string ⟨#[2]⟩]) ∧ Below W.heap.size W w' :=
  (wAdd2B ⟨#[5]⟩ ⟨#[7]⟩ false true W.heap.size _ (by decide) (by decide) (Bx.new W 26 #[.bool false, .string ⟨#[5]⟩, .bool true, .string ⟨#[7]⟩])).mono fun _ _ ⟨he, hb⟩ => ⟨he.trans (congrArg Ending.returned (by kernel_rfl)), nxt (b1 _ _) hb⟩
theorem wk7 (W : World) : Calls Tryd.prog 35 #[.int .i64 (-2)] W fun e w' => e = .returned (.agg #[.bool true, .string ⟨#[2]⟩]) ∧ Below W.heap.size W w' :=
  (lOf_any (-2) W (by decide) (by decide)).mono fun _ _ ⟨he, hb⟩ => ⟨he.trans (congrArg Ending.returned (by kernel_rfl)), hb⟩
theorem wk8 (W : World) : Calls Tryd.prog 35 #[.int .i64 (-3)] W fun e w' => e = .returned (.agg #[.bool true, .string ⟨#[3]⟩]) ∧ Below W.heap.size W w' :=
  (lOf_any (-3) W (by decide) (by decide)).mono fun _ _ ⟨he, hb⟩ => ⟨he.trans (congrArg Ending.returned (by kernel_rfl)), hb⟩
theorem wk9 (W : World) : Calls Tryd.prog 35 #[.int .i64 5] W fun e w' => e = .returned (.agg #[.bool false, .string ⟨#[5]⟩]) ∧ Below W.heap.size W w' :=
  (lOf_any 5 W (by decide) (by decide)).mono fun _ _ ⟨he, hb⟩ => ⟨he.trans (congrArg Ending.returned (by kernel_rfl)), hb⟩
theorem wk10 (W : World) : Calls Tryd.prog 35 #[.int .i64 (-1)] W fun e w' => e = .returned (.agg #[.bool true, .string ⟨#[1]⟩]) ∧ Below W.heap.size W w' :=
  (lOf_any (-1) W (by decide) (by decide)).mono fun _ _ ⟨he, hb⟩ => ⟨he.trans (congrArg Ending.returned (by kernel_rfl)), hb⟩
theorem wk11 (W : World) : Calls Tryd.prog 21 #[.slice (some ⟨W.heap.size, 0, none⟩) 3 3] (W.alloc (.cells #[.bool true, .string ⟨#[3]⟩, .bool false, .string ⟨#[5]⟩, .bool true, .string ⟨#[1]⟩] 26)) fun e w' => e = .returned (.agg #[.bool false, .string ⟨#[15]⟩]) ∧ Below W.heap.size W w' :=
  (wMul3B ⟨#[3]⟩ ⟨#[5]⟩ ⟨#[1]⟩ true false true W.heap.size _ (by decide) (by decide) (by decide) (Bx.new W 26 #[.bool true, .string ⟨#[3]⟩, .bool false, .string ⟨#[5]⟩, .bool true, .string ⟨#[1]⟩])).mono fun _ _ ⟨he, hb⟩ => ⟨he.trans (congrArg Ending.returned (by kernel_rfl)), nxt (b1 _ _) hb⟩
theorem wk12 (W : World) : Calls Tryd.prog 35 #[.int .i64 15] W fun e w' => e = .returned (.agg #[.bool false, .string ⟨#[15]⟩]) ∧ Below W.heap.size W w' :=
  (lOf_any 15 W (by decide) (by decide)).mono fun _ _ ⟨he, hb⟩ => ⟨he.trans (congrArg Ending.returned (by kernel_rfl)), hb⟩
theorem wk13 (W : World) : Calls Tryd.prog 21 #[.slice none 0 0] W fun e w' => e = .returned (.agg #[.bool false, .string ⟨#[1]⟩]) ∧ Below W.heap.size W w' :=
  (wMul_any none 0 0 (fun _ => false) (fun _ => ⟨#[]⟩) 0 W (by decide) (by decide) (fun _ => Nat.le_refl _) (by decide) (fun h => absurd h (by decide))).mono fun _ _ ⟨he, hb⟩ => ⟨he.trans (congrArg Ending.returned (by kernel_rfl)), hb⟩
theorem wk14 (W : World) : Calls Tryd.prog 35 #[.int .i64 1] W fun e w' => e = .returned (.agg #[.bool false, .string ⟨#[1]⟩]) ∧ Below W.heap.size W w' :=
  (lOf_any 1 W (by decide) (by decide)).mono fun _ _ ⟨he, hb⟩ => ⟨he.trans (congrArg Ending.returned (by kernel_rfl)), hb⟩
theorem wk15 (W : World) : Calls Tryd.prog 43 #[.int .i64 (-7), .int .i64 2, .int .i64 (-4), .int .i64 1] W fun e w' => e = .returned (.bool true) ∧ Below W.heap.size W w' :=
  (divides_any (-7) 2 (-4) 1 W (by decide) (by decide) (by decide) (by decide) (by decide) (by decide) (by decide) (by decide) (by decide) (by decide) (by decide)).mono fun _ _ ⟨he, hb⟩ => ⟨he.trans (congrArg Ending.returned (by kernel_rfl)), hb⟩
theorem wk16 (W : World) : Calls Tryd.prog 43 #[.int .i64 7, .int .i64 (-2), .int .i64 (-3), .int .i64 1] W fun e w' => e = .returned (.bool true) ∧ Below W.heap.size W w' :=
  (divides_any 7 (-2) (-3) 1 W (by decide) (by decide) (by decide) (by decide) (by decide) (by decide) (by decide) (by decide) (by decide) (by decide) (by decide)).mono fun _ _ ⟨he, hb⟩ => ⟨he.trans (congrArg Ending.returned (by kernel_rfl)), hb⟩
theorem wk17 (W : World) : Calls Tryd.prog 35 #[.int .i64 (-5)] W fun e w' => e = .returned (.agg #[.bool true, .string ⟨#[5]⟩]) ∧ Below W.heap.size W w' :=
  (lOf_any (-5) W (by decide) (by decide)).mono fun _ _ ⟨he, hb⟩ => ⟨he.trans (congrArg Ending.returned (by kernel_rfl)), hb⟩
theorem wk18 (W : World) (hT : TabAt 0 Lib.deBruijn64tab W) : Calls Tryd.prog 27 #[.agg #[.bool true, .string ⟨#[5]⟩], .int .i64 1] W fun e w' => e = .returned (.agg #[.bool true, .string ⟨#[10]⟩]) ∧ Below W.heap.size W w' :=
  (wShift_any ⟨#[5]⟩ true 1 W (by decide) (by decide) (by decide) hT).mono fun _ _ ⟨he, hb⟩ => ⟨he.trans (congrArg Ending.returned (by kernel_rfl)), hb⟩
theorem wk19 (W : World) : Calls Tryd.prog 35 #[.int .i64 (-10)] W fun e w' => e = .returned (.agg #[.bool true, .string ⟨#[10]⟩]) ∧ Below W.heap.size W w' :=
  (lOf_any (-10) W (by decide) (by decide)).mono fun _ _ ⟨he, hb⟩ => ⟨he.trans (congrArg Ending.returned (by kernel_rfl)), hb⟩
theorem wk20 (W : World) : Calls Tryd.prog 35 #[.int .i64 (-5)] W fun e w' => e = .returned (.agg #[.bool true, .string ⟨#[5]⟩]) ∧ Below W.heap.size W w' :=
  (lOf_any (-5) W (by decide) (by decide)).mono fun _ _ ⟨he, hb⟩ => ⟨he.trans (congrArg Ending.returned (by kernel_rfl)), hb⟩
theorem wk21 (W : World) (hT : TabAt 0 Lib.deBruijn64tab W) : Calls Tryd.prog 27 #[.agg #[.bool true, .string ⟨#[5]⟩], .int .i64 (-1)] W fun e w' => e = .returned (.agg #[.bool true, .string ⟨#[3]⟩]) ∧ Below W.heap.size W w' :=
  (wShift_any ⟨#[5]⟩ true (-1) W (by decide) (by decide) (by decide) hT).mono fun _ _ ⟨he, hb⟩ => ⟨he.trans (congrArg Ending.returned (by kernel_rfl)), hb⟩
theorem wk22 (W : World) : Calls Tryd.prog 35 #[.int .i64 (-3)] W fun e w' => e = .returned (.agg #[.bool true, .string ⟨#[3]⟩]) ∧ Below W.heap.size W w' :=
  (lOf_any (-3) W (by decide) (by decide)).mono fun _ _ ⟨he, hb⟩ => ⟨he.trans (congrArg Ending.returned (by kernel_rfl)), hb⟩
theorem wk23 (W : World) : Calls Tryd.prog 35 #[.int .i64 (-2)] W fun e w' => e = .returned (.agg #[.bool true, .string ⟨#[2]⟩]) ∧ Below W.heap.size W w' :=
  (lOf_any (-2) W (by decide) (by decide)).mono fun _ _ ⟨he, hb⟩ => ⟨he.trans (congrArg Ending.returned (by kernel_rfl)), hb⟩
theorem wk24 (W : World) : Calls Tryd.prog 23 #[.agg #[.bool true, .string ⟨#[2]⟩], .int .i64 3] W fun e w' => e = .returned (.agg #[.bool true, .string ⟨#[8]⟩]) ∧ Below W.heap.size W w' :=
  (wPow_any ⟨#[2]⟩ true 3 W (by decide) (by decide) (by decide)).mono fun _ _ ⟨he, hb⟩ => ⟨he.trans (congrArg Ending.returned (by kernel_rfl)), hb⟩
theorem wk25 (W : World) : Calls Tryd.prog 35 #[.int .i64 (-8)] W fun e w' => e = .returned (.agg #[.bool true, .string ⟨#[8]⟩]) ∧ Below W.heap.size W w' :=
  (lOf_any (-8) W (by decide) (by decide)).mono fun _ _ ⟨he, hb⟩ => ⟨he.trans (congrArg Ending.returned (by kernel_rfl)), hb⟩
theorem wk26 (W : World) : Calls Tryd.prog 35 #[.int .i64 0] W fun e w' => e = .returned (.agg #[.bool false, .string ⟨#[]⟩]) ∧ Below W.heap.size W w' :=
  (lOf_any 0 W (by decide) (by decide)).mono fun _ _ ⟨he, hb⟩ => ⟨he.trans (congrArg Ending.returned (by kernel_rfl)), hb⟩
theorem wk27 (W : World) : Calls Tryd.prog 23 #[.agg #[.bool false, .string ⟨#[]⟩], .int .i64 0] W fun e w' => e = .returned (.agg #[.bool false, .string ⟨#[1]⟩]) ∧ Below W.heap.size W w' :=
  (wPow_any ⟨#[]⟩ false 0 W (by decide) (by decide) (by decide)).mono fun _ _ ⟨he, hb⟩ => ⟨he.trans (congrArg Ending.returned (by kernel_rfl)), hb⟩
theorem wk28 (W : World) : Calls Tryd.prog 35 #[.int .i64 1] W fun e w' => e = .returned (.agg #[.bool false, .string ⟨#[1]⟩]) ∧ Below W.heap.size W w' :=
  (lOf_any 1 W (by decide) (by decide)).mono fun _ _ ⟨he, hb⟩ => ⟨he.trans (congrArg Ending.returned (by kernel_rfl)), hb⟩
theorem wk29 (W : World) : Calls Tryd.prog 35 #[.int .i64 (-1)] W fun e w' => e = .returned (.agg #[.bool true, .string ⟨#[1]⟩]) ∧ Below W.heap.size W w' :=
  (lOf_any (-1) W (by decide) (by decide)).mono fun _ _ ⟨he, hb⟩ => ⟨he.trans (congrArg Ending.returned (by kernel_rfl)), hb⟩
theorem wk30 (W : World) : Calls Tryd.prog 35 #[.int .i64 0] W fun e w' => e = .returned (.agg #[.bool false, .string ⟨#[]⟩]) ∧ Below W.heap.size W w' :=
  (lOf_any 0 W (by decide) (by decide)).mono fun _ _ ⟨he, hb⟩ => ⟨he.trans (congrArg Ending.returned (by kernel_rfl)), hb⟩
theorem wk31 (W : World) : Calls Tryd.prog 19 #[.agg #[.bool true, .string ⟨#[1]⟩], .agg #[.bool false, .string ⟨#[]⟩]] W fun e w' => e = .returned (.int .i64 (-1)) ∧ Below W.heap.size W w' :=
  (wCmp_any ⟨#[1]⟩ ⟨#[]⟩ true false W (by decide) (by decide)).mono fun _ _ ⟨he, hb⟩ => ⟨he.trans (congrArg Ending.returned (by kernel_rfl)), hb⟩

set_option maxRecDepth 100000 in
set_option maxHeartbeats 4000000 in
theorem wawake_any (w : World) (hT : TabAt 0 Lib.deBruijn64tab w) :
    Calls Tryd.prog 14 #[] w fun e w' => e = .returned (.bool true) ∧ Below w.heap.size w w' := by
  have HT := Lib.hid hT
  clear hT
  go_enter Tryd.func14, Tryd.ntmps14
  go_wp2_with fail
  refine (wk1 _).mono ?_
  rintro e w1 ⟨rfl, hb⟩
  have hB := hb
  clear hb
  go_wp2_with fail
  refine (wk2 _).mono ?_
  rintro e w2 ⟨rfl, hb⟩
  replace hB := nxt hB hb
  clear hb
  replace hB := nxtA (nxtA hB (.cells #[.bool false, .string ⟨#[]⟩] 26)) (.cells #[.bool false, .string ⟨#[]⟩] 26)
  go_wp2_with fail
  refine (wk3 _).mono ?_
  rintro e w3 ⟨rfl, hb⟩
  replace hB := nxt hB hb
  clear hb
  go_wp2_with fail
  refine (wk4 _).mono ?_
  rintro e w4 ⟨rfl, hb⟩
  replace hB := nxt hB hb
  clear hb
  go_wp2_with fail
  refine (wk5 _).mono ?_
  rintro e w5 ⟨rfl, hb⟩
  replace hB := nxt hB hb
  clear hb
  go_wp2_with fail
  refine (wk6 _).mono ?_
  rintro e w6 ⟨rfl, hb⟩
  replace hB := nxt hB hb
  clear hb
  go_wp2_with fail
  refine (wk7 _).mono ?_
  rintro e w7 ⟨rfl, hb⟩
  replace hB := nxt hB hb
  clear hb
  go_wp2_with fail
  refine (wk8 _).mono ?_
  rintro e w8 ⟨rfl, hb⟩
  replace hB := nxt hB hb
  clear hb
  go_wp2_with fail
  refine (wk9 _).mono ?_
  rintro e w9 ⟨rfl, hb⟩
  replace hB := nxt hB hb
  clear hb
  go_wp2_with fail
  refine (wk10 _).mono ?_
  rintro e w10 ⟨rfl, hb⟩
  replace hB := nxt hB hb
  clear hb
  go_wp2_with fail
  refine (wk11 _).mono ?_
  rintro e w11 ⟨rfl, hb⟩
  replace hB := nxt hB hb
  clear hb
  go_wp2_with fail
  refine (wk12 _).mono ?_
  rintro e w12 ⟨rfl, hb⟩
  replace hB := nxt hB hb
  clear hb
  go_wp2_with fail
  refine (wk13 _).mono ?_
  rintro e w13 ⟨rfl, hb⟩
  replace hB := nxt hB hb
  clear hb
  go_wp2_with fail
  refine (wk14 _).mono ?_
  rintro e w14 ⟨rfl, hb⟩
  replace hB := nxt hB hb
  clear hb
  go_wp2_with fail
  refine (wk15 _).mono ?_
  rintro e w15 ⟨rfl, hb⟩
  replace hB := nxt hB hb
  clear hb
  go_wp2_with fail
  refine (wk16 _).mono ?_
  rintro e w16 ⟨rfl, hb⟩
  replace hB := nxt hB hb
  clear hb
  go_wp2_with fail
  refine (wk17 _).mono ?_
  rintro e w17 ⟨rfl, hb⟩
  replace hB := nxt hB hb
  clear hb
  go_wp2_with fail
  refine (wk18 _ (tab_keep HT.out hB)).mono ?_
  rintro e w18 ⟨rfl, hb⟩
  replace hB := nxt hB hb
  clear hb
  go_wp2_with fail
  refine (wk19 _).mono ?_
  rintro e w19 ⟨rfl, hb⟩
  replace hB := nxt hB hb
  clear hb
  go_wp2_with fail
  refine (wk20 _).mono ?_
  rintro e w20 ⟨rfl, hb⟩
  replace hB := nxt hB hb
  clear hb
  go_wp2_with fail
  refine (wk21 _ (tab_keep HT.out hB)).mono ?_
  rintro e w21 ⟨rfl, hb⟩
  replace hB := nxt hB hb
  clear hb
  go_wp2_with fail
  refine (wk22 _).mono ?_
  rintro e w22 ⟨rfl, hb⟩
  replace hB := nxt hB hb
  clear hb
  go_wp2_with fail
  refine (wk23 _).mono ?_
  rintro e w23 ⟨rfl, hb⟩
  replace hB := nxt hB hb
  clear hb
  go_wp2_with fail
  refine (wk24 _).mono ?_
  rintro e w24 ⟨rfl, hb⟩
  replace hB := nxt hB hb
  clear hb
  go_wp2_with fail
  refine (wk25 _).mono ?_
  rintro e w25 ⟨rfl, hb⟩
  replace hB := nxt hB hb
  clear hb
  go_wp2_with fail
  refine (wk26 _).mono ?_
  rintro e w26 ⟨rfl, hb⟩
  replace hB := nxt hB hb
  clear hb
  go_wp2_with fail
  refine (wk27 _).mono ?_
  rintro e w27 ⟨rfl, hb⟩
  replace hB := nxt hB hb
  clear hb
  go_wp2_with fail
  refine (wk28 _).mono ?_
  rintro e w28 ⟨rfl, hb⟩
  replace hB := nxt hB hb
  clear hb
  go_wp2_with fail
  refine (wk29 _).mono ?_
  rintro e w29 ⟨rfl, hb⟩
  replace hB := nxt hB hb
  clear hb
  go_wp2_with fail
  refine (wk30 _).mono ?_
  rintro e w30 ⟨rfl, hb⟩
  replace hB := nxt hB hb
  clear hb
  go_wp2_with fail
  refine (wk31 _).mono ?_
  rintro e w31 ⟨rfl, hb⟩
  replace hB := nxt hB hb
  clear hb
  go_wp2
  go_ret
  exact ⟨rfl, hB⟩
end Go.Proofs.YtmnmfidcldmhdaaDoor
