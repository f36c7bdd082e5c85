/- The walk of ogeelaw01.awake: the chapter's examples. -/
import Derived.Test.YtpfiaedlicbkiaaDoorNatJ
namespace Go.Proofs.YtpfiaedlicbkiaaDoor
open Go.RowKit

theorem add2_any (a b : ByteArray) (w : World) (ha : a.size ≤ 1073741824) (hb : b.size ≤ 1073741824) :
    Calls Tryd.prog 26 #[.slice (some ⟨w.heap.size, 0, none⟩) 2 2] (w.alloc (.cells #[.string a, .string b] 9)) fun e w' => e = .returned (.string (nstr (sval a + sval b))) ∧ Below w.heap.size w w' := by
  have h := (Cel.new w 9 #[.string a, .string b]).rd (o := 0) (n := 2) (by simp)
  have hr : Rd (w.alloc (.cells #[.string a, .string b] 9)) (some ⟨w.heap.size, 0, none⟩) 2 (fun j => .string (if j = 0 then a else b)) := h.congr fun j hj => by
    have : j = 0 ∨ j = 1 := by omega
    rcases this with rfl | rfl <;> rfl
  have hs : sumTo (fun j => sval (if j = 0 then a else b)) 2 = sval a + sval b := by simp [sumTo]
  refine (nAdd_any _ 2 2 (fun j => if j = 0 then a else b) _ (by decide) (fun j => by split <;> assumption) hr).mono fun e w' ⟨he, hb⟩ => ⟨by rw [he, hs], below_bel ((Below.refl _ _).alloc (Nat.le_refl _) _) hb (by simp)⟩

theorem aw1 (W : World) : Calls Tryd.prog 22 #[.string ⟨#[1, 0]⟩, .string ⟨#[1]⟩] W fun e w' => e = .returned (.tuple #[.string ⟨#[255]⟩, .bool true]) ∧ Below W.heap.size W w' :=
  (nSub_any ⟨#[1, 0]⟩ ⟨#[1]⟩ W (by decide) (by decide)).mono fun _ _ ⟨he, hb⟩ => ⟨he.trans (congrArg Ending.returned (by kernel_rfl)), hb⟩
theorem aw2 (W : World) : Calls Tryd.prog 22 #[.string ⟨#[1]⟩, .string ⟨#[2]⟩] W fun e w' => e = .returned (.tuple #[.string ⟨#[]⟩, .bool false]) ∧ Below W.heap.size W w' :=
  (nSub_any ⟨#[1]⟩ ⟨#[2]⟩ W (by decide) (by decide)).mono fun _ _ ⟨he, hb⟩ => ⟨he.trans (congrArg Ending.returned (by kernel_rfl)), hb⟩
theorem aw3 (W : World) : Calls Tryd.prog 30 #[.string ⟨#[1, 1]⟩, .string ⟨#[16]⟩] W fun e w' => e = .returned (.tuple #[.string ⟨#[16]⟩, .string ⟨#[1]⟩, .bool true]) ∧ Below W.heap.size W w' :=
  (nDiv_any ⟨#[1, 1]⟩ ⟨#[16]⟩ W (by decide) (by decide)).mono fun _ _ ⟨he, hb⟩ => ⟨he.trans (congrArg Ending.returned (by kernel_rfl)), hb⟩
theorem aw4 (W : World) : Calls Tryd.prog 30 #[.string ⟨#[1]⟩, .string ⟨#[0]⟩] W fun e w' => e = .returned (.tuple #[.string ⟨#[]⟩, .string ⟨#[]⟩, .bool false]) ∧ Below W.heap.size W w' :=
  (nDiv_any ⟨#[1]⟩ ⟨#[0]⟩ W (by decide) (by decide)).mono fun _ _ ⟨he, hb⟩ => ⟨he.trans (congrArg Ending.returned (by kernel_rfl)), hb⟩
theorem aw5 (W : World) : Calls Tryd.prog 13 #[.int .u64 0] W fun e w' => e = .returned (.string ⟨#[]⟩) ∧ Below W.heap.size W w' :=
  (nOf_any 0 W (by decide)).mono fun _ _ ⟨he, hb⟩ => ⟨he.trans (congrArg Ending.returned (by kernel_rfl)), hb⟩
theorem aw6 (W : World) : Calls Tryd.prog 13 #[.int .u64 258] W fun e w' => e = .returned (.string ⟨#[1, 2]⟩) ∧ Below W.heap.size W w' :=
  (nOf_any 258 W (by decide)).mono fun _ _ ⟨he, hb⟩ => ⟨he.trans (congrArg Ending.returned (by kernel_rfl)), hb⟩
theorem aw7 (W : World) : Calls Tryd.prog 26 #[.slice (some ⟨W.heap.size, 0, none⟩) 2 2] (W.alloc (.cells #[.string ⟨#[255]⟩, .string ⟨#[1]⟩] 9)) fun e w' => e = .returned (.string ⟨#[1, 0]⟩) ∧ Below W.heap.size W w' :=
  (add2_any ⟨#[255]⟩ ⟨#[1]⟩ W (by decide) (by decide)).mono fun _ _ ⟨he, hb⟩ => ⟨he.trans (congrArg Ending.returned (by kernel_rfl)), hb⟩
theorem aw8 (W : World) : Calls Tryd.prog 28 #[.string ⟨#[255]⟩, .string ⟨#[255]⟩] W fun e w' => e = .returned (.string ⟨#[254, 1]⟩) ∧ Below W.heap.size W w' :=
  (nMul_any ⟨#[255]⟩ ⟨#[255]⟩ W (by decide) (by decide)).mono fun _ _ ⟨he, hb⟩ => ⟨he.trans (congrArg Ending.returned (by kernel_rfl)), hb⟩
theorem aw9 (W : World) : Calls Tryd.prog 32 #[.string ⟨#[3]⟩, .int .i64 9] W fun e w' => e = .returned (.string ⟨#[6, 0]⟩) ∧ Below W.heap.size W w' :=
  (nShl_any ⟨#[3]⟩ 9 W (by decide) (by decide)).mono fun _ _ ⟨he, hb⟩ => ⟨he.trans (congrArg Ending.returned (by kernel_rfl)), hb⟩
theorem aw10 (W : World) : Calls Tryd.prog 34 #[.string ⟨#[6, 0]⟩, .int .i64 9] W fun e w' => e = .returned (.string ⟨#[3]⟩) ∧ Below W.heap.size W w' :=
  (nShr_any ⟨#[6, 0]⟩ 9 W (by decide) (by decide)).mono fun _ _ ⟨he, hb⟩ => ⟨he.trans (congrArg Ending.returned (by kernel_rfl)), hb⟩
theorem aw11 (W : World) (hT : TabAt 0 Lib.deBruijn64tab W) : Calls Tryd.prog 20 #[.string ⟨#[6, 0]⟩] W fun e w' => e = .returned (.int .i64 9) ∧ Below W.heap.size W w' :=
  (nZeros_any ⟨#[6, 0]⟩ W (by decide) hT).mono fun _ _ ⟨he, hb⟩ => ⟨he.trans (congrArg Ending.returned (by kernel_rfl)), hb⟩
theorem aw12 (W : World) : Calls Tryd.prog 18 #[.string ⟨#[6, 0]⟩] W fun e w' => e = .returned (.int .i64 11) ∧ Below W.heap.size W w' :=
  (nLen_any ⟨#[6, 0]⟩ W (by decide)).mono fun _ _ ⟨he, hb⟩ => ⟨he.trans (congrArg Ending.returned (by kernel_rfl)), hb⟩
theorem aw13 (W : World) : Calls Tryd.prog 24 #[.string ⟨#[0, 5]⟩, .string ⟨#[5]⟩] W fun e w' => e = .returned (.int .i64 0) ∧ Below W.heap.size W w' :=
  (nCmp_any ⟨#[0, 5]⟩ ⟨#[5]⟩ W (by decide) (by decide)).mono fun _ _ ⟨he, hb⟩ => ⟨he.trans (congrArg Ending.returned (by kernel_rfl)), hb⟩
theorem aw14 (W : World) : Calls Tryd.prog 15 #[.string ⟨#[0, 5]⟩] W fun e w' => e = .returned (.string ⟨#[5]⟩) ∧ W = w' :=
  (nTrim_any ⟨#[0, 5]⟩ W).mono fun _ _ ⟨he, hb⟩ => ⟨he.trans (congrArg Ending.returned (by kernel_rfl)), hb⟩

set_option maxRecDepth 100000 in
set_option maxHeartbeats 1000000 in
theorem awake_any (w : World) (hT : TabAt 0 Lib.deBruijn64tab w) :
    Calls Tryd.prog 12 #[] w fun e w' => e = .returned (.bool true) ∧ Below w.heap.size w w' := by
  have HT := Lib.hid hT
  clear hT
  go_enter Tryd.func12, Tryd.ntmps12
  go_wp2_with fail
  refine (aw1 _).mono ?_
  rintro e w1 ⟨rfl, hb⟩
  have hB := hb
  go_wp2_with fail
  refine (aw2 _).mono ?_
  rintro e w2 ⟨rfl, hb⟩
  replace hB := below_bel hB hb hB.size
  go_wp2_with fail
  refine (aw3 _).mono ?_
  rintro e w3 ⟨rfl, hb⟩
  replace hB := below_bel hB hb hB.size
  go_wp2_with fail
  refine (aw4 _).mono ?_
  rintro e w4 ⟨rfl, hb⟩
  replace hB := below_bel hB hb hB.size
  go_wp2_with fail
  refine (aw5 _).mono ?_
  rintro e w5 ⟨rfl, hb⟩
  replace hB := below_bel hB hb hB.size
  go_wp2_with fail
  refine (aw6 _).mono ?_
  rintro e w6 ⟨rfl, hb⟩
  replace hB := below_bel hB hb hB.size
  go_wp2_with fail
  refine (aw7 _).mono ?_
  rintro e w7 ⟨rfl, hb⟩
  replace hB := below_bel hB hb hB.size
  go_wp2_with fail
  refine (aw8 _).mono ?_
  rintro e w8 ⟨rfl, hb⟩
  replace hB := below_bel hB hb hB.size
  go_wp2_with fail
  refine (aw9 _).mono ?_
  rintro e w9 ⟨rfl, hb⟩
  replace hB := below_bel hB hb hB.size
  go_wp2_with fail
  refine (aw10 _).mono ?_
  rintro e w10 ⟨rfl, hb⟩
  replace hB := below_bel hB hb hB.size
  go_wp2_with fail
  refine (aw11 _ (tab_keep HT.out hB)).mono ?_
  rintro e w11 ⟨rfl, hb⟩
  replace hB := below_bel hB hb hB.size
  go_wp2_with fail
  refine (aw12 _).mono ?_
  rintro e w12 ⟨rfl, hb⟩
  replace hB := below_bel hB hb hB.size
  go_wp2_with fail
  refine (aw13 _).mono ?_
  rintro e w13 ⟨rfl, hb⟩
  replace hB := below_bel hB hb hB.size
  go_wp2_with fail
  refine (aw14 _).mono ?_
  rintro e w14 ⟨rfl, rfl⟩
  go_wp2
  go_ret
  exact ⟨rfl, hB⟩
end Go.Proofs.YtpfiaedlicbkiaaDoor
