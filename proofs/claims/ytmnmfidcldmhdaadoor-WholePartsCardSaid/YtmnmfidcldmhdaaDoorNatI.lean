/- The walks of package nat's division: digit. -/
import Derived.Test.YtmnmfidcldmhdaaDoorNatH
import Derived.Deep.DeepCutAuto
import Derived.Deep.CutBlock
namespace Go.Proofs.YtmnmfidcldmhdaaDoor
open Go.RowKit

set_option maxRecDepth 100000 in
set_option maxHeartbeats 1000000 in
theorem digit_any (A' : Option Addr) (g N c nb c' T X Y at_ : Nat) (w : World) (hN : N ≤ 1073741824) (hNc : N ≤ c) (hNT : N ≤ T) (hnb : 0 < nb) (hat : at_ + nb < N) (hX : X < Y * LB ^ (at_ + 1)) (hY : LB ^ (nb - 1) * 9223372036854775808 ≤ Y) (hY2 : Y < LB ^ nb)
    (hC : Cel w g 66 T (limb X)) (hr : Rd w A' nb (limb Y)) (ho : Off A' g) :
    Calls Tryd.prog 82 #[.agg #[.slice (some ⟨g, 0, none⟩) N c, .slice A' nb c'], .int .i64 (at_ : Nat)] w fun e w' => e = .returned (.int .u64 ((X / LB ^ at_ / Y : Nat) : Int)) ∧
      w.grownBy w' (some g) ∧ Cel w' g 66 T (limb (X - LB ^ at_ * (Y * (X / LB ^ at_ / Y)))) := by
  obtain ⟨t1, t2, t3, t4, t5, t6⟩ := top_facts hnb hX hY hY2
  have hgl := hC.lt
  have HT := Lib.hid (show (X / LB ^ at_ < Y * LB ∧ X / LB ^ at_ < LB ^ (nb + 1) ∧ 9223372036854775808 ≤ dgt LB Y (nb - 1)) ∧ X / LB ^ at_ / Y < LB ∧ 0 < Y from ⟨⟨t1, t2, t3⟩, t5, t6⟩)
  have HT4 := Lib.hid t4
  have HX := Lib.hid hX
  have HY := Lib.hid hY
  have HY2 := Lib.hid hY2
  clear t1 t2 t3 t4 t5 t6 hX hY hY2
  go_enter Tryd.func82, Tryd.ntmps82
  go_upto_region 1 with fail
  have hg0 : w.grownBy (w.alloc (.cells #[.slice (some ⟨g, 0, none⟩) N c, .slice A' nb c'] 86)) (some g) := grownBy_alloc (World.grownBy.refl _ _) _
  have hbox0 : (w.alloc (.cells #[.slice (some ⟨g, 0, none⟩) N c, .slice A' nb c'] 86)).cell? ⟨w.heap.size, 0, none⟩ = some (.slice (some ⟨g, 0, none⟩) N c) := by
    rw [World.cell?_alloc_at _ _ _ _ rfl]; rfl
  have hbox1 : (w.alloc (.cells #[.slice (some ⟨g, 0, none⟩) N c, .slice A' nb c'] 86)).cell? ⟨w.heap.size, 1, none⟩ = some (.slice A' nb c') := by
    rw [World.cell?_alloc_at _ _ _ _ rfl]; rfl
  have hbl : w.heap.size < (w.alloc (.cells #[.slice (some ⟨g, 0, none⟩) N c, .slice A' nb c'] 86)).heap.size := by simp
  have hC0 := hC.alloc (.cells #[.slice (some ⟨g, 0, none⟩) N c, .slice A' nb c'] 86)
  have hr0 := hr.alloc (.cells #[.slice (some ⟨g, 0, none⟩) N c, .slice A' nb c'] 86)
  clear hC hr
  generalize w.alloc (.cells #[.slice (some ⟨g, 0, none⟩) N c, .slice A' nb c'] 86) = w0 at *
  obtain ⟨b, off, rfl, hc⟩ := hr0 hnb
  have g1 : w0.cell? ⟨g, at_ + nb, none⟩ = some (.int .u64 (dgt LB X (at_ + nb) : Nat)) := hC0.cell (by omega)
  have g2 : w0.cell? ⟨b, off + (nb - 1), none⟩ = some (.int .u64 (dgt LB Y (nb - 1) : Nat)) := hc (nb - 1) (by omega)
  have g3 : w0.cell? ⟨g, at_ + nb - 1, none⟩ = some (.int .u64 (dgt LB X (at_ + nb - 1) : Nat)) := hC0.cell (by omega)
  have hnb1 : 1 ≤ nb := hnb
  clear hc
  go_upto_if 27 with fail
  go_cut [7] (fun s wx => ∃ q : Nat, s = .int .u64 (q : Int) ∧ X / LB ^ at_ / Y ≤ q ∧ q < LB ∧ ∃ k, wx = w0.drewN k)
  case first =>
    by_cases hlt : dgt LB X (at_ + nb) < dgt LB Y (nb - 1)
    · have hd := Lib.hid (div64_top (dgt LB X (at_ + nb)) (dgt LB X (at_ + nb - 1)) (dgt LB Y (nb - 1)) · HT.out.1.2.2 (dgt_lt LB_pos _ _) hlt (dgt_lt LB_pos _ _))
      have HL := Lib.hid (HT4.out hlt)
      have hlt' : ((dgt LB X (at_ + nb) : Nat) : Int) < ((dgt LB Y (nb - 1) : Nat) : Int) := by omega
      clear hlt
      have v1 : IntKind.i64.wrap ((at_ : Int) + (nb : Int)) = (at_ : Int) + (nb : Int) := IntWalk.i64_in _ (by omega)
      have v2 : IntKind.i64.wrap ((at_ : Int) + (nb : Int) - 1) = (at_ : Int) + (nb : Int) - 1 := IntWalk.i64_in _ (by omega)
      have v3 : IntKind.i64.wrap ((nb : Int) - 1) = (nb : Int) - 1 := IntWalk.i64_in _ (by omega)
      have v4 : (0 : Int) ≤ (at_ : Int) + (nb : Int) - 1 := by omega
      have v5 : (at_ : Int) + (nb : Int) - 1 < (N : Int) := by omega
      have v6 : ((at_ : Int) + (nb : Int) - 1).toNat = at_ + nb - 1 := by omega
      have v7 : (0 : Int) ≤ (nb : Int) - 1 := by omega
      have v8 : (nb : Int) - 1 < (nb : Int) := by omega
      have v9 : ((nb : Int) - 1).toNat = nb - 1 := by omega
      go_wp2
      go_quiet ((go_at_call 104; exact Calls.quiet_of (hd.out _)))
      go_wp2
      go_meet
      exact ⟨_, rfl, HL.out.1, HL.out.2, _, rfl⟩
    · have hlt' : ¬ ((dgt LB X (at_ + nb) : Nat) : Int) < ((dgt LB Y (nb - 1) : Nat) : Int) := by omega
      clear hlt
      go_wp2
      go_meet
      exact ⟨18446744073709551615, rfl, Nat.le_sub_one_of_lt HT.out.2.1, by decide, 0, rfl⟩
  case rest =>
    obtain ⟨q, rfl, hq1, hq2, k, rfl⟩ := hcut
    have hC1 := hC0.drewN k
    have hg1 := grownBy_drewN hg0 k
    have hb1 : (w0.drewN k).cell? ⟨w.heap.size, 1, none⟩ = some (.slice (some ⟨b, off, none⟩) nb c') := hbox1
    have hb0 : (w0.drewN k).cell? ⟨w.heap.size, 0, none⟩ = some (.slice (some ⟨g, 0, none⟩) N c) := hbox0
    have hr1 := hr0.drewN k
    have hbl1 : w.heap.size < (w0.drewN k).heap.size := hbl
    have HQ := Lib.hid (show X / LB ^ at_ / Y ≤ q ∧ q < LB from ⟨hq1, hq2⟩)
    clear hC0 hg0 hbox0 hbox1 hr0 hbl g1 g2 g3 hq1 hq2
    generalize w0.drewN k = w1 at *
    have hb2 : 8 * (nb + 1) ≤ 281474976710656 := by omega
    have hb3 : nb + 1 ≤ 9223372036854775807 := by omega
    have hac : at_ < c := by omega
    have hac2 : at_ + nb + 1 ≤ c := by omega
    go_wp2_with (at_make; refine wpList_make_cel rfl (.tmp 56) (.tmp 56) _ rfl 66 (.int .u64 0) 8 under_limbs info_u64 rfl .i64 .i64 _ _ (nb + 1) rfl rfl rfl rfl hb2 hb3 ?_; intro w2 hC2 hB2 hlt2; have hbx2 : w2.cell? ⟨w.heap.size, 1, none⟩ = some (.slice (some ⟨b, off, none⟩) nb c') := (hB2.cell (p := ⟨w.heap.size, 1, none⟩) hbl1).trans hb1)
    rw [show at_ + nb + 1 - at_ = nb + 1 by omega]
    have hr2 := hr1.below hB2
    have hC3 : Cel w2 w1.heap.size 66 (nb + 1) (mix 0 (nb + 1) (limb 0) (limb 0)) := hC2.congr fun j hj => by
      have := mix_self 0 (nb + 1) (limb 0) j
      simp only [Nat.zero_add] at this
      rw [this]; unfold limb; rw [dgt_zero]; rfl
    have hgl1 := hC1.lt
    have hbl : b < w1.heap.size := by
      obtain ⟨b', off', e, hc⟩ := hr1 hnb
      injection e with e
      injection e with e1
      have := cell_lt (hc 0 hnb)
      simp at this; omega
    refine (plus_any w1.heap.size 0 (nb + 1) (nb + 1) (nb + 1) nb c' 0 Y q _ _ w2 (by omega) (by omega) hC3 (by omega) HQ.out.2 HY2.out hr2 (Off.some_ (by omega))).mono ?_
    rintro e w3 ⟨rfl, hg3, hC4⟩
    rw [Nat.zero_add] at hC4
    have hC5 := hC4.congr (f' := limb (Y * q)) fun j hj => by
      unfold mix
      rw [if_pos ⟨by omega, by omega⟩, Nat.sub_zero]
    have hlt5 : Y * q < LB ^ (nb + 1) := by
      rw [Nat.pow_succ]
      exact Nat.mul_lt_mul'' HY2.out HQ.out.2
    have cc := Lib.hid (cut_any (some ⟨w1.heap.size, 0, none⟩) (nb + 1) (nb + 1) (Y * q) w3 hb3 (Nat.le_refl _) hlt5 (Cel.rd0 hC5 (Nat.le_refl _)))
    have hnd : nd 64 (Y * q) ≤ nb + 1 := nd_LB hlt5
    have H5 := Lib.hid hlt5
    clear hlt5 hC3 hC4
    go_wp2_with fail
    refine cc.out.mono ?_
    rintro e w4 ⟨rfl, rfl⟩
    have hB3 : Below w1.heap.size w1 w3 := below_grownBy hB2 hg3 hB2.size (Nat.le_refl _)
    have hCg : Cel w3 g 66 T (limb X) := hC1.bel hB3
    have hrp : Rd w3 (some ⟨g, at_, none⟩) (nb + 1) (limb (X / LB ^ at_)) := (hCg.rd (o := at_) (n := nb + 1) (by omega)).congr fun j _ => by unfold limb; rw [dgt_div]
    have hr3 := hr1.below hB3
    have hbx3 : w3.cell? ⟨w.heap.size, 1, none⟩ = some (.slice (some ⟨b, off, none⟩) nb c') := (hB3.cell (p := ⟨w.heap.size, 1, none⟩) hbl1).trans hb1
    have hbx0 : w3.cell? ⟨w.heap.size, 0, none⟩ = some (.slice (some ⟨g, 0, none⟩) N c) := (hB3.cell (p := ⟨w.heap.size, 0, none⟩) hbl1).trans hb0
    go_wp2_with fail
    refine (cmp_any _ _ (nd 64 (Y * q)) (nb + 1) _ (c - at_) (Y * q) (X / LB ^ at_) w3 (by omega) (by omega) hnd (by omega) (LB_nd _) HT.out.1.2.1 (Cel.rd0 hC5 hnd) hrp).mono ?_
    rintro e w4 ⟨rfl, m, rfl⟩
    have hg4 : w.grownBy (w3.drewN m) (some g) := grownBy_drewN (grownBy_below hg1 hB3) m
    have hC6 := hC5.drewN m
    have hCg4 := hCg.drewN m
    have hr4 := hr3.drewN m
    have hrp4 := hrp.drewN m
    have hbx14 : (w3.drewN m).cell? ⟨w.heap.size, 1, none⟩ = some (.slice (some ⟨b, off, none⟩) nb c') := hbx3
    have hbx04 : (w3.drewN m).cell? ⟨w.heap.size, 0, none⟩ = some (.slice (some ⟨g, 0, none⟩) N c) := hbx0
    have hs3 := hB3.size
    have hs4 : w3.heap.size = (w3.drewN m).heap.size := rfl
    have hs5 : w1.heap.size < (w3.drewN m).heap.size := hC6.lt
    clear hC2 hB2 hlt2 hbx2 hr2 hg3 cc hCg hrp hr3 hbx3 hbx0 hC5 hs4 hC1 hg1 hb1 hb0 hr1
    generalize w3.drewN m = w4 at *
    go_upto_if 67 with fail
    go_cut [7, 9] (fun s v wx => s = .int .u64 ((X / LB ^ at_ / Y : Nat) : Int) ∧ ∃ gm, v = .slice (some ⟨gm, 0, none⟩) (nb + 1) (nb + 1) ∧ g ≠ gm ∧ Below w4.heap.size w4 wx ∧ Cel wx gm 66 (nb + 1) (limb (Y * (X / LB ^ at_ / Y))))
    case first =>
      by_cases hle : X / LB ^ at_ < Y * q
      · have h1 : 0 < cmpI (Y * q) (X / LB ^ at_) := cmpI_gt.2 hle
        have hls := Lib.hid (less_any (some ⟨g, 0, none⟩) (some ⟨b, off, none⟩) (some ⟨g, at_, none⟩) N c nb c' (nb + 1) (c - at_) (X / LB ^ at_) Y q w4 (by omega) (by omega) (by omega) HY2.out HT.out.2.2 HT.out.1.2.1 hr4 hrp4 HQ.out.2 hle)
        clear hle
        go_wp2_with fail
        refine hls.out.mono ?_
        rintro e w5 ⟨gm, rfl, hgm, hb5, hCm⟩
        go_wp2
        go_meet
        exact ⟨rfl, gm, rfl, by omega, hb5, hCm⟩
      · have h1 : ¬ 0 < cmpI (Y * q) (X / LB ^ at_) := fun h => hle (cmpI_gt.1 h)
        have HE := Lib.hid (show q = X / LB ^ at_ / Y from Nat.le_antisymm ((Nat.le_div_iff_mul_le HT.out.2.2).2 (by rw [Nat.mul_comm]; omega)) HQ.out.1)
        clear hle
        go_wp2
        go_meet
        exact ⟨by rw [← HE.out], w1.heap.size, rfl, by omega, Below.refl _ _, by rw [← HE.out]; exact hC6⟩
    case rest =>
      obtain ⟨rfl, gm, rfl, hne, hB5, hCm⟩ := hcut
      have hX2 : X < LB ^ (at_ + nb + 1) := by
        have h1 := HX.out
        have h2 : Y * LB ^ (at_ + 1) ≤ LB ^ nb * LB ^ (at_ + 1) := Nat.mul_le_mul_right _ (Nat.le_of_lt HY2.out)
        rw [← Nat.pow_add, show nb + (at_ + 1) = at_ + nb + 1 by omega] at h2
        exact Nat.lt_of_lt_of_le h1 h2
      have hle : Y * (X / LB ^ at_ / Y) ≤ X / LB ^ at_ := Nat.mul_div_le _ _
      have hC7 : Cel wc g 66 T (mix at_ (nb + 1) (limb (X / LB ^ at_)) (limb X)) := (hCg4.bel hB5).congr fun j _ => by
        unfold mix
        by_cases h : at_ ≤ j ∧ j < at_ + (nb + 1)
        · rw [if_pos h]; unfold limb; rw [dgt_div, show at_ + (j - at_) = j by omega]
        · rw [if_neg h]
      have htk := Lib.hid (take_any g at_ (nb + 1) (c - at_) T (nb + 1) (nb + 1) (X / LB ^ at_) (Y * (X / LB ^ at_ / Y)) (some ⟨gm, 0, none⟩) _ wc (by omega) (by omega) hC7 (by omega) (Nat.lt_of_le_of_lt hle HT.out.1.2.1) hle HT.out.1.2.1 (Cel.rd0 hCm (Nat.le_refl _)) (Off.some_ (fun e => hne e.symm)))
      have HR := Lib.hid (fun j => dgt_rest (j := j) hX2 hle)
      clear hX2 hle hC7
      go_wp2_with fail
      refine htk.out.mono ?_
      rintro e w6 ⟨rfl, hg6, hC8⟩
      go_wp2
      go_ret
      refine ⟨rfl, grownBy_trans (grownBy_below hg4 hB5) hg6, hC8.congr fun j _ => ?_⟩
      unfold mix limb
      rw [HR.out j]
      split <;> rfl
end Go.Proofs.YtmnmfidcldmhdaaDoor
