/- The walks of package nat's division: less, digit, Div. -/
import Derived.Test.YtmnmfidcldmhdaaDoorNatG
namespace Go.Proofs.YtmnmfidcldmhdaaDoor
open Go.RowKit

theorem info_div : (Tryd.prog.info? 86).map (·.size) = some 2 := by kernel_rfl

set_option maxRecDepth 100000 in
set_option maxHeartbeats 800000 in
theorem less_any (D A' A2 : Option Addr) (dn dc nb c' np cp P Y q : Nat) (w : World) (hnb : nb ≤ 1073741824) (hnp : np ≤ 1073741824) (hnpc : np ≤ cp) (hY : Y < LB ^ nb) (hY0 : 0 < Y) (hP : P < LB ^ np) (hr : Rd w A' nb (limb Y)) (hrp : Rd w A2 np (limb P)) (hq : q < LB) (hgt : P < Y * q) :
    Calls Tryd.prog 105 #[.agg #[.slice D dn dc, .slice A' nb c'], .slice A2 np cp, .int .u64 (q : Nat)] w fun e w' => ∃ g, e = .returned (.tuple #[.int .u64 ((P / Y : Nat) : Int), .slice (some ⟨g, 0, none⟩) (nb + 1) (nb + 1)]) ∧
      w.heap.size ≤ g ∧ Below w.heap.size w w' ∧ Cel w' g 66 (nb + 1) (limb (Y * (P / Y))) := by
  have HQ := Lib.hid (show P / Y < q ∧ q < LB from ⟨by rw [Nat.div_lt_iff_lt_mul hY0, Nat.mul_comm]; exact hgt, hq⟩)
  have HY := Lib.hid hY
  have HY0 := Lib.hid hY0
  have HP := Lib.hid hP
  have hb2 : 8 * (nb + 1) ≤ 281474976710656 := by omega
  have hb3 : nb + 1 ≤ 9223372036854775807 := by omega
  clear hq hgt hY hY0 hP
  go_enter Tryd.func105, Tryd.ntmps105
  go_wp2
  have hb0 : Below w.heap.size w (w.alloc (.cells #[.slice D dn dc, .slice A' nb c'] 86)) := (Below.refl _ _).alloc (Nat.le_refl _) _
  have hbox : (w.alloc (.cells #[.slice D dn dc, .slice A' nb c'] 86)).cell? ⟨w.heap.size, 1, none⟩ = some (.slice A' nb c') := by
    rw [World.cell?_alloc_at _ _ _ _ rfl]; rfl
  have hbl : w.heap.size < (w.alloc (.cells #[.slice D dn dc, .slice A' nb c'] 86)).heap.size := by simp
  generalize w.alloc (.cells #[.slice D dn dc, .slice A' nb c'] 86) = w0 at *
  have hr0 := hr.below hb0
  have hp0 := hrp.below hb0
  clear hr hrp
  go_loopw [2] (fun s wr => ∃ q : Nat, s = .int .u64 (q : Int) ∧ Hid (P / Y < q ∧ q < LB) ∧ Below w0.heap.size w0 wr) (fun s _ => (intOf s).toNat)
  case atStart => exact ⟨q, rfl, HQ.out, Below.refl _ _⟩
  case round =>
    obtain ⟨k, rfl, hk, hB⟩ := hrel
    have hbx : wr.cell? ⟨w.heap.size, 1, none⟩ = some (.slice A' nb c') := (hB.cell (p := ⟨w.heap.size, 1, none⟩) hbl).trans hbox
    obtain ⟨p, hp⟩ : ∃ p, k = p + 1 := ⟨k - 1, by have := Nat.lt_of_le_of_lt (Nat.zero_le _) hk.out.1; omega⟩
    have hpw : IntKind.u64.wrap ((k : Int) - 1) = (p : Int) := by
      have := hk.out.2
      rw [LB_eq] at this
      rw [IntKind.wrap_u64]; omega
    have HK := Lib.hid (show P / Y ≤ p ∧ p < LB ∧ p < k from ⟨by have := hk.out.1; omega, by have := hk.out.2; omega, by omega⟩)
    clear hp hk
    go_wp2_with (at_make; refine wpList_make_cel rfl (.tmp 14) (.tmp 14) _ rfl 66 (.int .u64 0) 8 under_limbs info_u64 rfl .i64 .i64 _ _ (nb + 1) rfl rfl rfl rfl hb2 hb3 ?_; intro w1 hC1 hB1 hlt1; have hbx1 : w1.cell? ⟨w.heap.size, 1, none⟩ = some (.slice A' nb c') := (hB1.cell (p := ⟨w.heap.size, 1, none⟩) (Nat.lt_of_lt_of_le hbl hB.size)).trans hbx)
    have hr1 := (hr0.below hB).below hB1
    have hp1 := (hp0.below hB).below hB1
    have hC2 : Cel w1 wr.heap.size 66 (nb + 1) (mix 0 (nb + 1) (limb 0) (limb 0)) := hC1.congr fun j hj => by
      have := mix_self 0 (nb + 1) (limb 0) j
      simp only [Nat.zero_add] at this
      rw [this]; unfold limb; rw [dgt_zero]; rfl
    have ho : Off A' wr.heap.size := by
      intro a ha hb
      rcases Nat.eq_zero_or_pos nb with h0 | h0
      · have h1 := HY.out
        have h2 := HY0.out
        rw [h0, Nat.pow_zero] at h1
        omega
      · obtain ⟨b, off, e, hc⟩ := hr0 h0
        rw [e] at ha
        injection ha with ha
        subst ha
        have := cell_lt (hc 0 h0)
        have h3 := hB.size
        simp at hb this
        omega
    go_wp2_with fail
    refine (plus_any wr.heap.size 0 (nb + 1) (nb + 1) (nb + 1) nb c' 0 Y p A' _ w1 (by omega) (by omega) hC2 (by omega) HK.out.2.1 HY.out hr1 ho).mono ?_
    rintro e w2 ⟨rfl, hg2, hC3⟩
    rw [Nat.zero_add] at hC3
    have hC4 := hC3.congr (f' := limb (Y * p)) fun j hj => by
      have := mix_self 0 (nb + 1) (limb (Y * p)) j
      simp only [Nat.zero_add] at this
      unfold mix at *
      rw [if_pos ⟨by omega, by omega⟩, Nat.sub_zero]
    have hlt2 : Y * p < LB ^ (nb + 1) := by
      rw [Nat.pow_succ]
      exact Nat.lt_of_lt_of_le (Nat.mul_lt_mul_of_pos_right HY.out (Nat.lt_of_le_of_lt (Nat.zero_le _) HK.out.2.1) |> fun _ => Nat.mul_lt_mul'' HY.out HK.out.2.1) (Nat.le_refl _)
    have cc := Lib.hid (cut_any (some ⟨wr.heap.size, 0, none⟩) (nb + 1) (nb + 1) (Y * p) w2 hb3 (Nat.le_refl _) hlt2 (Cel.rd0 hC4 (Nat.le_refl _)))
    have hnd : nd 64 (Y * p) ≤ nb + 1 := nd_LB hlt2
    clear hlt2 hC3
    go_wp2_with fail
    refine cc.out.mono ?_
    rintro e w3 ⟨rfl, rfl⟩
    have hB3 : Below w0.heap.size w0 w2 := by
      have h1 := below_bel hB hB1 hB.size
      exact below_grownBy h1 hg2 h1.size hB.size
    go_wp2_with fail
    refine (cmp_any _ A2 (nd 64 (Y * p)) np _ cp (Y * p) P w2 (by omega) (by omega) hnd hnpc (LB_nd _) HP.out (Cel.rd0 hC4 hnd) (hp0.below hB3)).mono ?_
    rintro e w4 ⟨rfl, m, rfl⟩
    by_cases hle : P < Y * p
    · have h1 : ¬ cmpI (Y * p) P ≤ 0 := by have := cmpI_gt.2 hle; omega
      have HL := Lib.hid hle
      clear hle
      go_wp2
      refine ⟨⟨p, rfl, ⟨by rw [Nat.div_lt_iff_lt_mul HY0.out, Nat.mul_comm]; exact HL.out, HK.out.2.1⟩, below_drewN' hB3 m⟩, by simp [intOf]; exact HK.out.2.2⟩
    · have h1 : cmpI (Y * p) P ≤ 0 := by
        have : ¬ 0 < cmpI (Y * p) P := fun h => hle (cmpI_gt.1 h)
        omega
      have HL := Lib.hid (show p = P / Y from Nat.le_antisymm ((Nat.le_div_iff_mul_le HY0.out).2 (by rw [Nat.mul_comm]; omega)) HK.out.1)
      clear hle
      go_wp2
      go_ret2
      refine ⟨wr.heap.size, by rw [← HL.out]; rfl, Nat.le_trans hb0.size hB.size, ?_, ?_⟩
      · exact below_drewN' (below_bel hb0 hB3 hb0.size) m
      · rw [← HL.out]; exact hC4.drewN m
end Go.Proofs.YtmnmfidcldmhdaaDoor
