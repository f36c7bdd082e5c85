/- The walks of package nat's functions: Of, Trim, Cmp, Len, Zeros, Sub, Mul, Add, Shl, Shr. -/
import Derived.Test.YtmnmfidcldmhdaaDoorNatD
namespace Go.Proofs.YtmnmfidcldmhdaaDoor
open Go.RowKit

/-- A text's number. -/
def sval (s : ByteArray) : Nat := bval s.data.toList
theorem sval_nstr (v : Nat) : sval (nstr v) = v := nstr_bval v
theorem sval_lt (s : ByteArray) : sval s < 256 ^ s.size := by have := bval_lt s.data.toList; rwa [show s.data.toList.length = s.size by simp] at this
theorem nd_sval (s : ByteArray) : nd 64 (sval s) ≤ (s.size + 7) / 8 := by have := nd_bval s.data.toList; rwa [show s.data.toList.length = s.size by simp] at this

theorem Cel.rd0 {w : World} {g : Nat} {t : TypeId} {T n : Nat} {f : Nat → Value} (h : Cel w g t T f) (hn : n ≤ T) : Rd w (some ⟨g, 0, none⟩) n f :=
  (h.rd (o := 0) (n := n) (by omega)).congr fun j _ => by rw [Nat.zero_add]
theorem of_rd (s : ByteArray) (w : World) (hs : s.size ≤ 4294967296) :
    Calls Tryd.prog 76 #[.string s] w fun e w' => ∃ g N, e = .returned (.slice (some ⟨g, 0, none⟩) (nd 64 (sval s)) N) ∧ w.heap.size ≤ g ∧ Below w.heap.size w w' ∧
      Cel w' g 66 N (limb (sval s)) ∧ nd 64 (sval s) ≤ N ∧ N ≤ 4294967296 ∧ Rd w' (some ⟨g, 0, none⟩) (nd 64 (sval s)) (limb (sval s)) :=
  (of_any s w hs).mono fun e w' ⟨g, N, he, hg, hb, hc, hN⟩ => by
    have h1 := nd_sval s
    have h2 : nd 64 (sval s) ≤ N := by omega
    exact ⟨g, N, he, hg, hb, hc, h2, by omega, Cel.rd0 hc h2⟩

theorem len_rd (A : Option Addr) (c v : Nat) (w : World) (hn : nd 64 v ≤ 4294967296) (hnc : nd 64 v ≤ c) (hr : Rd w A (nd 64 v) (limb v)) :
    Calls Tryd.prog 88 #[.slice A (nd 64 v) c] w fun e w' => e = .returned (.int .i64 (nd 1 v : Nat)) ∧ w = w' := len_any A _ c v w hn hnc (LB_nd v) hr
theorem text_rd (A : Option Addr) (c v : Nat) (w : World) (hn : nd 64 v ≤ 4294967296) (hnc : nd 64 v ≤ c) (hr : Rd w A (nd 64 v) (limb v)) :
    Calls Tryd.prog 78 #[.slice A (nd 64 v) c] w fun e w' => e = .returned (.string (nstr v)) ∧ Below w.heap.size w w' := text_any A _ c v w hn hnc (LB_nd v) hr
theorem cmp_rd (A A' : Option Addr) (c c' u v : Nat) (w : World) (hn : nd 64 u ≤ 4294967296) (hn' : nd 64 v ≤ 4294967296) (hnc : nd 64 u ≤ c) (hnc' : nd 64 v ≤ c') (hr : Rd w A (nd 64 u) (limb u)) (hr' : Rd w A' (nd 64 v) (limb v)) :
    Calls Tryd.prog 77 #[.slice A (nd 64 u) c, .slice A' (nd 64 v) c'] w fun e w' => e = .returned (.int .i64 (cmpI u v)) ∧ ∃ k, w' = w.drewN k :=
  cmp_any A A' _ _ c c' u v w hn hn' hnc hnc' (LB_nd u) (LB_nd v) hr hr'

set_option maxRecDepth 100000 in
set_option maxHeartbeats 400000 in
theorem nLen_any (s : ByteArray) (w : World) (hs : s.size ≤ 4294967296) :
    Calls Tryd.prog 55 #[.string s] w fun e w' => e = .returned (.int .i64 (nd 1 (sval s) : Nat)) ∧ Below w.heap.size w w' := by
  go_enter Tryd.func55, Tryd.ntmps55
  go_wp2_with fail
  refine (of_rd s w hs).mono ?_
  rintro e w1 ⟨g, N, rfl, hg, hb, hc, h1, h2, hr⟩
  go_wp2_with fail
  refine (len_rd _ _ _ _ (by omega) h1 hr).mono ?_
  rintro e w2 ⟨rfl, rfl⟩
  go_wp2
  go_ret
  exact ⟨rfl, hb⟩

set_option maxRecDepth 100000 in
set_option maxHeartbeats 400000 in
theorem nCmp_any (s t : ByteArray) (w : World) (hs : s.size ≤ 4294967296) (ht : t.size ≤ 4294967296) :
    Calls Tryd.prog 99 #[.string s, .string t] w fun e w' => e = .returned (.int .i64 (cmpI (sval s) (sval t))) ∧ Below w.heap.size w w' := by
  go_enter Tryd.func99, Tryd.ntmps99
  go_wp2_with fail
  refine (of_rd s w hs).mono ?_
  rintro e w1 ⟨g, N, rfl, hg, hb, hc, h1, h2, hr⟩
  go_wp2_with fail
  refine (of_rd t w1 ht).mono ?_
  rintro e w2 ⟨g', N', rfl, hg', hb', hc', h1', h2', hr'⟩
  go_wp2_with fail
  refine (cmp_rd _ _ _ _ _ _ _ (by omega) (by omega) h1 h1' (hr.below hb') hr').mono ?_
  rintro e w3 ⟨rfl, k, rfl⟩
  go_wp2
  go_ret
  exact ⟨rfl, below_drewN' (below_bel hb hb' hb.size) k⟩

set_option maxRecDepth 100000 in
set_option maxHeartbeats 400000 in
theorem nTrim_any (s : ByteArray) (w : World) :
    Calls Tryd.prog 60 #[.string s] w fun e w' => e = .returned (.string (nstr (sval s))) ∧ w = w' := by
  have ht := Tryd.strings_TrimLeft_one s 0 (by decide) w
  have he : (⟨(Lib.trimLeftB s.data.toList 0).toArray⟩ : ByteArray) = nstr (sval s) := by unfold nstr sval; rw [nbytes_dropWhile]; rfl
  rw [he] at ht
  have HT := Lib.hid ht
  clear ht he
  go_enter Tryd.func60, Tryd.ntmps60
  go_wp2_with fail
  refine HT.out.mono ?_
  rintro e w1 ⟨rfl, rfl⟩
  go_wp2
  go_ret
  exact ⟨rfl, rfl⟩

set_option maxRecDepth 100000 in
set_option maxHeartbeats 400000 in
theorem nOf_any (n : Nat) (w : World) (hn : n < LB) :
    Calls Tryd.prog 59 #[.int .u64 (n : Nat)] w fun e w' => e = .returned (.string (nstr n)) ∧ Below w.heap.size w w' := by
  have hr : Rd (w.alloc (.cells #[.int .u64 (n : Nat)] 66)) (some ⟨w.heap.size, 0, none⟩) 1 (limb n) := by
    have := (Cel.new w 66 #[.int .u64 (n : Nat)]).rd (o := 0) (n := 1) (by simp)
    refine this.congr fun j hj => ?_
    obtain rfl : j = 0 := by omega
    simp [limb, dgt, Nat.mod_eq_of_lt hn]
  have ht := Lib.hid (text_any (some ⟨w.heap.size, 0, none⟩) 1 1 n _ (by omega) (by omega) (by simpa using hn) hr)
  clear hr hn
  go_enter Tryd.func59, Tryd.ntmps59
  go_wp2_with fail
  refine ht.out.mono ?_
  rintro e w1 ⟨rfl, hb⟩
  go_wp2
  go_ret
  exact ⟨rfl, below_bel ((Below.refl _ _).alloc (Nat.le_refl _) _) hb (by simp)⟩

theorem mix_self (o n : Nat) (f : Nat → Value) (j : Nat) : mix o n (fun i => f (o + i)) f j = f j := by
  unfold mix; split
  · rename_i h; simp only; congr 1; omega
  · rfl

set_option maxRecDepth 100000 in
set_option maxHeartbeats 400000 in
theorem nSub_any (s t : ByteArray) (w : World) (hs : s.size ≤ 4294967296) (ht : t.size ≤ 4294967296) :
    Calls Tryd.prog 70 #[.string s, .string t] w fun e w' => e = .returned (if sval s < sval t then .tuple #[.string ⟨#[]⟩, .bool false] else .tuple #[.string (nstr (sval s - sval t)), .bool true]) ∧ Below w.heap.size w w' := by
  by_cases hlt : sval s < sval t
  · rw [if_pos hlt]
    have hc := cmpI_lt.2 hlt
    clear hlt
    go_enter Tryd.func70, Tryd.ntmps70
    go_wp2_with fail
    refine (of_rd s w hs).mono ?_
    rintro e w1 ⟨g, N, rfl, hg, hb, hC, h1, h2, hr⟩
    go_wp2_with fail
    refine (of_rd t w1 ht).mono ?_
    rintro e w2 ⟨g', N', rfl, hg', hb', hC', h1', h2', hr'⟩
    go_wp2_with fail
    refine (cmp_rd _ _ _ _ _ _ _ (by omega) (by omega) h1 h1' (hr.below hb') hr').mono ?_
    rintro e w3 ⟨rfl, k, rfl⟩
    go_wp2
    go_ret2
    exact ⟨rfl, below_drewN' (below_bel hb hb' hb.size) k⟩
  · rw [if_neg hlt]
    have hc : ¬ cmpI (sval s) (sval t) < 0 := fun h => hlt (cmpI_lt.1 h)
    have hle := Lib.hid (Nat.le_of_not_lt hlt)
    clear hlt
    go_enter Tryd.func70, Tryd.ntmps70
    go_wp2_with fail
    refine (of_rd s w hs).mono ?_
    rintro e w1 ⟨g, N, rfl, hg, hb, hC, h1, h2, hr⟩
    go_wp2_with fail
    refine (of_rd t w1 ht).mono ?_
    rintro e w2 ⟨g', N', rfl, hg', hb', hC', h1', h2', hr'⟩
    go_wp2_with fail
    refine (cmp_rd _ _ _ _ _ _ _ (by omega) (by omega) h1 h1' (hr.below hb') hr').mono ?_
    rintro e w3 ⟨rfl, k, rfl⟩
    have hgl := hC.lt
    have hC2 : Cel (w2.drewN k) g 66 N (mix 0 (nd 64 (sval s)) (limb (sval s)) (limb (sval s))) := ((hC.bel hb').drewN k).congr fun j _ => by
      have := mix_self 0 (nd 64 (sval s)) (limb (sval s)) j
      simp only [Nat.zero_add] at this
      exact this.symm
    go_wp2_with fail
    refine (take_any _ _ _ _ _ _ _ _ _ _ _ _ (by omega) (by omega) hC2 (by omega) (LB_nd _) hle.out (LB_nd _) (hr'.drewN k) (Off.some_ (by omega))).mono ?_
    rintro e w4 ⟨rfl, hg4, hC4⟩
    have hnd : nd 64 (sval s - sval t) ≤ nd 64 (sval s) := nd_mono (by decide) (Nat.sub_le _ _)
    have hr4 : Rd w4 (some ⟨g, 0, none⟩) (nd 64 (sval s)) (limb (sval s - sval t)) := (hC4.rd (o := 0) (n := nd 64 (sval s)) (by omega)).congr fun j hj => mix_in hj
    go_wp2_with fail
    refine (text_any _ _ _ _ _ (by omega) h1 (Nat.lt_of_le_of_lt (Nat.sub_le _ _) (LB_nd _)) hr4).mono ?_
    rintro e w5 ⟨rfl, hb5⟩
    go_wp2
    go_ret2
    have hbk := below_drewN' (below_bel hb hb' hb.size) k
    have hb4 : Below w.heap.size w w4 := below_grownBy hbk hg4 hbk.size hg
    exact ⟨rfl, below_bel hb4 hb5 hb4.size⟩

theorem tab_keep {g : Nat} {tab : List Nat} {w w' : World} (h : TabAt g tab w) (hb : Below w.heap.size w w') : TabAt g tab w' := fun j hj => (hb.cell (p := ⟨g, j, none⟩) (cell_lt (h j hj))).trans (h j hj)

set_option maxRecDepth 100000 in
set_option maxHeartbeats 400000 in
theorem nZeros_any (s : ByteArray) (w : World) (hs : s.size ≤ 4294967296) (hT : TabAt 0 Lib.deBruijn64tab w) :
    Calls Tryd.prog 56 #[.string s] w fun e w' => e = .returned (.int .i64 (tz (sval s) : Nat)) ∧ Below w.heap.size w w' := by
  have HT := Lib.hid hT
  clear hT
  go_enter Tryd.func56, Tryd.ntmps56
  go_wp2_with fail
  refine (of_rd s w hs).mono ?_
  rintro e w1 ⟨g, N, rfl, hg, hb, hC, h1, h2, hr⟩
  go_wp2
  go_loop [8] (fun i => ∃ k : Nat, k ≤ nd 64 (sval s) ∧ i = .int .i64 k ∧ Hid (∀ j, j < k → dgt LB (sval s) j = 0)) (fun i => nd 64 (sval s) - (intOf i).toNat)
  case atStart => exact ⟨0, Nat.zero_le _, rfl, fun j hj => by omega⟩
  case round =>
    obtain ⟨k, hk, rfl, hz⟩ := hrel
    by_cases hlt : k < nd 64 (sval s)
    · have g1 : w1.cell? ⟨g, k, none⟩ = some (.int .u64 (dgt LB (sval s) k : Nat)) := hC.cell (by omega)
      by_cases hd : dgt LB (sval s) k = 0
      · have HD := Lib.hid hd
        have hd0 : (((dgt LB (sval s) k : Nat) : Int) != 0) = false := by rw [hd]; rfl
        clear hd
        go_wp2
        refine ⟨⟨k + 1, hlt, by go_num, fun j hj => ?_⟩, by simp [intOf]; omega⟩
        by_cases e : j = k
        · subst e; exact HD.out
        · exact hz.out j (by omega)
      · have hd0 : (((dgt LB (sval s) k : Nat) : Int) != 0) = true := by rw [bne_iff_ne]; omega
        have hfin := Lib.hid (show tz (sval s) = 64 * k + tz (dgt LB (sval s) k) from tz_limb (by
          refine dgt_ext (B := LB) (n := k) (Nat.mod_lt _ (Nat.pow_pos LB_pos)) (Nat.pow_pos LB_pos) fun j hj => ?_
          rw [dgt_mod hj, dgt_zero]; exact hz.out j hj) hd)
        have hc := Tryd.bits_TrailingZeros64 (dgt LB (sval s) k) (dgt_lt LB_pos _ _) w1 (fun _ => tab_keep HT.out hb)
        have htb : Lib.ctz 64 (dgt LB (sval s) k) ≤ 64 := by
          obtain ⟨m, _, hm⟩ := Lib.ctzFrom_spec 64 (dgt LB (sval s) k) (by omega) (dgt_lt LB_pos _ _)
          unfold Lib.ctz; rw [if_neg hd]; omega
        rw [tz_ctz hd (dgt_lt LB_pos _ _)] at hc htb
        have HC := Lib.hid hc
        clear hd hc
        go_wp2_with fail
        refine HC.out.mono ?_
        rintro e w2 ⟨rfl, rfl⟩
        go_wp2
        go_ret
        exact ⟨ret_int' (by rw [hfin.out]; omega), hb⟩
    · obtain rfl : k = nd 64 (sval s) := by omega
      have hfin := Lib.hid (show sval s = 0 by
        refine dgt_ext (B := LB) (n := nd 64 (sval s)) (LB_nd _) (Nat.pow_pos LB_pos) fun j hj => ?_
        rw [dgt_zero]; exact hz.out j hj)
      go_wp2
      go_ret
      exact ⟨by rw [hfin.out]; rfl, hb⟩

set_option maxRecDepth 100000 in
set_option maxHeartbeats 400000 in
theorem nMul_any (s t : ByteArray) (w : World) (hs : s.size ≤ 4294967296) (ht : t.size ≤ 4294967296) :
    Calls Tryd.prog 73 #[.string s, .string t] w fun e w' => e = .returned (.string (nstr (sval s * sval t))) ∧ Below w.heap.size w w' := by
  have b1 : nd 64 (sval s) ≤ 1073741824 := by have := nd_sval s; omega
  have b2 : nd 64 (sval t) ≤ 1073741824 := by have := nd_sval t; omega
  have hb2 : 8 * (nd 64 (sval s) + nd 64 (sval t) + 1) ≤ 281474976710656 := by omega
  have hb3 : nd 64 (sval s) + nd 64 (sval t) + 1 ≤ 9223372036854775807 := by omega
  go_enter Tryd.func73, Tryd.ntmps73
  go_wp2_with fail
  refine (of_rd s w hs).mono ?_
  rintro e w1 ⟨g, N, rfl, hg, hb, hC, h1, h2, hr⟩
  go_wp2_with fail
  refine (of_rd t w1 ht).mono ?_
  rintro e w2 ⟨g', N', rfl, hg', hb', hC', h1', h2', hr'⟩
  have hbb := below_bel hb hb' hb.size
  have hgl := hC'.lt
  go_wp2_with (at_make; refine wpList_make_cel rfl (.tmp 19) (.tmp 19) _ rfl 66 (.int .u64 0) 8 under_limbs info_u64 rfl .i64 .i64 _ _ (nd 64 (sval s) + nd 64 (sval t) + 1) rfl rfl rfl rfl hb2 hb3 ?_; intro w3 hC3 hB3 hlt3)
  go_loopw [23] (fun i wr => ∃ k : Nat, k ≤ nd 64 (sval s) ∧ i = .int .i64 k ∧ w3.grownBy wr (some w2.heap.size) ∧ Cel wr w2.heap.size 66 (nd 64 (sval s) + nd 64 (sval t) + 1) (limb (sval s % LB ^ k * sval t))) (fun i _ => nd 64 (sval s) - (intOf i).toNat)
  case atStart => exact ⟨0, Nat.zero_le _, rfl, World.grownBy.refl _ _, hC3.congr fun j hj => by unfold limb; rw [Nat.pow_zero, Nat.mod_one, Nat.zero_mul, dgt_zero]; rfl⟩
  case round =>
    obtain ⟨k, hk, rfl, hgr, hC4⟩ := hrel
    have hbr : Below w2.heap.size w2 wr := below_grownBy hB3 hgr hB3.size (Nat.le_refl _)
    by_cases hlt : k < nd 64 (sval s)
    · have g1 : wr.cell? ⟨g, k, none⟩ = some (.int .u64 (dgt LB (sval s) k : Nat)) := ((hC.bel hb').bel hbr).cell (by omega)
      have hC5 : Cel wr w2.heap.size 66 (nd 64 (sval s) + nd 64 (sval t) + 1) (mix k (nd 64 (sval s) + nd 64 (sval t) + 1 - k) (limb (sval s % LB ^ k * sval t / LB ^ k)) (limb (sval s % LB ^ k * sval t))) :=
        hC4.congr fun j hj => by
          unfold mix
          by_cases h : k ≤ j ∧ j < k + (nd 64 (sval s) + nd 64 (sval t) + 1 - k)
          · rw [if_pos h]; unfold limb; rw [dgt_div, show k + (j - k) = j by omega]
          · rw [if_neg h]
      have hrt : Rd wr (some ⟨g', 0, none⟩) (nd 64 (sval t)) (limb (sval t)) := hr'.below hbr
      have hpl := Lib.hid (plus_any w2.heap.size k (nd 64 (sval s) + nd 64 (sval t) + 1 - k) (nd 64 (sval s) + nd 64 (sval t) + 1 - k) (nd 64 (sval s) + nd 64 (sval t) + 1) (nd 64 (sval t)) N' _ (sval t) (dgt LB (sval s) k) _ _ wr (by omega) (by omega) hC5 (by omega) (dgt_lt LB_pos _ _) (LB_nd _) hrt (Off.some_ (by omega)))
      go_wp2_with fail
      refine hpl.out.mono ?_
      rintro e w5 ⟨rfl, hg5, hC6⟩
      go_wp2
      refine ⟨⟨k + 1, hlt, by go_num, grownBy_trans hgr hg5, hC6.congr fun j hj => ?_⟩, by simp [intOf]; omega⟩
      have e : sval s % LB ^ (k + 1) * sval t = sval s % LB ^ k * sval t + LB ^ k * (sval t * dgt LB (sval s) k) := by
        rw [mod_succ, Nat.add_mul, Nat.mul_assoc, Nat.mul_comm (sval t)]
      rw [e]
      unfold mix limb
      by_cases h : k ≤ j ∧ j < k + (nd 64 (sval s) + nd 64 (sval t) + 1 - k)
      · rw [if_pos h]
        obtain ⟨i, rfl⟩ : ∃ i, j = k + i := ⟨j - k, by omega⟩
        rw [dgt_add_ge LB_pos, Nat.add_sub_cancel_left]
      · rw [if_neg h, dgt_add_lt (by omega)]
    · obtain rfl : k = nd 64 (sval s) := by omega
      rw [Nat.mod_eq_of_lt (LB_nd _)] at hC4
      have hlt4 : sval s * sval t < LB ^ (nd 64 (sval s) + nd 64 (sval t) + 1) := by
        rw [Nat.pow_succ, Nat.pow_add]
        exact Nat.lt_of_lt_of_le (Nat.mul_lt_mul'' (LB_nd _) (LB_nd _)) (Nat.le_mul_of_pos_right _ LB_pos)
      have htx := Lib.hid (text_any _ _ _ _ wr (by omega) (Nat.le_refl _) hlt4 (Cel.rd0 hC4 (Nat.le_refl _)))
      clear hlt4
      go_wp2_with fail
      refine htx.out.mono ?_
      rintro e w5 ⟨rfl, hb5⟩
      go_wp2
      go_ret
      have hb6 := below_bel hbb hbr hbb.size
      exact ⟨rfl, below_bel hb6 hb5 hb6.size⟩

end Go.Proofs.YtmnmfidcldmhdaaDoor
