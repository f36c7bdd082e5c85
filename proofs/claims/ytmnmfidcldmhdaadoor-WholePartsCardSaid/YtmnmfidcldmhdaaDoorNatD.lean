/- The walks of package nat's limbs: up, down. -/
import Derived.Test.YtmnmfidcldmhdaaDoorNatC
import Derived.StillTailTactics
namespace Go.Proofs.YtmnmfidcldmhdaaDoor
open Go.RowKit

set_option maxRecDepth 100000 in
set_option maxHeartbeats 400000 in
theorem up_any (A : Option Addr) (n c v sh : Nat) (w : World) (hn : n ≤ 4294967296) (hnc : n ≤ c) (hsh : sh ≤ 68719476736) (hv : v < LB ^ n) (hr : Rd w A n (limb v)) :
    Calls Tryd.prog 80 #[.slice A n c, .int .i64 (sh : Nat)] w fun e w' => ∃ g N, e = .returned (.slice (some ⟨g, 0, none⟩) (nd 64 (v * 2 ^ sh)) N) ∧ w.heap.size ≤ g ∧ Below w.heap.size w w' ∧
      Cel w' g 66 N (limb (v * 2 ^ sh)) ∧ N = n + sh / 64 + 1 := by
  obtain ⟨q, hq⟩ : ∃ q, q = sh / 64 := ⟨_, rfl⟩
  obtain ⟨s, hs⟩ : ∃ s, s = sh % 64 := ⟨_, rfl⟩
  have hqs : sh = 64 * q + s := by omega
  have e1 : (sh : Int) / 64 = (q : Int) := by omega
  have e2 : (sh : Int) % 64 = (s : Int) := by omega
  have e3 : (sh : Int).tmod 64 = (s : Int) := by rw [Int.tmod_eq_emod_of_nonneg (by omega)]; exact e2
  have hs64 : s < 64 := by omega
  have hq2 : q ≤ 1073741824 := by omega
  rw [← hq]
  have HQ := Lib.hid hqs
  have HV := Lib.hid hv
  have hb2 : 8 * (n + q + 1) ≤ 281474976710656 := by omega
  have hb3 : n + q + 1 ≤ 9223372036854775807 := by omega
  clear hq hs hqs hv
  go_enter Tryd.func80, Tryd.ntmps80
  go_wp2_with (at_make; refine wpList_make_cel rfl (.tmp 14) (.tmp 14) _ rfl 66 (.int .u64 0) 8 under_limbs info_u64 rfl .i64 .i64 _ _ (n + q + 1) rfl rfl rfl rfl hb2 hb3 ?_; intro w1 hC hB hlt)
  go_loopw [18] (fun i wr => ∃ k : Nat, k ≤ n ∧ i = .int .i64 k ∧ Below w.heap.size w wr ∧ Cel wr w.heap.size 66 (n + q + 1) (limb (v % LB ^ k * 2 ^ sh))) (fun i _ => n - (intOf i).toNat)
  case atStart => exact ⟨0, Nat.zero_le _, rfl, hB, hC.congr fun j hj => by unfold limb; rw [Nat.pow_zero, Nat.mod_one, Nat.zero_mul, dgt_zero]; rfl⟩
  case round =>
    obtain ⟨k, hk, rfl, hB2, hC2⟩ := hrel
    by_cases hlt : k < n
    · obtain ⟨b, off, rfl, hc⟩ := hr (by omega)
      have g1 : wr.cell? ⟨b, off + k, none⟩ = some (.int .u64 (dgt LB v k : Nat)) := cell_later hB2 (hc k hlt)
      have g2 : wr.cell? ⟨w.heap.size, k + q, none⟩ = some (.int .u64 (dgt LB (v % LB ^ k * 2 ^ sh) (k + q) : Nat)) := hC2.cell (i := k + q) (by omega)
      have g3 := hC2.frozen (k + q)
      clear hc
      have hd : dgt LB v k < LB := dgt_lt LB_pos v k
      have hU : v % LB ^ k * 2 ^ sh < LB ^ (k + q) * 2 ^ s := by
        have h1 := Nat.mod_lt v (Nat.pow_pos (n := k) LB_pos)
        rw [HQ.out, Nat.pow_add 2, Nat.pow_add LB, LB_pow, pow2_pow 64 q, ← Nat.mul_assoc]
        exact Nat.mul_lt_mul_of_pos_right (Nat.mul_lt_mul_of_pos_right h1 (Nat.two_pow_pos _)) (Nat.two_pow_pos s)
      have hst := dgt_up hU hd hs64
      have hU2 : v % LB ^ k * 2 ^ sh + LB ^ (k + q) * (2 ^ s * dgt LB v k) = v % LB ^ (k + 1) * 2 ^ sh := by
        rw [mod_succ, HQ.out, Nat.pow_add 2, Nat.pow_add LB, LB_pow, pow2_pow 64 q, Nat.add_mul]
        congr 1
        simp only [Nat.mul_assoc, Nat.mul_left_comm, Nat.mul_comm]
      rw [hU2] at hst
      have ho := or_u64 (dgt LB (v % LB ^ k * 2 ^ sh) (k + q)) (dgt LB v k * 2 ^ s % LB) (dgt_lt LB_pos _ _) (Nat.mod_lt _ LB_pos)
      have hsl := shl_wrap_mod (dgt LB v k) s
      have hz : dgt LB (v % LB ^ k * 2 ^ sh) (k + q + 1) = 0 := by
        refine dgt_big' (n := k + q + 1) LB_pos ?_ (Nat.le_refl _)
        rw [Nat.pow_succ]
        exact Nat.lt_of_lt_of_le hU (Nat.mul_le_mul_left _ (by rw [LB_pow]; exact Nat.pow_le_pow_right (by decide) (by omega)))
      have HS := Lib.hid hst
      have HZ := Lib.hid hz
      obtain ⟨d, hdd⟩ : ∃ d, d = dgt LB v k := ⟨_, rfl⟩
      rw [← hdd] at g1 ho hsl
      obtain ⟨lo, hlo⟩ : ∃ lo, lo = d * 2 ^ s % LB := ⟨_, rfl⟩
      rw [← hlo] at ho hsl
      have hn1 : (dgt LB (v % LB ^ k * 2 ^ sh) (k + q) ||| lo) = dgt LB (v % LB ^ (k + 1) * 2 ^ sh) (k + q) := by rw [hst, if_pos rfl, ← hdd, hlo]
      rw [hn1] at ho
      have hw1 : IntKind.i64.wrap (s : Int) = (s : Int) := IntWalk.i64_in _ (by omega)
      have hw2 : IntKind.i64.wrap (64 - (s : Int)) = 64 - (s : Int) := IntWalk.i64_in _ (by omega)
      have hw3 : IntKind.i64.wrap ((k : Int) + (q : Int) + 1) = (k : Int) + (q : Int) + 1 := IntWalk.i64_in _ (by omega)
      have b1 : (0 : Int) ≤ (k : Int) + (q : Int) := by omega
      have b2 : (k : Int) + (q : Int) < (n : Int) + (q : Int) + 1 := by omega
      have b3 : ((k : Int) + (q : Int)).toNat = k + q := by omega
      have b4 : (0 : Int) ≤ (k : Int) + (q : Int) + 1 := by omega
      have b5 : (k : Int) + (q : Int) + 1 < (n : Int) + (q : Int) + 1 := by omega
      have b6 : ((k : Int) + (q : Int) + 1).toNat = k + q + 1 := by omega
      have HD := Lib.hid hdd
      have HL := Lib.hid hlo
      clear hst hz hdd hlo hn1 hU2 hU hd
      go_wp2
      go_still_tail 10, (by kernel_rfl)
      change wpList _ _ _ _ _ wr.drew
      have hB3 := hB2.drew
      have hC3 := hC2.drew
      have g4 : wr.drew.cell? ⟨w.heap.size, k + q, none⟩ = some (.int .u64 (dgt LB (v % LB ^ k * 2 ^ sh) (k + q) : Nat)) := hC3.cell (i := k + q) (by omega)
      have g5 := hC3.frozen (k + q)
      clear hB2 hC2 g1 g2 g3
      generalize wr.drew = w2 at *
      by_cases hs0 : 0 < s
      · have hsr : ((d : Nat) : Int) / 2 ^ (64 - s) = ((d / 2 ^ (64 - s) : Nat) : Int) := shr_cast d (64 - s)
        have ht6 : (64 - (s : Int)).toNat = 64 - s := by omega
        have hor0 : bits .or .u64 0 ((d / 2 ^ (64 - s) : Nat) : Int) = ((d / 2 ^ (64 - s) : Nat) : Int) := by
          have hdl : d < LB := by rw [HD.out]; exact dgt_lt LB_pos v k
          have := or_u64 0 (d / 2 ^ (64 - s)) LB_pos (Nat.lt_of_le_of_lt (Nat.div_le_self _ _) hdl)
          rw [Nat.zero_or] at this
          exact this
        obtain ⟨hi, hhi⟩ : ∃ hi, hi = d / 2 ^ (64 - s) := ⟨_, rfl⟩
        rw [← hhi] at hsr hor0
        have HH := Lib.hid hhi
        clear hhi
        have hC4 := hC3.set_ (k + q) (.int .u64 ((dgt LB (v % LB ^ (k + 1) * 2 ^ sh) (k + q) : Nat) : Int))
        have hB4 := hB3.setCell (p := ⟨w.heap.size, k + q, none⟩) (Nat.le_refl _) (.int .u64 ((dgt LB (v % LB ^ (k + 1) * 2 ^ sh) (k + q) : Nat) : Int))
        have HC4 := Lib.hid hC4
        clear hC4
        go_wp2
        have hC5 := HC4.out
        clear HC4
        generalize w2.setCell ⟨w.heap.size, k + q, none⟩ (.int .u64 ((dgt LB (v % LB ^ (k + 1) * 2 ^ sh) (k + q) : Nat) : Int)) = w3 at *
        have g6 : w3.cell? ⟨w.heap.size, k + q + 1, none⟩ = some (.int .u64 0) := by
          rw [hC5.cell (i := k + q + 1) (by omega), if_neg (by omega)]; unfold limb; rw [HZ.out]; rfl
        have g7 := hC5.frozen (k + q + 1)
        clear g4 g5 hC3
        go_still_tail 12, (by kernel_rfl)
        change wpList _ _ _ _ _ w3.drew
        have hB6 := hB4.drew
        have hC6 := hC5.drew
        have g8 : w3.drew.cell? ⟨w.heap.size, k + q + 1, none⟩ = some (.int .u64 0) := g6
        have g9 := hC6.frozen (k + q + 1)
        clear hB4 hC5 g6 g7
        generalize w3.drew = w4 at *
        go_wp2
        refine ⟨⟨k + 1, hlt, by go_num, hB6.setCell (Nat.le_refl _) _, (hC6.set_ (k + q + 1) _).congr fun j hj => ?_⟩, by simp [intOf]; omega⟩
        have h1 := HS.out j
        unfold limb
        rw [h1]
        by_cases a1 : j = k + q + 1
        · subst a1; rw [if_pos rfl, if_neg (by omega), if_pos rfl, ← HD.out, ← HH.out]
        · rw [if_neg a1, if_neg a1]
          by_cases a2 : j = k + q
          · subst a2; rw [if_pos rfl, if_pos rfl, HS.out (k + q), if_pos rfl]
          · rw [if_neg a2, if_neg a2]
      · go_wp2
        refine ⟨⟨k + 1, hlt, by go_num, hB3.setCell (Nat.le_refl _) _, (hC3.set_ (k + q) _).congr fun j hj => ?_⟩, by simp [intOf]; omega⟩
        have h1 := HS.out j
        unfold limb
        by_cases a2 : j = k + q
        · subst a2; rw [if_pos rfl]
        · rw [if_neg a2, h1, if_neg a2]
          by_cases a1 : j = k + q + 1
          · subst a1
            have hdl : dgt LB v k < LB := dgt_lt LB_pos v k
            rw [if_pos rfl, HZ.out, show 64 - s = 64 by omega, Nat.div_eq_of_lt (by rw [← LB_pow]; exact hdl)]
          · rw [if_neg a1]
    · obtain rfl : k = n := by omega
      rw [Nat.mod_eq_of_lt HV.out] at hC2
      have hrd : Rd wr (some ⟨w.heap.size, 0, none⟩) (k + q + 1) (limb (v * 2 ^ sh)) := by simpa using hC2.rd (o := 0) (n := k + q + 1) (by omega)
      have hvv := Lib.hid (show v * 2 ^ sh < LB ^ (k + q + 1) by
        rw [HQ.out, Nat.pow_add 2, Nat.pow_succ, Nat.pow_add LB, ← Nat.mul_assoc, LB_pow, pow2_pow 64 q]
        refine Nat.lt_of_lt_of_le (Nat.mul_lt_mul_of_pos_right (Nat.mul_lt_mul_of_pos_right (show v < (2 ^ 64) ^ k from HV.out) (Nat.two_pow_pos (64 * q))) (Nat.two_pow_pos s)) ?_
        exact Nat.mul_le_mul_left _ (Nat.pow_le_pow_right (by decide) (by omega)))
      go_wp2_with (go_at_call 83; refine (cut_any _ _ _ _ _ hb3 (Nat.le_refl _) hvv.out hrd).mono ?_; rintro e w' ⟨rfl, rfl⟩)
      go_ret
      exact ⟨_, _, rfl, Nat.le_refl _, hB2, hC2, rfl⟩

theorem dgt_shr_zero {v n sh : Nat} (hv : v < LB ^ n) (h : n ≤ sh / 64) : v / 2 ^ sh = 0 := by
  refine Nat.div_eq_of_lt (Nat.lt_of_lt_of_le hv ?_)
  rw [LB_pow, pow2_pow]
  exact Nat.pow_le_pow_right (by decide) (by omega)

set_option maxRecDepth 100000 in
set_option maxHeartbeats 400000 in
theorem down_nil (A : Option Addr) (n c _v sh : Nat) (w : World) (hn : n ≤ 4294967296) (hsh : sh ≤ 9223372036854775807) (hq : n ≤ sh / 64) :
    Calls Tryd.prog 84 #[.slice A n c, .int .i64 (sh : Nat)] w fun e w' => e = .returned (.slice none 0 0) ∧ w = w' := by
  have hq2 : (n : Int) ≤ (sh : Int) / 64 := by omega
  clear hq
  go_enter Tryd.func84, Tryd.ntmps84
  go_wp2
  go_ret
  exact ⟨rfl, rfl⟩

set_option maxRecDepth 100000 in
set_option maxHeartbeats 400000 in
theorem down_some (A : Option Addr) (n c v sh : Nat) (w : World) (hn : n ≤ 4294967296) (hnc : n ≤ c) (hsh : sh ≤ 9223372036854775807) (hq0 : sh / 64 < n) (hv : v < LB ^ n) (hr : Rd w A n (limb v)) :
    Calls Tryd.prog 84 #[.slice A n c, .int .i64 (sh : Nat)] w fun e w' => ∃ g N, e = .returned (.slice (some ⟨g, 0, none⟩) (nd 64 (v / 2 ^ sh)) N) ∧ w.heap.size ≤ g ∧ Below w.heap.size w w' ∧
      Cel w' g 66 N (limb (v / 2 ^ sh)) ∧ N ≤ n ∧ nd 64 (v / 2 ^ sh) ≤ N := by
  obtain ⟨q, hq⟩ : ∃ q, q = sh / 64 := ⟨_, rfl⟩
  obtain ⟨s, hs⟩ : ∃ s, s = sh % 64 := ⟨_, rfl⟩
  have hqs : sh = 64 * q + s := by omega
  have e1 : (sh : Int) / 64 = (q : Int) := by omega
  have e2 : (sh : Int) % 64 = (s : Int) := by omega
  have e3 : (sh : Int).tmod 64 = (s : Int) := by rw [Int.tmod_eq_emod_of_nonneg (by omega)]; exact e2
  have hs64 : s < 64 := by omega
  rw [← hq] at hq0
  obtain ⟨b, off, rfl, hc⟩ := hr (by omega)
  obtain ⟨N, hN⟩ : ∃ N, n = q + N := ⟨n - q, by omega⟩
  have hX : v / LB ^ q < LB ^ N := by rw [Nat.div_lt_iff_lt_mul (Nat.pow_pos LB_pos), ← Nat.pow_add, Nat.add_comm, ← hN]; exact hv
  have hr2 : Rd w (some ⟨b, off + q, none⟩) N (limb (v / LB ^ q)) := fun _ => ⟨b, off + q, rfl, fun j hj => by
    rw [Nat.add_assoc, hc (q + j) (by omega)]; unfold limb; rw [dgt_div]⟩
  have cc := Lib.hid (copied_any (some ⟨b, off + q, none⟩) N (c - q) (v / LB ^ q) 0 N w (by omega) (by omega) (by omega) (by simp) (by omega) hX hr2)
  have hC := Lib.hid hc
  have HQ := Lib.hid hqs
  have HV := Lib.hid hv
  subst hN
  have h3 : q + N - q = N := by omega
  have hN0 : 0 < N := by omega
  clear hq hs hqs hv hc hr hX hr2
  go_enter Tryd.func84, Tryd.ntmps84
  go_wp2_with fail
  refine cc.out.mono ?_
  rintro e w1 ⟨g, rfl, hgw, hB, hC1⟩
  have hglt := hC1.lt
  go_wp2
  go_loopw [19] (fun i wr => ∃ k : Nat, k ≤ N ∧ i = .int .i64 k ∧ Below w.heap.size w wr ∧ Cel wr g 66 N (fun j => if j < k then limb (v / 2 ^ sh) j else limb (v / LB ^ q) j)) (fun i _ => N - (intOf i).toNat)
  case atStart => exact ⟨0, Nat.zero_le _, rfl, hB, hC1.congr fun j hj => by rw [if_neg (by omega)]; rfl⟩
  case round =>
    obtain ⟨k, hk, rfl, hB2, hC2⟩ := hrel
    by_cases hlt : k < N
    · have g1 : wr.cell? ⟨g, k, none⟩ = some (.int .u64 (dgt LB (v / LB ^ q) k : Nat)) := by rw [hC2.cell hlt, if_neg (by omega)]; rfl
      have g2 := hC2.frozen k
      have hdn := dgt_down v q s k hs64
      rw [← HQ.out, ← dgt_div LB v q k] at hdn
      have hsr := shr_cast (dgt LB (v / LB ^ q) k) s
      have hdl : dgt LB (v / LB ^ q) k / 2 ^ s < LB := Nat.lt_of_le_of_lt (Nat.div_le_self _ _) (dgt_lt LB_pos _ _)
      have ho := or_u64 (dgt LB (v / LB ^ q) k / 2 ^ s) (dgt LB v (q + k + 1) * 2 ^ (64 - s) % LB) hdl (Nat.mod_lt _ LB_pos)
      rw [← hdn] at ho
      have hsl := shl_wrap_mod (dgt LB v (q + k + 1)) (64 - s)
      obtain ⟨p, hp⟩ : ∃ p, p = dgt LB (v / LB ^ q) k / 2 ^ s := ⟨_, rfl⟩
      obtain ⟨t, ht⟩ : ∃ t, t = dgt LB v (q + k + 1) * 2 ^ (64 - s) % LB := ⟨_, rfl⟩
      rw [← hp] at hsr ho hdn
      rw [← ht] at ho hsl hdn
      have hC3 := hC2.set_ k (.int .u64 ((p : Nat) : Int))
      have hB3 := hB2.setCell (p := ⟨g, k, none⟩) hgw (.int .u64 ((p : Nat) : Int))
      by_cases hk1 : k + 1 < N
      · by_cases hs0 : 0 < s
        · have hk1' : (k : Int) + 1 < (N : Int) := by omega
          have hs0' : (0 : Int) < (s : Int) := by omega
          have HC3 := Lib.hid hC3
          have HDN := Lib.hid hdn
          clear hC3 hdl hp ht hdn
          go_wp2
          have hC4 := HC3.out
          clear HC3 g1 g2 hB2 hC2
          generalize wr.setCell ⟨g, k, none⟩ (.int .u64 ((p : Nat) : Int)) = w3 at *
          have g3 : w3.cell? ⟨g, k, none⟩ = some (.int .u64 (p : Nat)) := by rw [hC4.cell hlt, if_pos rfl]
          have g4 := hC4.frozen k
          have g5 : w3.cell? ⟨b, off + (q + k + 1), none⟩ = some (.int .u64 (dgt LB v (q + k + 1) : Nat)) := cell_later hB3 (hC.out (q + k + 1) (by omega))
          have b1 : (0 : Int) ≤ (q : Int) + (k : Int) + 1 := by omega
          have b2 : (q : Int) + (k : Int) + 1 < (q : Int) + (N : Int) := by omega
          have b3 : ((q : Int) + (k : Int) + 1).toNat = q + k + 1 := by omega
          have hw1 : IntKind.i64.wrap (s : Int) = (s : Int) := IntWalk.i64_in _ (by omega)
          have hw2 : IntKind.i64.wrap (64 - (s : Int)) = 64 - (s : Int) := IntWalk.i64_in _ (by omega)
          have hw3 : IntKind.i64.wrap ((q : Int) + (k : Int)) = (q : Int) + (k : Int) := IntWalk.i64_in _ (by omega)
          have hw4 : IntKind.i64.wrap ((q : Int) + (k : Int) + 1) = (q : Int) + (k : Int) + 1 := IntWalk.i64_in _ (by omega)
          have hw5 : IntKind.i64.wrap (q : Int) = (q : Int) := IntWalk.i64_in _ (by omega)
          have ht6 : (64 - (s : Int)).toNat = 64 - s := by omega
          have b4 : (0 : Int) ≤ 64 - (s : Int) := by omega
          go_still_tail 18, (by kernel_rfl)
          change wpList _ _ _ _ _ w3.drew
          have hB6 := hB3.drew
          have hC6 := hC4.drew
          have g8 : w3.drew.cell? ⟨g, k, none⟩ = some (.int .u64 (p : Nat)) := g3
          have g9 := hC6.frozen k
          clear hB3 hC4 g3 g4 g5
          generalize w3.drew = w4 at *
          go_wp2
          refine ⟨⟨k + 1, hlt, by go_num, hB6.setCell hgw _, (hC6.set_ k _).congr fun j hj => ?_⟩, by simp [intOf]; omega⟩
          by_cases a1 : j = k
          · subst a1; rw [if_pos rfl, if_pos (by omega)]; rfl
          · rw [if_neg a1, if_neg a1]
            by_cases a2 : j < k
            · rw [if_pos a2, if_pos (by omega)]
            · rw [if_neg a2, if_neg (by omega)]
        · have hs0' : ¬ (0 : Int) < (s : Int) := by omega
          have hk1' : (k : Int) + 1 < (N : Int) := by omega
          have hp0 : dgt LB (v / 2 ^ sh) k = p := by
            rw [hdn, ht, show s = 0 by omega, Nat.sub_zero, ← LB_pow, Nat.mul_mod_left, Nat.or_zero]
          have HP := Lib.hid hp0
          have HC3 := Lib.hid hC3
          clear hdl hp ht hdn hp0 hC3
          go_wp2
          have hp0 := HP.out
          have hC3 := HC3.out
          refine ⟨⟨k + 1, hlt, by go_num, hB3, hC3.congr fun j hj => ?_⟩, by simp [intOf]; omega⟩
          by_cases a1 : j = k
          · subst a1; rw [if_pos rfl, if_pos (by omega)]; unfold limb; rw [hp0]
          · rw [if_neg a1]
            by_cases a2 : j < k
            · rw [if_pos a2, if_pos (by omega)]
            · rw [if_neg a2, if_neg (by omega)]
      · have hk1' : ¬ (k : Int) + 1 < (N : Int) := by omega
        have hp0 : dgt LB (v / 2 ^ sh) k = p := by
          rw [hdn, ht, show q + k + 1 = q + N by omega, dgt_big' LB_pos HV.out (Nat.le_refl _), Nat.zero_mul, Nat.zero_mod, Nat.or_zero]
        have HP := Lib.hid hp0
        have HC3 := Lib.hid hC3
        clear hdl hp ht hdn hp0 hC3
        go_wp2
        have hp0 := HP.out
        have hC3 := HC3.out
        refine ⟨⟨k + 1, hlt, by go_num, hB3, hC3.congr fun j hj => ?_⟩, by simp [intOf]; omega⟩
        by_cases a1 : j = k
        · subst a1; rw [if_pos rfl, if_pos (by omega)]; unfold limb; rw [hp0]
        · rw [if_neg a1]
          by_cases a2 : j < k
          · rw [if_pos a2, if_pos (by omega)]
          · rw [if_neg a2, if_neg (by omega)]
    · obtain rfl : k = N := by omega
      have hC3 := hC2.congr (f' := limb (v / 2 ^ sh)) (fun j hj => by rw [if_pos hj])
      have hrd : Rd wr (some ⟨g, 0, none⟩) k (limb (v / 2 ^ sh)) := by simpa using hC3.rd (o := 0) (n := k) (by omega)
      have hvv := Lib.hid (show v / 2 ^ sh < LB ^ k by
        rw [HQ.out, Nat.pow_add 2, ← Nat.div_div_eq_div_mul, ← pow2_pow 64 q, ← LB_pow]
        refine Nat.lt_of_le_of_lt (Nat.div_le_self _ _) ?_
        rw [Nat.div_lt_iff_lt_mul (Nat.pow_pos LB_pos), ← Nat.pow_add, Nat.add_comm]
        exact HV.out)
      have hkb : k ≤ 9223372036854775807 := by omega
      clear hC2
      go_wp2_with (go_at_call 83; refine (cut_any _ _ _ _ _ hkb (Nat.le_refl _) hvv.out hrd).mono ?_; rintro e w' ⟨rfl, rfl⟩)
      go_ret
      exact ⟨_, _, rfl, hgw, hB2, hC3, by omega, nd_le_of_lt (k := 64) (by decide) hvv.out⟩
end Go.Proofs.YtmnmfidcldmhdaaDoor
