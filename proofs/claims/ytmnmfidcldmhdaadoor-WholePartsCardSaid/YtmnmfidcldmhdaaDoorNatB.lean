/- The walks of package nat's limbs: len, text, cmp; and of Of, Trim, Cmp, Len, Zeros. -/
import Derived.Test.YtmnmfidcldmhdaaDoorNatA
import Derived.BigQuiet
import Derived.Deep.QuietTactic
import Derived.Test.YtmnmfidcldmhdaaDoorShelf
namespace Go.Proofs.YtmnmfidcldmhdaaDoor
open Go.RowKit

theorem ret_int' {k : IntKind} {a b : Int} (h : a = b) : Ending.returned (.int k a) = .returned (.int k b) := by rw [h]

set_option maxRecDepth 100000 in
set_option maxHeartbeats 400000 in
theorem cmp_any (A A' : Option Addr) (n n' c c' u v : Nat) (w : World) (hn : n ≤ 4294967296) (hn' : n' ≤ 4294967296) (hnc : n ≤ c) (hnc' : n' ≤ c') (hu : u < LB ^ n) (hv : v < LB ^ n')
    (hr : Rd w A n fun j => .int .u64 (dgt LB u j : Nat)) (hr' : Rd w A' n' fun j => .int .u64 (dgt LB v j : Nat)) :
    Calls Tryd.prog 77 #[.slice A n c, .slice A' n' c'] w fun e w' => e = .returned (.int .i64 (cmpI u v)) ∧ ∃ k, w' = w.drewN k := by
  have hk : nd 64 u ≤ n := nd_le_of_lt (by decide) hu
  have hk' : nd 64 v ≤ n' := nd_le_of_lt (by decide) hv
  have HU := Lib.hid hu
  have HV := Lib.hid hv
  have c1 := Lib.hid (fun W (h : Rd W A n fun j => .int .u64 (dgt LB u j : Nat)) => cut_any A n c u W (by omega) hnc hu h)
  have c2 := Lib.hid (fun W (h : Rd W A' n' fun j => .int .u64 (dgt LB v j : Nat)) => cut_any A' n' c' v W (by omega) hnc' hv h)
  clear hu hv
  by_cases hlen : nd 64 u = nd 64 v
  · have hb : (((nd 64 u : Nat) : Int) != ((nd 64 v : Nat) : Int)) = false := by rw [hlen]; simp
    have HL := Lib.hid hlen
    have hk2 : nd 64 u ≤ n' := by omega
    obtain ⟨k0, hk0⟩ : ∃ k0, k0 = nd 64 v := ⟨_, rfl⟩
    rw [hlen] at c1 hb
    rw [hlen] at hk
    rw [← hk0] at c1 c2 hb hk hk'
    have HK := Lib.hid hk0
    clear hlen hk0 hk2
    go_enter Tryd.func77, Tryd.ntmps77
    go_wp2_with fail
    refine (c1.out _ hr).mono ?_
    rintro e w' ⟨rfl, rfl⟩
    go_wp2_with fail
    refine (c2.out _ hr').mono ?_
    rintro e w' ⟨rfl, rfl⟩
    go_wp2
    go_loopw [5] (fun i wr => ∃ k : Nat, k ≤ k0 ∧ i = .int .i64 ((k : Int) - 1) ∧ Hid (∀ j, k ≤ j → j < k0 → dgt LB u j = dgt LB v j) ∧ ∃ m, wr = w.drewN m) (fun i _ => (intOf i + 1).toNat)
    case atStart => exact ⟨k0, Nat.le_refl _, rfl, fun j h1 h2 => by omega, 0, rfl⟩
    case round =>
      obtain ⟨k, hk1, rfl, hz, m, rfl⟩ := hrel
      rcases k with _ | p
      · have hfin := Lib.hid (show cmpI u v = 0 by
          have e : u = v := by
            refine dgt_ext (B := LB) (n := k0) ?_ ?_ (fun j hj => hz.out j (Nat.zero_le _) hj)
            · rw [HK.out, ← HL.out]; exact LB_nd u
            · rw [HK.out]; exact LB_nd v
          subst e; unfold cmpI; simp)
        have e0 : ((0 : Nat) : Int) - 1 = -1 := rfl
        rw [e0]
        go_wp2
        go_ret
        exact ⟨by rw [hfin.out]; rfl, m, rfl⟩
      · have e0 : ((p + 1 : Nat) : Int) - 1 = (p : Int) := by omega
        rw [e0]
        clear e0
        obtain ⟨b, off, rfl, hc1⟩ := hr (by omega)
        obtain ⟨b', off', rfl, hc2⟩ := hr' (by omega)
        have g1 : w.cell? ⟨b, off + p, none⟩ = some (.int .u64 (dgt LB u p : Nat)) := hc1 p (by omega)
        have g2 : w.cell? ⟨b', off' + p, none⟩ = some (.int .u64 (dgt LB v p : Nat)) := hc2 p (by omega)
        clear hc1 hc2
        have hgt : ∀ a b : Nat, a < LB ^ k0 → b < LB ^ k0 → (∀ j, p + 1 ≤ j → j < k0 → dgt LB a j = dgt LB b j) → dgt LB a p < dgt LB b p → a < b := fun a b ha hb hz hd =>
          lt_of_dgt LB_pos ha hb hk1 (fun j h1 h2 => hz j h1 h2) hd
        have hu : u < LB ^ k0 := by rw [HK.out, ← HL.out]; exact LB_nd u
        have hv : v < LB ^ k0 := by rw [HK.out]; exact LB_nd v
        have HG := Lib.hid (show (dgt LB u p < dgt LB v p → cmpI u v = -1) ∧ (dgt LB v p < dgt LB u p → cmpI u v = 1) from
          ⟨fun h => by have := hgt u v hu hv hz.out h; unfold cmpI; rw [if_pos this],
           fun h => by have := hgt v u hv hu (fun j h1 h2 => (hz.out j h1 h2).symm) h; unfold cmpI; rw [if_neg (by omega), if_neg (by omega)]⟩)
        clear hgt hu hv
        rcases Nat.lt_trichotomy (dgt LB u p) (dgt LB v p) with hd | hd | hd
        · have hd1 : ((dgt LB u p : Nat) : Int) < ((dgt LB v p : Nat) : Int) := by omega
          have hfin := Lib.hid (HG.out.1 hd)
          clear hd
          go_wp2
          go_quiet (fail)
          go_wp2
          go_ret
          exact ⟨by rw [hfin.out]; rfl, by simp only [World.drewN_drewN]; exact ⟨_, rfl⟩⟩
        · have hd1 : ¬ ((dgt LB u p : Nat) : Int) < ((dgt LB v p : Nat) : Int) := by omega
          have hd2 : ¬ ((dgt LB v p : Nat) : Int) < ((dgt LB u p : Nat) : Int) := by omega
          have HD := Lib.hid hd
          clear hd
          go_wp2
          go_quiet (fail)
          go_wp2
          go_quiet (fail)
          go_wp2
          refine ⟨⟨p, by omega, rfl, fun j h1 h2 => ?_, _, rfl⟩, by simp [intOf]⟩
          by_cases e : j = p
          · subst e; exact HD.out
          · exact hz.out j (by omega) h2
        · have hd1 : ¬ ((dgt LB u p : Nat) : Int) < ((dgt LB v p : Nat) : Int) := by omega
          have hd2 : ((dgt LB v p : Nat) : Int) < ((dgt LB u p : Nat) : Int) := by omega
          have hfin := Lib.hid (HG.out.2 hd)
          clear hd
          go_wp2
          go_quiet (fail)
          go_wp2
          go_quiet (fail)
          go_wp2
          go_ret
          exact ⟨by rw [hfin.out]; rfl, by simp only [World.drewN_drewN]; exact ⟨_, rfl⟩⟩
  · have hb : (((nd 64 u : Nat) : Int) != ((nd 64 v : Nat) : Int)) = true := by rw [bne_iff_ne]; omega
    have hb2 : (((nd 64 u : Nat) : Int) == ((nd 64 v : Nat) : Int)) = false := beq_eq_false_iff_ne.2 (by omega)
    clear hlen
    by_cases hlt : nd 64 u < nd 64 v
    · have hfin := Lib.hid (show cmpI u v = -1 by unfold cmpI; rw [if_pos (lt_of_nd_lt (k := 64) (by decide) hlt)])
      go_enter Tryd.func77, Tryd.ntmps77
      go_wp2_with fail
      refine (c1.out _ hr).mono ?_
      rintro e w' ⟨rfl, rfl⟩
      go_wp2_with fail
      refine (c2.out _ hr').mono ?_
      rintro e w' ⟨rfl, rfl⟩
      go_wp2
      go_ret
      exact ⟨by rw [hfin.out]; rfl, 0, rfl⟩
    · have hgt : ¬ ((nd 64 u : Nat) : Int) < ((nd 64 v : Nat) : Int) := by omega
      have hfin := Lib.hid (show cmpI u v = 1 by
        have := lt_of_nd_lt (k := 64) (u := v) (v := u) (by decide) (by have := of_decide_eq_true (p := True) rfl; have h3 := beq_eq_false_iff_ne.1 hb2; omega)
        unfold cmpI; rw [if_neg (by omega), if_neg (by omega)])
      go_enter Tryd.func77, Tryd.ntmps77
      go_wp2_with fail
      refine (c1.out _ hr).mono ?_
      rintro e w' ⟨rfl, rfl⟩
      go_wp2_with fail
      refine (c2.out _ hr').mono ?_
      rintro e w' ⟨rfl, rfl⟩
      go_wp2
      go_ret
      exact ⟨by rw [hfin.out]; rfl, 0, rfl⟩

set_option maxRecDepth 100000 in
set_option maxHeartbeats 400000 in
theorem len_any (A : Option Addr) (n c v : Nat) (w : World) (hn : n ≤ 4294967296) (hnc : n ≤ c) (hv : v < LB ^ n) (hr : Rd w A n fun j => .int .u64 (dgt LB v j : Nat)) :
    Calls Tryd.prog 88 #[.slice A n c] w fun e w' => e = .returned (.int .i64 (nd 1 v : Nat)) ∧ w = w' := by
  have hk : nd 64 v ≤ n := nd_le_of_lt (by decide) hv
  have c1 := Lib.hid (cut_any A n c v w (by omega) hnc hv hr)
  by_cases h0 : v = 0
  · subst h0
    rw [nd_zero] at c1
    go_enter Tryd.func88, Tryd.ntmps88
    go_wp2_with fail
    refine c1.out.mono ?_
    rintro e w' ⟨rfl, rfl⟩
    go_wp2
    go_ret
    exact ⟨rfl, rfl⟩
  · have hp := nd_pos (k := 64) h0
    have htop := nd1_top h0
    obtain ⟨b, off, rfl, hc⟩ := hr (by omega)
    obtain ⟨q, hq⟩ : ∃ q, nd 64 v = q + 1 := ⟨nd 64 v - 1, by omega⟩
    rw [hq, Nat.add_sub_cancel] at htop
    rw [hq] at c1 hk
    have hlt : dgt LB v q < 18446744073709551616 := dgt_lt LB_pos v q
    have g1 : w.cell? ⟨b, off + q, none⟩ = some (.int .u64 (dgt LB v q : Nat)) := hc q (by omega)
    have c2 := Lib.hid (Tryd.bits_LeadingZeros64 (dgt LB v q : Nat) w (by omega) (by omega))
    have h1 : Lib.bitLen ((dgt LB v q : Nat) : Int).toNat = nd 1 (dgt LB v q) := by rw [Int.toNat_natCast, bitLen_nd _ hlt]
    have hb : nd 1 (dgt LB v q) ≤ 64 := nd_le_of_lt (by decide) (by simpa using hlt)
    have H1 := Lib.hid h1
    have HT := Lib.hid htop
    clear hc hr hv hq hp h1 htop h0 hlt
    go_enter Tryd.func88, Tryd.ntmps88
    go_wp2_with fail
    refine c1.out.mono ?_
    rintro e w' ⟨rfl, rfl⟩
    go_wp2_with fail
    refine c2.out.mono ?_
    rintro e w' ⟨rfl, rfl⟩
    rw [H1.out]
    go_wp2
    go_ret
    exact ⟨ret_int' (by rw [HT.out]; omega), rfl⟩

set_option maxRecDepth 100000 in
set_option maxHeartbeats 400000 in
theorem text_any (A : Option Addr) (n c v : Nat) (w : World) (hn : n ≤ 4294967296) (hnc : n ≤ c) (hv : v < LB ^ n) (hr : Rd w A n fun j => .int .u64 (dgt LB v j : Nat)) :
    Calls Tryd.prog 78 #[.slice A n c] w fun e w' => e = .returned (.string (nstr v)) ∧ Below w.heap.size w w' := by
  have hk : nd 64 v ≤ n := nd_le_of_lt (by decide) hv
  have hv2 := LB_nd v
  have c1 := Lib.hid (cut_any A n c v w (by omega) hnc hv hr)
  have hr2 := hr.of_le hk
  obtain ⟨k0, hk0⟩ : ∃ k, k = nd 64 v := ⟨_, rfl⟩
  have h8 := nd_bytes v
  rw [← hk0] at c1 hr2 hv2 hk
  have c2 := Lib.hid (len_any A k0 c v w (by omega) (by omega) hv2 hr2)
  have hb : nd 8 v ≤ 8 * k0 := nd_le_of_lt (by decide) (by rw [pow2_pow]; rw [LB_pow, pow2_pow] at hv2; rwa [show 8 * (8 * k0) = 64 * k0 by omega])
  obtain ⟨N, hN⟩ : ∃ N, N = nd 8 v := ⟨_, rfl⟩
  rw [← hN] at h8 hb
  have HL := Lib.hid (show (((nd 1 v : Nat) : Int) + 7) / 8 = (N : Int) by omega)
  have HE := Lib.hid h8
  have hLle : (((nd 1 v : Nat) : Int) + 7) / 8 ≤ (N : Int) := by omega
  have hLge : (N : Int) ≤ (((nd 1 v : Nat) : Int) + 7) / 8 := by omega
  have hl : nd 1 v ≤ 64 * k0 := nd_le_of_lt (by decide) (by rw [Nat.pow_one]; rwa [LB_pow, pow2_pow] at hv2)
  have hb2 : 1 * N ≤ 281474976710656 := by omega
  have hb3 : N ≤ 9223372036854775807 := by omega
  have HN := Lib.hid hN
  have HK := Lib.hid hk0
  clear hk0 hN h8 hv hv2
  go_enter Tryd.func78, Tryd.ntmps78
  go_wp2_with fail
  refine c1.out.mono ?_
  rintro e w' ⟨rfl, rfl⟩
  go_wp2_with fail
  refine c2.out.mono ?_
  rintro e w' ⟨rfl, rfl⟩
  go_wp2_with (at_make; refine wpList_make_cel rfl (.tmp 12) (.tmp 12) _ rfl 5 (.int .u8 0) 1 under_bytes info_u8 rfl .i64 .i64 _ _ N rfl rfl HL.out HL.out hb2 hb3 ?_; intro w1 hC hB hlt)
  go_loopw [15] (fun i wr => ∃ k : Nat, k ≤ N ∧ i = .int .i64 k ∧ Below w.heap.size w wr ∧ Cel wr w.heap.size 5 N (fun j => .int .u8 ((if N ≤ j + k then dgt 256 v (N - 1 - j) else 0 : Nat) : Int))) (fun i _ => N - (intOf i).toNat)
  case atStart => exact ⟨0, Nat.zero_le _, rfl, hB, hC.congr fun j hj => by rw [if_neg (by omega)]; rfl⟩
  case round =>
    obtain ⟨k, hk1, rfl, hB2, hC2⟩ := hrel
    by_cases hlt : k < N
    · obtain ⟨q, hq⟩ : ∃ q, q = k / 8 := ⟨_, rfl⟩
      obtain ⟨r, hr8⟩ : ∃ r, r = k % 8 := ⟨_, rfl⟩
      have hqk : q < k0 := by omega
      obtain ⟨b, off, rfl, hc⟩ := hr2 (by omega)
      have g1 : wr.cell? ⟨b, off + q, none⟩ = some (.int .u64 (dgt LB v q : Nat)) := cell_later hB2 (hc q hqk)
      obtain ⟨d, hd⟩ : ∃ d, N = k + d + 1 := ⟨N - k - 1, by omega⟩
      have hdN : d < N := by omega
      have e1 : (nd 1 v + 7) / 8 - 1 - k = d := by have := HE.out; omega
      have g2 := hC2.cell (i := (nd 1 v + 7) / 8 - 1 - k) (by omega)
      have g3 := hC2.frozen ((nd 1 v + 7) / 8 - 1 - k)
      have HEQ := Lib.hid e1
      clear e1
      have e2 : (k : Int) / 8 = (q : Int) := by omega
      have e3 : (k : Int) % 8 = (r : Int) := by omega
      have e4 : ((dgt LB v q : Nat) : Int) / 2 ^ (r * 8) % 256 = ((dgt 256 v k : Nat) : Int) := by
        rw [← dgt_of_limb v k, ← hq, ← hr8, show (2 : Int) ^ (r * 8) = ((2 ^ (r * 8) : Nat) : Int) by simp]
        rfl
      have hr7 : r < 8 := by omega
      have HQ := Lib.hid (show k = 8 * q + r by omega)
      have HD := Lib.hid hd
      clear hq hr8 hd hc
      go_wp2
      rw [HEQ.out]
      refine ⟨⟨k + 1, hlt, by go_num, hB2.setCell (Nat.le_refl _) _, (hC2.set_ d _).congr fun j hj => ?_⟩, by simp [intOf]; omega⟩
      have := HD.out
      by_cases e : j = d
      · subst e; simp only [if_true]; rw [if_pos (by omega), show N - 1 - j = k by omega]
      · simp only [if_neg e]
        by_cases e2 : N ≤ j + k
        · rw [if_pos e2, if_pos (by omega)]
        · rw [if_neg e2, if_neg (by omega)]
    · obtain rfl : k = N := by omega
      have hrd := (hC2.rd (o := 0) (n := k) (by omega)).congr (f' := fun j => .int .u8 ((dgt 256 v (k - 1 - j) : Nat) : Int)) (fun j hj => by simp only [Nat.zero_add]; rw [if_pos (by omega)])
      have hcv := run_bytes_rd (P := Tryd.prog) 51 9 5 under_bytes Tryd.underlying5 Tryd.underlying9 (some ⟨w.heap.size, 0, none⟩) k k (fun j => dgt 256 v (k - 1 - j)) hrd
      have hn8 : (⟨((List.range k).map fun j => UInt8.ofNat (dgt 256 v (k - 1 - j))).toArray⟩ : ByteArray) = nstr v := by unfold nstr nbytes; rw [← HN.out]
      rw [hn8] at hcv
      clear hn8 hrd hC2
      go_wp2
      go_ret
      exact ⟨rfl, hB2⟩
end Go.Proofs.YtmnmfidcldmhdaaDoor
