/- The walk of math/bits.Div64, at a divisor whose highest bit is set. -/
import Derived.Test.YtmnmfidcldmhdaaDoorNatF
import Derived.Test.YtmnmfidcldmhdaaDoorMathD
import Derived.Deep.DeepCutAuto
import Derived.Deep.CutBlock
namespace Go.Proofs.YtmnmfidcldmhdaaDoor
open Go.RowKit

theorem dec_case {q a b : Nat} (h : B32 ≤ q ∨ a < b) : (4294967296 : Int) ≤ (q : Int) ∨ (¬ (4294967296 : Int) ≤ (q : Int) ∧ (a : Int) < (b : Int)) := by
  rw [B32_eq] at h; omega

set_option maxRecDepth 100000 in
set_option maxHeartbeats 1000000 in
theorem div64_zero (lo y : Nat) (w : World) (hy : 0 < y) (hlo : lo < LB) (_hy2 : y < LB) :
    Calls Tryd.prog 104 #[.int .u64 0, .int .u64 (lo : Nat), .int .u64 (y : Nat)] w fun e w' => e = .returned (.tuple #[.int .u64 ((lo / y : Nat) : Int), .int .u64 ((lo % y : Nat) : Int)]) ∧ ∃ k, w' = w.drewN k := by
  have e1 : (((y : Nat) : Int) == 0) = false := beq_eq_false_iff_ne.2 (by omega)
  have e2 : ¬ ((y : Nat) : Int) ≤ 0 := by omega
  have HL := Lib.hid hlo
  clear hlo
  go_enter Tryd.func104, Tryd.ntmps104
  go_wp2
  go_quiet (fail)
  go_wp2
  have e : IntKind.u64.wrap ((lo : Int) / (y : Int)) = ((lo / y : Nat) : Int) := by
    rw [← Int.natCast_ediv, IntKind.wrap_u64]
    have h1 := Nat.div_le_self lo y
    have h2 := HL.out
    rw [LB_eq] at h2
    generalize lo / y = q at *
    omega
  rw [e]
  go_ret2
  exact ⟨by rw [Int.natCast_emod]; rfl, _, rfl⟩

set_option maxRecDepth 100000 in
set_option maxHeartbeats 1000000 in
theorem div64_any (hi lo y : Nat) (w : World) (hy : 9223372036854775808 ≤ y) (hy2 : y < LB) (hh : hi < y) (hlo : lo < LB) (h0 : 0 < hi) :
    Calls Tryd.prog 104 #[.int .u64 (hi : Nat), .int .u64 (lo : Nat), .int .u64 (y : Nat)] w fun e w' => e = .returned (.tuple #[.int .u64 (((hi * LB + lo) / y : Nat) : Int), .int .u64 (((hi * LB + lo) % y : Nat) : Int)]) ∧ ∃ k, w' = w.drewN k := by
  have hlz := Tryd.bits_LeadingZeros64 y w (by omega) (by rw [LB_eq] at hy2; omega)
  rw [Int.toNat_natCast, bitLen_top hy hy2] at hlz
  have HLZ := Lib.hid hlz
  have e1 : (((y : Nat) : Int) == 0) = false := beq_eq_false_iff_ne.2 (by omega)
  have e2 : ¬ ((y : Nat) : Int) ≤ hi := by omega
  have e3 : (((hi : Nat) : Int) == 0) = false := beq_eq_false_iff_ne.2 (by omega)
  have hyw : IntKind.u64.wrap (y : Int) = (y : Int) := by rw [IntKind.wrap_u64]; rw [LB_eq] at hy2; omega
  have hhw : IntKind.u64.wrap (hi : Int) = (hi : Int) := by rw [IntKind.wrap_u64]; rw [LB_eq] at hy2; omega
  have hlw : IntKind.u64.wrap (lo : Int) = (lo : Int) := by rw [IntKind.wrap_u64]; rw [LB_eq] at hlo; omega
  obtain ⟨y1, hy1⟩ : ∃ y1, y1 = y / 4294967296 := ⟨_, rfl⟩
  obtain ⟨y0, hy0⟩ : ∃ y0, y0 = y % 4294967296 := ⟨_, rfl⟩
  obtain ⟨u1, hu1⟩ : ∃ u1, u1 = lo / 4294967296 := ⟨_, rfl⟩
  obtain ⟨u0, hu0⟩ : ∃ u0, u0 = lo % 4294967296 := ⟨_, rfl⟩
  have f1 : (y : Int) / 4294967296 = (y1 : Int) := by omega
  have f2 : bits .and .u64 (y : Int) 4294967295 = (y0 : Int) := by
    have := u64_and_nat y 4294967295 hy2 (by decide)
    rw [show 4294967295 = 2 ^ 32 - 1 from rfl, Nat.and_two_pow_sub_one_eq_mod] at this
    rw [hy0]; exact this
  have f3 : (lo : Int) / 4294967296 = (u1 : Int) := by omega
  have f4 : bits .and .u64 (lo : Int) 4294967295 = (u0 : Int) := by
    have := u64_and_nat lo 4294967295 hlo (by decide)
    rw [show 4294967295 = 2 ^ 32 - 1 from rfl, Nat.and_two_pow_sub_one_eq_mod] at this
    rw [hu0]; exact this
  have f5 : (lo : Int) / 18446744073709551616 = 0 := by rw [LB_eq] at hlo; omega
  have f6 : bits .or .u64 (hi : Int) 0 = (hi : Int) := by
    have := u64_or_nat hi 0 (by rw [LB_eq] at hy2; omega) (by decide)
    rw [Nat.or_zero] at this
    exact this
  have b1 : 2147483648 ≤ y1 := by omega
  have b2 : y1 < 4294967296 := by rw [LB_eq] at hy2; omega
  have b3 : y0 < 4294967296 := by omega
  have b4 : u1 < 4294967296 := by rw [LB_eq] at hlo; omega
  have b5 : u0 < 4294967296 := by omega
  have HB := Lib.hid (show (2147483648 ≤ y1 ∧ y1 < 4294967296) ∧ y0 < 4294967296 ∧ u1 < 4294967296 ∧ u0 < 4294967296 from ⟨⟨b1, b2⟩, b3, b4, b5⟩)
  have b0 : 0 < y1 := by omega
  clear b1 b2 b3 b4 b5
  have HEY := Lib.hid (show y = y1 * B32 + y0 by rw [B32_eq]; omega)
  have HEL := Lib.hid (show lo = u1 * B32 + u0 by rw [B32_eq]; omega)
  clear hy1 hy0 hu1 hu0
  have HY := Lib.hid hy
  have HY2 := Lib.hid hy2
  have HLO := Lib.hid hlo
  have HH := Lib.hid hh
  clear hlz hy hy2 hlo hh
  go_enter Tryd.func104, Tryd.ntmps104
  go_wp2_with fail
  refine HLZ.out.mono ?_
  rintro e w' ⟨rfl, rfl⟩
  obtain ⟨⟨b1, b2⟩, b3, b4, b5⟩ := HB.out
  obtain ⟨qa, hqa⟩ : ∃ q, q = hi / y1 := ⟨_, rfl⟩
  obtain ⟨ra, hra⟩ : ∃ r, r = hi % y1 := ⟨_, rfl⟩
  have hya : hi < y1 * B32 + y0 := by rw [← HEY.out]; exact HH.out
  have hG := guess_start (u := hi) (u1 := u1) b1 b2 b3 hya b4
  rw [← hqa, ← hra] at hG
  have f7 : IntKind.u64.wrap ((hi : Int) / (y1 : Int)) = (qa : Int) := by
    have h1 := hG.qle
    rw [B32_eq] at h1
    rw [← Int.natCast_ediv, ← hqa, IntKind.wrap_u64]; omega
  have f8 : IntKind.u64.wrap ((hi : Int) - IntKind.u64.wrap ((qa : Int) * (y1 : Int))) = (ra : Int) := by
    have h1 := hG.eq
    have h2 := hG.rlt
    have h3 := HH.out
    have h4 := HY2.out
    rw [← Int.natCast_mul]
    rw [B32_eq] at h2
    rw [LB_eq] at h4
    generalize qa * y1 = p at *
    simp only [IntKind.wrap_u64]; omega
  have HG := Lib.hid hG
  clear hqa hra hG hya b1 b2 b3 b4 b5
  go_upto_block 0 with fail
  go_cut [15, 16] (fun a b wx => a = .int .u64 (((hi * B32 + u1) / y : Nat) : Int) ∧ wx = w')
  case first =>
    go_wp2
    go_loop [15, 16] (fun a b => ∃ q r : Nat, a = .int .u64 (q : Int) ∧ b = .int .u64 (r : Int) ∧ Guess hi u1 y1 y0 q r) (fun a _ => (intOf a).toNat)
    case atStart => exact ⟨qa, ra, rfl, rfl, HG.out⟩
    case round =>
      obtain ⟨q, r, rfl, rfl, hg⟩ := hrel
      obtain ⟨⟨b1, b2⟩, b3, b4, b5⟩ := HB.out
      obtain ⟨k1, k2, k3, k4, k5⟩ := guess_wraps hg b2 b3 b4
      have hya : hi < y1 * B32 + y0 := by rw [← HEY.out]; exact HH.out
      have hb0 : 0 < y1 * B32 + y0 := by rw [← HEY.out]; have := HY.out; omega
      obtain ⟨r2, hr2⟩ : ∃ r2, r2 = r + y1 := ⟨_, rfl⟩
      obtain ⟨s1, hs1⟩ : ∃ s1, s1 = B32 * r := ⟨_, rfl⟩
      obtain ⟨s2, hs2⟩ : ∃ s2, s2 = B32 * r + u1 := ⟨_, rfl⟩
      obtain ⟨p, hp⟩ : ∃ p, p = q - 1 := ⟨_, rfl⟩
      obtain ⟨m, hm⟩ : ∃ m, m = q * y0 := ⟨_, rfl⟩
      rw [← hr2] at k1
      rw [← hs1] at k2
      rw [← hs2, ← hs1] at k3
      rw [← hm] at k4
      rw [← hp] at k5
      by_cases ht : B32 ≤ q ∨ B32 * r + u1 < q * y0
      · have hst := guess_step hg b3 hya b4 ht
        have k6 := k5 hst.1
        have hm1 : p < q := by have := hst.1; omega
        by_cases hr : r + y1 < B32
        · have hn := guess_next hg b3 hya b4 ht hr
          rw [← hp, ← hr2] at hn
          have HN := Lib.hid hn
          have hr4 : ¬ (4294967296 : Int) ≤ (r2 : Int) := by rw [hr2]; rw [B32_eq] at hr; omega
          have hdec : (4294967296 : Int) ≤ (q : Int) ∨ (¬ (4294967296 : Int) ≤ (q : Int) ∧ (s2 : Int) < (m : Int)) := by rw [hs2, hm]; exact dec_case ht
          clear hn ht hr hst k5 hr2 hs1 hs2 hp hm hya hb0 hg b1 b2 b3 b4 b5
          rcases hdec with h5 | ⟨h5, h6⟩
          · clear k4
            go_wp2
            exact ⟨⟨p, r2, rfl, rfl, HN.out⟩, by simp [intOf]; omega⟩
          · have k7 := k4 (by omega)
            clear k4
            go_wp2
            exact ⟨⟨p, r2, rfl, rfl, HN.out⟩, by simp [intOf]; omega⟩
        · have hn := guess_end hg b3 hya b4 ht (Nat.le_of_not_lt hr)
          rw [← hp] at hn
          rw [← HEY.out] at hn
          have HN := Lib.hid hn
          have hr4 : (4294967296 : Int) ≤ (r2 : Int) := by rw [hr2]; rw [B32_eq] at hr; omega
          have hdec : (4294967296 : Int) ≤ (q : Int) ∨ (¬ (4294967296 : Int) ≤ (q : Int) ∧ (s2 : Int) < (m : Int)) := by rw [hs2, hm]; exact dec_case ht
          clear hn ht hr hst k5 hr2 hs1 hs2 hp hm hya hb0 hg b1 b2 b3 b4 b5
          rcases hdec with h5 | ⟨h5, h6⟩
          · clear k4
            go_wp2
            go_meet
            exact ⟨by rw [HN.out], rfl⟩
          · have k7 := k4 (by omega)
            clear k4
            go_wp2
            go_meet
            exact ⟨by rw [HN.out], rfl⟩
      · have h5 : ¬ (4294967296 : Int) ≤ (q : Int) := by intro h; exact ht (Or.inl (by rw [B32_eq]; omega))
        have h6 : ¬ (s2 : Int) < (m : Int) := by rw [hs2, hm]; intro h; exact ht (Or.inr (by omega))
        have hn := guess_done hg hb0 (Nat.le_of_not_lt fun h => ht (Or.inr h))
        rw [← HEY.out] at hn
        have HN := Lib.hid hn
        have k7 := k4 (by omega)
        clear hn ht k5 k4 hr2 hs1 hs2 hp hm hya hb0 hg b1 b2 b3 b4 b5
        go_wp2
        go_meet
        exact ⟨by rw [HN.out], rfl⟩
  case rest =>
    obtain ⟨rfl, rfl⟩ := hcut
    obtain ⟨⟨b1, b2⟩, b3, b4, b5⟩ := HB.out
    have hy0 : 0 < y := by have := HY.out; omega
    have f9 := rest_wrap (u := hi) (u1 := u1) (y := y) rfl hy0 HY2.out
    have hmod := Nat.mod_lt (hi * B32 + u1) hy0
    have hrd := (Nat.div_add_mod (hi * B32 + u1) y).symm
    have htd := two_digits hi u1 u0 y hy0
    obtain ⟨Q, hQ⟩ : ∃ Q, Q = (hi * B32 + u1) / y := ⟨_, rfl⟩
    obtain ⟨R, hR⟩ : ∃ R, R = (hi * B32 + u1) % y := ⟨_, rfl⟩
    rw [← hQ, ← hR] at f9
    rw [← hR] at hmod
    rw [← hQ, ← hR] at htd
    rw [← hQ, ← hR] at hrd
    have HRD := Lib.hid hrd
    clear hrd
    rw [← hQ]
    have hQlt : Q < 4294967296 := by
      rw [hQ, Nat.div_lt_iff_lt_mul hy0]
      have h1 := HH.out
      rw [B32_eq]; omega
    have HQL := Lib.hid hQlt
    have HTD := Lib.hid htd
    have hya : R < y1 * B32 + y0 := by rw [← HEY.out]; exact hmod
    have hG := guess_start (u := R) (u1 := u0) b1 b2 b3 hya b5
    obtain ⟨qb, hqb⟩ : ∃ q, q = R / y1 := ⟨_, rfl⟩
    obtain ⟨rb, hrb⟩ : ∃ r, r = R % y1 := ⟨_, rfl⟩
    rw [← hqb, ← hrb] at hG
    have g7 : IntKind.u64.wrap ((R : Int) / (y1 : Int)) = (qb : Int) := by
      have h1 := hG.qle
      rw [B32_eq] at h1
      rw [← Int.natCast_ediv, ← hqb, IntKind.wrap_u64]; omega
    have g8 : IntKind.u64.wrap ((R : Int) - IntKind.u64.wrap ((qb : Int) * (y1 : Int))) = (rb : Int) := by
      have h1 := hG.eq
      have h2 := hG.rlt
      have h4 := HY2.out
      rw [← Int.natCast_mul]
      rw [B32_eq] at h2
      rw [LB_eq] at h4
      generalize qb * y1 = p at *
      simp only [IntKind.wrap_u64]; omega
    have HG2 := Lib.hid hG
    have HMOD := Lib.hid hmod
    clear HG f7 f8 hqb hrb hG hya htd hQ hR hmod hQlt b1 b2 b3 b4 b5
    go_upto_block 2 with fail
    go_cut [16, 18] (fun b a wx => a = .int .u64 (((R * B32 + u0) / y : Nat) : Int) ∧ wx = wc)
    case first =>
      go_wp2
      go_loop [16, 18] (fun b a => ∃ q r : Nat, a = .int .u64 (q : Int) ∧ b = .int .u64 (r : Int) ∧ Guess R u0 y1 y0 q r) (fun _ a => (intOf a).toNat)
      case atStart => exact ⟨qb, rb, rfl, rfl, HG2.out⟩
      case round =>
        obtain ⟨q, r, rfl, rfl, hg⟩ := hrel
        obtain ⟨⟨b1, b2⟩, b3, b4, b5⟩ := HB.out
        obtain ⟨k1, k2, k3, k4, k5⟩ := guess_wraps hg b2 b3 b5
        have hya : R < y1 * B32 + y0 := by rw [← HEY.out]; exact HMOD.out
        have hb0 : 0 < y1 * B32 + y0 := by rw [← HEY.out]; have := HY.out; omega
        obtain ⟨r2, hr2⟩ : ∃ r2, r2 = r + y1 := ⟨_, rfl⟩
        obtain ⟨s1, hs1⟩ : ∃ s1, s1 = B32 * r := ⟨_, rfl⟩
        obtain ⟨s2, hs2⟩ : ∃ s2, s2 = B32 * r + u0 := ⟨_, rfl⟩
        obtain ⟨p, hp⟩ : ∃ p, p = q - 1 := ⟨_, rfl⟩
        obtain ⟨m, hm⟩ : ∃ m, m = q * y0 := ⟨_, rfl⟩
        rw [← hr2] at k1
        rw [← hs1] at k2
        rw [← hs2, ← hs1] at k3
        rw [← hm] at k4
        rw [← hp] at k5
        by_cases ht : B32 ≤ q ∨ B32 * r + u0 < q * y0
        · have hst := guess_step hg b3 hya b5 ht
          have k6 := k5 hst.1
          have hm1 : p < q := by have := hst.1; omega
          by_cases hr : r + y1 < B32
          · have hn := guess_next hg b3 hya b5 ht hr
            rw [← hp, ← hr2] at hn
            have HN := Lib.hid hn
            have hr4 : ¬ (4294967296 : Int) ≤ (r2 : Int) := by rw [hr2]; rw [B32_eq] at hr; omega
            have hdec : (4294967296 : Int) ≤ (q : Int) ∨ (¬ (4294967296 : Int) ≤ (q : Int) ∧ (s2 : Int) < (m : Int)) := by rw [hs2, hm]; exact dec_case ht
            clear hn ht hr hst k5 hr2 hs1 hs2 hp hm hya hb0 hg b1 b2 b3 b4 b5
            rcases hdec with h5 | ⟨h5, h6⟩
            · clear k4
              go_wp2
              exact ⟨⟨p, r2, rfl, rfl, HN.out⟩, by simp [intOf]; omega⟩
            · have k7 := k4 (by omega)
              clear k4
              go_wp2
              exact ⟨⟨p, r2, rfl, rfl, HN.out⟩, by simp [intOf]; omega⟩
          · have hn := guess_end hg b3 hya b5 ht (Nat.le_of_not_lt hr)
            rw [← hp] at hn
            rw [← HEY.out] at hn
            have HN := Lib.hid hn
            have hr4 : (4294967296 : Int) ≤ (r2 : Int) := by rw [hr2]; rw [B32_eq] at hr; omega
            have hdec : (4294967296 : Int) ≤ (q : Int) ∨ (¬ (4294967296 : Int) ≤ (q : Int) ∧ (s2 : Int) < (m : Int)) := by rw [hs2, hm]; exact dec_case ht
            clear hn ht hr hst k5 hr2 hs1 hs2 hp hm hya hb0 hg b1 b2 b3 b4 b5
            rcases hdec with h5 | ⟨h5, h6⟩
            · clear k4
              go_wp2
              go_meet
              exact ⟨by rw [HN.out], rfl⟩
            · have k7 := k4 (by omega)
              clear k4
              go_wp2
              go_meet
              exact ⟨by rw [HN.out], rfl⟩
        · have h5 : ¬ (4294967296 : Int) ≤ (q : Int) := by intro h; exact ht (Or.inl (by rw [B32_eq]; omega))
          have h6 : ¬ (s2 : Int) < (m : Int) := by rw [hs2, hm]; intro h; exact ht (Or.inr (by omega))
          have hn := guess_done hg hb0 (Nat.le_of_not_lt fun h => ht (Or.inr h))
          rw [← HEY.out] at hn
          have HN := Lib.hid hn
          have k7 := k4 (by omega)
          clear hn ht k5 k4 hr2 hs1 hs2 hp hm hya hb0 hg b1 b2 b3 b4 b5
          go_wp2
          go_meet
          exact ⟨by rw [HN.out], rfl⟩
    case rest =>
      obtain ⟨rfl, rfl⟩ := hcut
      have hy0 : 0 < y := by have := HY.out; omega
      obtain ⟨q0, hq0⟩ : ∃ q0, q0 = (R * B32 + u0) / y := ⟨_, rfl⟩
      have hq0l : q0 < 4294967296 := by
        rw [hq0, Nat.div_lt_iff_lt_mul hy0]
        have h1 := HMOD.out
        obtain ⟨⟨b1, b2⟩, b3, b4, b5⟩ := HB.out
        rw [B32_eq]; omega
      have hQl := HQL.out
      have k1 : IntKind.u64.wrap ((Q : Int) * 4294967296) = ((Q * B32 : Nat) : Int) := by rw [IntKind.wrap_u64, B32_eq]; omega
      have k2 : IntKind.u64.wrap (((Q * B32 : Nat) : Int) + (q0 : Int)) = ((Q * B32 + q0 : Nat) : Int) := by rw [IntKind.wrap_u64]; simp only [B32_eq]; omega
      have e : (hi * B32 + u1) * B32 + u0 = hi * LB + (u1 * B32 + u0) := by rw [LB_eq]; simp only [B32_eq]; omega
      have hfin : Q * B32 + q0 = (hi * LB + lo) / y := by
        rw [hq0, HTD.out, HEL.out, e]
      have k3 := rest_wrap (u := R) (u1 := u0) (y := y) hq0 hy0 HY2.out
      have hrem : (R * B32 + u0) % y = (hi * LB + lo) % y := by
        rw [HEL.out, ← e, HRD.out, Nat.add_mul, Nat.add_assoc, Nat.mul_assoc, Nat.mul_add_mod]
      rw [hrem] at k3
      rw [← hq0]
      obtain ⟨z, hz⟩ : ∃ z, z = Q * B32 := ⟨_, rfl⟩
      obtain ⟨rr, hrr⟩ : ∃ rr, rr = (hi * LB + lo) % y := ⟨_, rfl⟩
      rw [← hz] at k1 k2 hfin
      rw [hfin] at k2
      rw [← hrr] at k3
      have HRR := Lib.hid hrr
      have k4 : (rr : Int) / 2 ^ 0 = (rr : Int) := by simp
      have HF := Lib.hid k2
      have HK3 := Lib.hid k3
      clear hq0 hq0l hQl hz hfin k2 e hrem hrr k3
      go_wp2
      rw [HF.out, HK3.out]
      go_ret2
      exact ⟨by rw [← HRR.out]; rfl, 0, rfl⟩

/-- Div64 at a divisor whose highest bit is set. -/
theorem div64_top (hi lo y : Nat) (w : World) (hy : 9223372036854775808 ≤ y) (hy2 : y < LB) (hh : hi < y) (hlo : lo < LB) :
    Calls Tryd.prog 104 #[.int .u64 (hi : Nat), .int .u64 (lo : Nat), .int .u64 (y : Nat)] w fun e w' => e = .returned (.tuple #[.int .u64 (((hi * LB + lo) / y : Nat) : Int), .int .u64 (((hi * LB + lo) % y : Nat) : Int)]) ∧ ∃ k, w' = w.drewN k := by
  rcases Nat.eq_zero_or_pos hi with h0 | h0
  · subst h0
    have := div64_zero lo y w (by omega) hlo hy2
    rw [Nat.zero_mul, Nat.zero_add]
    exact this
  · exact div64_any hi lo y w hy hy2 hh hlo h0
end Go.Proofs.YtmnmfidcldmhdaaDoor
