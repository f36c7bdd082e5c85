/- The walks of the document's answers: Of, Len, Cmp, Sub. -/
import Derived.Test.YtmnmfidcldmhdaaDoorRefE
namespace Go.Proofs.YtmnmfidcldmhdaaDoor
open Go.RowKit

theorem rText_own {w : World} {base n v : Nat} {val : Value} (h : OwnR w base 5 val n (bitv v)) (hn : n ≤ 4294967296) (hv : v < 2 ^ n) :
    Calls Tryd.prog 61 #[val] w fun e w' => e = .returned (.string (nstr v)) ∧ Below w.heap.size w w' := by
  obtain ⟨A, c, rfl, hnc, hrd, _⟩ := h.rd
  exact rText_any A n c v w hn hnc hv hrd

set_option maxRecDepth 100000 in
set_option maxHeartbeats 400000 in
theorem rOf_any (v : Nat) (w : World) (hv : v < LB) :
    Calls Tryd.prog 74 #[.int .u64 (v : Nat)] w fun e w' => e = .returned (.string (nstr v)) ∧ Below w.heap.size w w' := by
  have HV := Lib.hid hv
  clear hv
  go_enter Tryd.func74, Tryd.ntmps74
  go_wp2
  go_loopw [0, 3] (fun i r wr => ∃ k x : Nat, k ≤ 64 ∧ i = .int .u64 (x : Nat) ∧ Hid (x = v / 2 ^ k) ∧ OwnR wr w.heap.size 5 r k (bitv v) ∧ Below w.heap.size w wr) (fun i _ _ => (intOf i).toNat)
  case atStart => exact ⟨0, v, Nat.zero_le _, rfl, by show v = v / 2 ^ 0; simp, OwnR.nil_ _ _ _ _, Below.refl _ _⟩
  case round =>
    obtain ⟨k, x, hk, rfl, hx, hown, hB⟩ := hrel
    have hxb : (x : Int) < 18446744073709551616 := by
      have h1 := HV.out
      have h2 := Nat.div_le_self v (2 ^ k)
      rw [← hx.out] at h2
      rw [LB_eq] at h1
      omega
    by_cases hx0 : x = 0
    · subst hx0
      have hlt : v < 2 ^ k := by
        have h2 := hx.out
        have := Nat.div_add_mod v (2 ^ k)
        rw [← h2, Nat.mul_zero, Nat.zero_add] at this
        have h3 := Nat.mod_lt v (Nat.two_pow_pos k)
        omega
      have c1 := Lib.hid (rText_own hown (by omega) hlt)
      clear hlt
      go_wp2_with fail
      refine c1.out.mono ?_
      rintro e w' ⟨rfl, hb⟩
      go_wp2
      go_ret
      exact ⟨rfl, below_bel hB hb hB.size⟩
    · have hk64 : k < 64 := by
        refine Nat.lt_of_not_le fun h => hx0 ?_
        rw [hx.out]
        exact Nat.div_eq_of_lt (Nat.lt_of_lt_of_le HV.out (by rw [LB_pow]; exact Nat.pow_le_pow_right (by decide) h))
      have hpos : (0 : Int) < (x : Int) := by omega
      have hd : ((x : Int) % 2) = ((dgt 2 v k : Nat) : Int) := by
        have : dgt 2 v k = x % 2 := by rw [hx.out]; rfl
        omega
      have hdb : dgt 2 v k < 2 := dgt_lt (by decide) _ _
      have hmod : (x : Int).tmod 2 = ((dgt 2 v k : Nat) : Int) := by rw [Int.tmod_eq_emod_of_nonneg (by omega)]; exact hd
      have h63 : k + 1 ≤ 9223372036854775807 := by omega
      have hby : (k + 1) * 1 ≤ 140737488355328 := by omega
      obtain ⟨y, hy⟩ : ∃ y, y = x / 2 := ⟨_, rfl⟩
      have hy1 : (x : Int) / 2 = (y : Int) := by omega
      have hy2 : (x : Int).tdiv 2 = (y : Int) := by rw [Int.tdiv_eq_ediv_of_nonneg (by omega)]; exact hy1
      have w1 : IntKind.u64.wrap (y : Int) = (y : Int) := by rw [IntKind.wrap_u64]; omega
      have w2 : IntKind.u64.wrap ((dgt 2 v k : Nat) : Int) = ((dgt 2 v k : Nat) : Int) := by rw [IntKind.wrap_u64]; omega
      have w3 : IntKind.u8.wrap ((dgt 2 v k : Nat) : Int) = ((dgt 2 v k : Nat) : Int) := u8_wrap rfl (by omega)
      have HY := Lib.hid hy
      have HX := Lib.hid hx0
      clear hy hxb
      clear hx0
      go_wp2_with (at_builtin; refine wpList_append1 rfl (.tmp 8) (.tmp 12) _ rfl w.heap.size 5 (.int .u8 0) 1 under_bytes info_u8 rfl _ k (bitv v) _ rfl rfl hown rfl h63 hby hB.size ?_; intro v' w' hown3 hB3 hg3)
      refine ⟨⟨k + 1, y, hk64, by go_num, ?_, hown3.congr fun j hj => ?_, hB.trans hB3⟩, ?_⟩
      · show y = v / 2 ^ (k + 1)
        rw [HY.out, hx.out, Nat.pow_succ, Nat.div_div_eq_div_mul]
      · by_cases e : j = k
        · subst e; simp only [if_true]; rfl
        · simp only [if_neg e]
      · have := HX.out; have := HY.out; simp [intOf]; omega

theorem rLen_any (s : ByteArray) (w : World) (hs : s.size ≤ 268435456) :
    Calls Tryd.prog 62 #[.string s] w fun e w' => e = .returned (.int .i64 (nd 1 (sval s) : Nat)) ∧ Below w.heap.size w w' := by
  go_enter Tryd.func62, Tryd.ntmps62
  go_wp2_with fail
  refine (rBits_any s w hs).mono ?_
  rintro e w1 ⟨A, c, rfl, hnc, hr, hb⟩
  go_wp2
  go_ret
  exact ⟨rfl, hb⟩

set_option maxRecDepth 100000 in
set_option maxHeartbeats 400000 in
theorem rCmp_any (s t : ByteArray) (w : World) (hs : s.size ≤ 268435456) (ht : t.size ≤ 268435456) :
    Calls Tryd.prog 101 #[.string s, .string t] w fun e w' => e = .returned (.int .i64 (cmpI (sval s) (sval t))) ∧ Below w.heap.size w w' := by
  have b1 : nd 1 (sval s) ≤ 4294967296 := by have := nd1_size s; omega
  have b2 : nd 1 (sval t) ≤ 4294967296 := by have := nd1_size t; omega
  have B1 := Lib.hid b1
  have B2 := Lib.hid b2
  have l1 := Lib.hid (nd_lt (k := 1) (by decide) (sval s))
  have l2 := Lib.hid (nd_lt (k := 1) (by decide) (sval t))
  clear b1 b2
  go_enter Tryd.func101, Tryd.ntmps101
  go_wp2_with fail
  refine (rBits_any s w hs).mono ?_
  rintro e w1 ⟨A, c, rfl, hnc, hr, hb⟩
  go_wp2_with fail
  refine (rBits_any t w1 ht).mono ?_
  rintro e w2 ⟨A', c', rfl, hnc', hr', hb'⟩
  go_wp2_with fail
  refine (rCompare_any A A' _ _ c c' _ _ w2 B1.out B2.out (by have := l1.out; rwa [Nat.pow_one] at this) (by have := l2.out; rwa [Nat.pow_one] at this) (hr.below hb') hr').mono ?_
  rintro e w3 ⟨rfl, rfl⟩
  go_wp2
  go_ret
  exact ⟨rfl, below_bel hb hb' hb.size⟩
end Go.Proofs.YtmnmfidcldmhdaaDoor
