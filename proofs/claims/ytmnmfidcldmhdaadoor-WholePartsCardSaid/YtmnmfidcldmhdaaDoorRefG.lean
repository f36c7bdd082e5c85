/- The walks of the document's answers: Zeros, Sub. -/
import Derived.Test.YtmnmfidcldmhdaaDoorRefF
namespace Go.Proofs.YtmnmfidcldmhdaaDoor
open Go.RowKit

theorem tz_bits {v k : Nat} (hz : ∀ j, j < k → dgt 2 v j = 0) (h1 : dgt 2 v k = 1) : tz v = k := by
  refine tz_eq (m := v / 2 ^ (k + 1)) ?_
  have h := split3 2 v k
  have e : v % 2 ^ k = 0 := dgt_ext (B := 2) (n := k) (Nat.mod_lt _ (Nat.two_pow_pos k)) (Nat.two_pow_pos k) fun j hj => by rw [dgt_mod hj, dgt_zero]; exact hz j hj
  rw [e, h1, Nat.zero_add, Nat.add_comm 1] at h
  exact h

theorem lt2_nd (v : Nat) : v < 2 ^ nd 1 v := by have := nd_lt (k := 1) (by decide) v; rwa [Nat.pow_one] at this

set_option maxRecDepth 100000 in
set_option maxHeartbeats 400000 in
theorem rSub_any (s t : ByteArray) (w : World) (hs : s.size ≤ 268435456) (ht : t.size ≤ 268435456) :
    Calls Tryd.prog 72 #[.string s, .string t] w fun e w' => e = .returned (if sval s < sval t then .tuple #[.string ⟨#[]⟩, .bool false] else .tuple #[.string (nstr (sval s - sval t)), .bool true]) ∧ Below w.heap.size w w' := by
  have B1 := Lib.hid (show nd 1 (sval s) ≤ 4294967296 by have := nd1_size s; omega)
  have B2 := Lib.hid (show nd 1 (sval t) ≤ 4294967296 by have := nd1_size t; omega)
  have l1 := Lib.hid (lt2_nd (sval s))
  have l2 := Lib.hid (lt2_nd (sval t))
  have cs := Lib.hid (fun W => rBits_any s W hs)
  have ct := Lib.hid (fun W => rBits_any t W ht)
  have cc := Lib.hid (rCmp_any s t w hs ht)
  generalize sval s = u at *
  generalize sval t = v at *
  by_cases hlt : u < v
  · have h1 : cmpI u v < 0 := cmpI_lt.2 hlt
    simp only [if_pos hlt]
    clear hlt
    go_enter Tryd.func72, Tryd.ntmps72
    go_wp2_with fail
    refine cc.out.mono ?_
    rintro e w1 ⟨rfl, hb⟩
    go_wp2
    go_ret2
    exact ⟨rfl, hb⟩
  · have h1 : ¬ cmpI u v < 0 := fun h => hlt (cmpI_lt.1 h)
    have h2 := Lib.hid (show v ≤ u by omega)
    simp only [if_neg hlt]
    clear hlt
    go_enter Tryd.func72, Tryd.ntmps72
    go_wp2_with fail
    refine cc.out.mono ?_
    rintro e w1 ⟨rfl, hb⟩
    go_wp2_with fail
    refine (cs.out w1).mono ?_
    rintro e w2 ⟨A, c, rfl, hnc, hr, hb2⟩
    go_wp2_with fail
    refine (ct.out w2).mono ?_
    rintro e w3 ⟨A', c', rfl, hnc', hr', hb3⟩
    have hB2 := below_bel hb hb2 hb.size
    have hB3 := below_bel hB2 hb3 hB2.size
    go_wp2_with fail
    refine (rMinus_any A A' _ _ c c' _ _ w3 (by have := B1.out; omega) (by have := B2.out; omega) l1.out l2.out h2.out (hr.below hb3) hr').mono ?_
    rintro e w4 ⟨g, rfl, hb4, hg, hr4⟩
    have hB4 := below_bel hB3 hb4 hB3.size
    go_wp2_with fail
    refine (rText_any _ _ _ _ w4 B1.out (Nat.le_refl _) (Nat.lt_of_le_of_lt (Nat.sub_le _ _) l1.out) hr4).mono ?_
    rintro e w5 ⟨rfl, hb5⟩
    go_wp2
    go_ret2
    exact ⟨rfl, below_bel hB4 hb5 hB4.size⟩
end Go.Proofs.YtmnmfidcldmhdaaDoor
