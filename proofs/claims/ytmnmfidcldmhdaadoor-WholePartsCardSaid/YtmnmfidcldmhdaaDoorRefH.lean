/- The walks of the document's answers: Shl, Shr, Mul. -/
import Derived.Test.YtmnmfidcldmhdaaDoorRefG
import Derived.Test.YtmnmfidcldmhdaaDoorNatF
namespace Go.Proofs.YtmnmfidcldmhdaaDoor
open Go.RowKit

set_option maxRecDepth 100000 in
set_option maxHeartbeats 400000 in
theorem rShl_any (s : ByteArray) (n : Int) (w : World) (hs : s.size ≤ 268435456) (hn : n ≤ 1073741824) :
    Calls Tryd.prog 57 #[.string s, .int .i64 n] w fun e w' => e = .returned (.string (nstr (sval s * 2 ^ n.toNat))) ∧ Below w.heap.size w w' := by
  have B1 := Lib.hid (show nd 1 (sval s) ≤ 2147483648 by have := nd1_size s; omega)
  have l1 := Lib.hid (lt2_nd (sval s))
  have cs := Lib.hid (fun W => rBits_any s W hs)
  generalize sval s = V at *
  have hm := max_int n
  have hup := Lib.hid (show n.toNat ≤ 1073741824 by omega)
  generalize n.toNat = up at *
  go_enter Tryd.func57, Tryd.ntmps57
  go_wp2_with fail
  refine (cs.out w).mono ?_
  rintro e w1 ⟨A, c, rfl, hnc, hr, hb⟩
  go_wp2_with fail
  refine (rPlus_any none A 0 _ 0 c 0 V up w1 (Nat.zero_le _) (by have := B1.out; omega) (by have := hup.out; omega) (Nat.two_pow_pos 0) l1.out Rd.nil_ hr).mono ?_
  rintro e w2 ⟨g, N, rfl, hb2, hg, hr2, hlt, hN⟩
  rw [Nat.zero_add] at hr2 hlt
  have hB2 := below_bel hb hb2 hb.size
  have HN := Lib.hid (show N ≤ 4294967296 by have := B1.out; have := hup.out; omega)
  have HL := Lib.hid hlt
  clear hN hlt
  go_wp2_with fail
  refine (rText_any _ N N _ w2 HN.out (Nat.le_refl _) HL.out hr2).mono ?_
  rintro e w3 ⟨rfl, hb3⟩
  go_wp2
  go_ret
  exact ⟨rfl, below_bel hB2 hb3 hB2.size⟩

end Go.Proofs.YtmnmfidcldmhdaaDoor
