/- The walks and plain laws beneath the statements. -/
import Derived.Test.YtkgogbmeehiloaaGreatDoorPK18
import Derived.Test.YtkgogbmeehiloaaGreatDoorPK11
namespace Go.Proofs.YtkgogbmeehiloaaGreatDoor
open Go.RowKit

end Go.Proofs.YtkgogbmeehiloaaGreatDoor

/- The walks of the document's answers: Mul. -/
namespace Go.Proofs.YtkgogbmeehiloaaGreatDoor
open Go.RowKit

end Go.Proofs.YtkgogbmeehiloaaGreatDoor

/- The walks of the document's answers: Add. -/
namespace Go.Proofs.YtkgogbmeehiloaaGreatDoor
open Go.RowKit

set_option maxRecDepth 100000 in
set_option maxHeartbeats 400000 in
theorem rAdd_any (A : Option Addr) (n c : Nat) (ss : Nat → ByteArray) (w : World) (hn : n ≤ 1048576) (hs : ∀ j, (ss j).size ≤ 16777216) (hrl : Rd w A n fun j => .string (ss j)) :
    Calls Tryz.prog 37 #[.slice A n c] w fun e w' => e = .returned (.string (nstr (sumTo (fun j => sval (ss j)) n))) ∧ Below w.heap.size w w' := by
  have hnb : ∀ j, nd 1 (sval (ss j)) ≤ 134217728 := fun j => by have := nd1_size (ss j); have := hs j; omega
  have HNB := Lib.hid hnb
  have cs := Lib.hid (fun j W => rBits_any (ss j) W (by have := hs j; omega))
  clear hs hnb
  go_enter Tryz.func37, Tryz.ntmps37
  go_wp2
  go_loopw [3, 4] (fun o i wr => ∃ k m cc : Nat, ∃ A0 : Option Addr, k ≤ n ∧ i = .int .i64 (k : Nat) ∧ o = .slice A0 m cc ∧ Hid (m ≤ cc ∧ m ≤ 134217728 + k ∧ sumTo (fun j => sval (ss j)) k < 2 ^ m) ∧ Rd wr A0 m (bitv (sumTo (fun j => sval (ss j)) k)) ∧ Below w.heap.size w wr) (fun _ i _ => n - (intOf i).toNat)
  case atStart => exact ⟨0, 0, 0, none, Nat.zero_le _, rfl, rfl, ⟨Nat.le_refl _, Nat.zero_le _, by show 0 < 2 ^ 0; decide⟩, Rd.nil_, Below.refl _ _⟩
  case round =>
    obtain ⟨k, m, cc, A0, hk, rfl, rfl, hX, hro, hB⟩ := hrel
    by_cases hlt : k < n
    · obtain ⟨b, off, rfl, hc⟩ := hrl (by omega)
      have g1 : wr.cell? ⟨b, off + k, none⟩ = some (.string (ss k)) := cell_later hB (hc k hlt)
      have HC := Lib.hid hc
      have HNk := Lib.hid (HNB.out k)
      have HS := Lib.hid (show sumTo (fun j => sval (ss j)) (k + 1) = sumTo (fun j => sval (ss j)) k + sval (ss k) * 2 ^ 0 by rw [Nat.pow_zero, Nat.mul_one]; rfl)
      have ck := Lib.hid (cs.out k wr)
      have l2 := Lib.hid (lt2_nd (sval (ss k)))
      clear hc hrl
      generalize sval (ss k) = v at *
      go_wp2_with fail
      refine ck.out.mono ?_
      rintro e w3 ⟨A', c', rfl, hnc', hr', hb3⟩
      have hB3 := below_bel hB hb3 hB.size
      have cp := Lib.hid (rPlus_any A0 A' m (nd 1 v) cc c' _ v 0 w3 (by have := hX.out.2.1; omega) (by have := HNk.out; omega) (by omega) hX.out.2.2 l2.out (hro.below hb3) hr')
      clear hro hr' hb3 hB
      go_wp2_with fail
      refine cp.out.mono ?_
      rintro e w4 ⟨g, N, rfl, hb4, hg, hr4, hf4, hN⟩
      have HF := Lib.hid hf4
      have HN := Lib.hid hN
      clear hf4 hN
      go_wp2
      exact ⟨⟨k + 1, N, N, _, hlt, by go_num, rfl, ⟨Nat.le_refl _, by have := hX.out.2.1; have := HN.out; have := HNk.out; omega, by rw [HS.out]; exact HF.out⟩, by rw [HS.out]; exact hr4, below_bel hB3 hb4 hB3.size⟩, by simp [intOf]; omega⟩
    · obtain rfl : k = n := by omega
      have ctx := Lib.hid (rText_any A0 m cc _ wr (by have := hX.out.2.1; omega) hX.out.1 hX.out.2.2 hro)
      go_wp2_with fail
      refine ctx.out.mono ?_
      rintro e w5 ⟨rfl, hb5⟩
      go_wp2
      go_ret
      exact ⟨rfl, below_bel hB hb5 hB.size⟩
end Go.Proofs.YtkgogbmeehiloaaGreatDoor

