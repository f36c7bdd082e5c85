/- The walk of ogeelaw02.WholeMuls: it answers true. -/
import Derived.Test.YtmnmfidcldmhdaaDoorWLawB
namespace Go.Proofs.YtmnmfidcldmhdaaDoor
open Go.RowKit

theorem RdI.congr {w : World} {A : Option Addr} {n : Nat} {bs : Nat → Bool} {ss ss' : Nat → ByteArray} (h : RdI w A n bs ss) (hf : ∀ j, j < n → ss j = ss' j) : RdI w A n bs ss' := fun h0 => by
  obtain ⟨b, off, e, hc⟩ := h h0
  exact ⟨b, off, e, fun j hj => ⟨(hc j hj).1, by rw [← hf j hj]; exact (hc j hj).2⟩⟩

set_option maxRecDepth 100000 in
set_option maxHeartbeats 2000000 in
theorem wholeMuls_any (A : Option Addr) (n c : Nat) (bs : Nat → Bool) (ss : Nat → ByteArray) (m : Int) (w : World) (hm' : (Lit.int IntKind.i64 m).wf = true) (hr : RdI w A n bs ss) (hT : TabAt 0 Lib.deBruijn64tab w) :
    Calls Tryd.prog 4 #[.slice A n c, .int .i64 m] w fun e w' => e = .returned (.bool true) ∧ Below w.heap.size w w' := by
  have hm : -9223372036854775808 ≤ m ∧ m ≤ 9223372036854775807 := by simpa [Lit.wf, IntKind.min, IntKind.max, IntKind.signed, IntKind.bits] using hm'
  have HA := Lib.hid (fun W (h : Below w.heap.size w W) => wawake_any W (tab_keep hT h))
  have hB0 := Below.refl w.heap.size w
  clear hT hm'
  by_cases h1 : 5 < n
  · clear hm
    go_enter Tryd.func4, Tryd.ntmps4
    go_wp2_with fail
    refine (HA.out _ hB0).mono ?_
    rintro e wz ⟨rfl, hb⟩
    go_wp2
    go_ret
    exact ⟨rfl, nxt hB0 hb⟩
  have h1' : n ≤ 5 := by omega
  clear h1
  by_cases h2 : ∃ k, k < n ∧ (30 : Int) < ((ss k).size : Int)
  · obtain ⟨k0, hk0, hk⟩ := h2
    have cl := Lib.hid (long_yes A n c bs ss 30 w (by omega) k0 hk0 hk hr)
    clear hm hk hk0 hr
    go_enter Tryd.func4, Tryd.ntmps4
    go_wp2_with fail
    refine cl.out.mono ?_
    rintro e w1 ⟨rfl, rfl⟩
    go_wp2_with fail
    refine (HA.out _ hB0).mono ?_
    rintro e wz ⟨rfl, hb⟩
    go_wp2
    go_ret
    exact ⟨rfl, nxt hB0 hb⟩
  have hsz : ∀ j, j < n → (ss j).size ≤ 30 := fun j hj => by
    have := mt (fun h => (⟨j, hj, h⟩ : ∃ k, k < n ∧ (30 : Int) < ((ss k).size : Int))) h2
    omega
  have cl := Lib.hid (long_no A n c bs ss 30 w (by omega) (fun j hj => by have := hsz j hj; omega) hr)
  have hr2 : RdI w A n bs (fun j => if j < n then ss j else ⟨#[]⟩) := hr.congr fun j hj => by rw [if_pos hj]
  have hs2 : ∀ j, (if j < n then ss j else (⟨#[]⟩ : ByteArray)).size ≤ 30 := fun j => by
    split
    · exact hsz j ‹_›
    · exact Nat.zero_le _
  have cM := Lib.hid (wMul_any A n c bs _ 30 w (by omega) (by decide) hs2 (by omega) hr2)
  have cN := Lib.hid (fun W (h : Below w.heap.size w W) => rWMul_any A n c bs _ W 30 (by omega) (by decide) hs2 (by omega) (hr2.below h))
  generalize prodI (fun j => ival (bs j) (sval (if j < n then ss j else ⟨#[]⟩))) n = Z at *
  have HSZ := Lib.hid hsz
  clear h2 hr2 hs2 hsz
  go_enter Tryd.func4, Tryd.ntmps4
  go_wp2_with fail
  refine cl.out.mono ?_
  rintro e w1 ⟨rfl, rfl⟩
  go_wp2_with fail
  refine cM.out.mono ?_
  rintro e w2 ⟨rfl, hb⟩
  have hB := nxt hB0 hb
  clear hb
  go_wp2_with fail
  refine (cN.out _ hB).mono ?_
  rintro e w3 ⟨rfl, hb⟩
  replace hB := nxt hB hb
  clear hb
  go_wp2_with fail
  go_loopw [5] (fun i wr => ∃ k : Nat, k ≤ 1 ∧ i = .int .i64 (k : Nat) ∧ Below w.heap.size w wr) (fun i _ => 1 - (intOf i).toNat)
  case atStart => exact ⟨0, by decide, rfl, hB⟩
  case round =>
    obtain ⟨k, hk, rfl, hB2⟩ := hrel
    by_cases hk0 : k = 0
    · subst hk0
      have e0 : ((0 : Nat) : Int) = 0 := rfl
      rw [e0]
      clear e0
      by_cases hn0 : 0 < n
      · by_cases h12 : m ≤ 12
        · obtain ⟨b, off, rfl, hc⟩ := hr hn0
          have g1 : wr.cell? ⟨b, off, none⟩ = some (.bool (bs 0)) := by simpa using cell_later hB2 (hc 0 hn0).1
          have g2 : wr.cell? ⟨b, off + 1, none⟩ = some (.string (ss 0)) := by simpa using cell_later hB2 (hc 0 hn0).2
          have hs0 := HSZ.out 0 hn0
          have hmul : (ss 0).size * m.toNat ≤ 360 := Nat.le_trans (Nat.mul_le_mul hs0 (show m.toNat ≤ 12 by omega)) (by decide)
          have cP := Lib.hid (fun W => wPow_any (ss 0) (bs 0) m W (by omega) (by omega) (by omega))
          have cQ := Lib.hid (fun W => rWPow_any (ss 0) (bs 0) m W (by omega) (by omega) (by omega) (by omega))
          generalize ival (bs 0) (sval (ss 0)) ^ m.toNat = Y at *
          clear hs0 hmul hc
          go_wp2_with fail
          go_region_held3 (fun w' => w'.cell? ⟨b, off, none⟩ = some (.bool (bs 0)) ∧ w'.cell? ⟨b, off + 1, none⟩ = some (.string (ss 0))) (first | exact ⟨g1, g2⟩ | exact ⟨cell_later hb g1, cell_later hb g2⟩ | exact ⟨cell_later hb2 (cell_later hb g1), cell_later hb2 (cell_later hb g2)⟩)
            (first
              | (go_at_call 23; refine (cP.out wr.drew).mono ?_; rintro e wn ⟨rfl, hb'⟩; have hb := undrew hb'; clear hb')
              | (go_at_call 24; refine (cQ.out wn).mono ?_; rintro e wm ⟨rfl, hb2⟩))
          go_wp2
          exact ⟨⟨1, by decide, rfl, nxt (nxt hB2 hb) hb2⟩, by simp [intOf]⟩
        · go_wp2_with fail
          refine (HA.out _ hB2).mono ?_
          rintro e wz ⟨rfl, hb⟩
          go_wp2
          go_ret
          exact ⟨rfl, nxt hB2 hb⟩
      · go_wp2_with fail
        refine (HA.out _ hB2).mono ?_
        rintro e wz ⟨rfl, hb⟩
        go_wp2
        go_ret
        exact ⟨rfl, nxt hB2 hb⟩
    · obtain rfl : k = 1 := by omega
      have e1 : ((1 : Nat) : Int) = 1 := rfl
      rw [e1]
      clear e1
      by_cases hn1 : 1 < n
      · go_wp2_with fail
        refine (HA.out _ hB2).mono ?_
        rintro e wz ⟨rfl, hb⟩
        go_wp2
        go_ret
        exact ⟨rfl, nxt hB2 hb⟩
      · go_wp2_with fail
        refine (HA.out _ hB2).mono ?_
        rintro e wz ⟨rfl, hb⟩
        go_wp2
        go_ret
        exact ⟨rfl, nxt hB2 hb⟩

end Go.Proofs.YtmnmfidcldmhdaaDoor
