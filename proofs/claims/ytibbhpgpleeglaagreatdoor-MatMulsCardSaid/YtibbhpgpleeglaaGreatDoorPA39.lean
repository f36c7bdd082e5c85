/- The walks and plain laws beneath the statements. -/
import Derived.Test.YtibbhpgpleeglaaGreatDoorPA24
namespace Go.Proofs.YtibbhpgpleeglaaGreatDoor
open Go Go.RowKit

/-- A number that the laws reckon with. -/
def okM (s : ByteArray) (e : Int) : Prop := s.size ≤ 8 ∧ -60 ≤ e ∧ e ≤ 60
/-- A table that the laws reckon with. -/
def gOK (n : Nat) (ms : Nat → Nat) (ss : Nat → Nat → ByteArray) (es : Nat → Nat → Int) : Prop := ¬ (4 < n ∧ n < 9) ∧ n ≤ 20 ∧ ∀ i, i < n → ms i ≤ 20 ∧ ∀ j, j < ms i → okM (ss i j) (es i j)
set_option maxRecDepth 100000 in
set_option maxHeartbeats 2000000 in
theorem great_any (A : Option Addr) (n c : Nat) (ms : Nat → Nat) (bs : Nat → Nat → Bool) (ss : Nat → Nat → ByteArray) (es : Nat → Nat → Int) (w : World) (hn : n ≤ 9223372036854775807) (hm : ∀ i, i < n → ms i ≤ 9223372036854775807) (hr : RdM w A n ms bs ss es) :
    Calls Tryz.prog 7 #[.slice A n c] w fun e w' => (gOK n ms ss es → e = .returned (.bool false)) ∧ (¬ gOK n ms ss es → e = .returned (.bool true)) ∧ Below w.heap.size w w' := by
  have HR := Lib.hid hr
  have HM := Lib.hid hm
  clear hr hm
  go_enter Tryz.func7, Tryz.ntmps7
  have hB0 := Below.refl w.heap.size w
  by_cases h4 : 4 < n ∧ n < 9
  · have hg1 : (4 : Int) < (n : Int) := by omega
    have hg2 : (n : Int) < 9 := by omega
    have HG := Lib.hid h4
    clear h4
    go_wp2_with fail
    go_ret
    exact ⟨fun h => absurd HG.out h.1, fun _ => rfl, hB0⟩
  · by_cases h20 : n ≤ 20
    · have hg3 : ¬ (20 : Int) < (n : Int) := by omega
      have HG := Lib.hid h4
      by_cases h5 : (4 : Int) < (n : Int)
      · have hg2 : ¬ (n : Int) < 9 := by omega
        clear h4
        go_wp2_with fail
        have hgn : ¬ (4 < n ∧ n < 9) := HG.out
        have HG2 := Lib.hid (And.intro hgn h20)
        clear hgn
        go_loopw [3] (fun i wr => ∃ k : Nat, k ≤ n ∧ i = .int .i64 (k : Nat) ∧ Hid (∀ i, i < k → ms i ≤ 20 ∧ ∀ j, j < ms i → okM (ss i j) (es i j)) ∧ Below w.heap.size w wr) (fun i _ => n - (RowKit.intOf i).toNat)
        case atStart => exact ⟨0, Nat.zero_le _, rfl, Lib.hid fun j hj => absurd hj (by omega), Below.refl _ _⟩
        case round =>
          obtain ⟨k, hk, rfl, hall, hB⟩ := hrel
          by_cases hlt : k < n
          · obtain ⟨b, off, rfl, hc⟩ := (HR.out.below hB) (by omega)
            obtain ⟨Ai, ci, _, _, g1, hi1⟩ := hc k hlt
            have hlti : (k : Int) < (n : Int) := by omega
            have HI1 := Lib.hid hi1.num
            clear hc hi1
            by_cases hm20 : ms k ≤ 20
            · have hz : ¬ (20 : Int) < (ms k : Int) := by omega
              obtain ⟨m, hmm⟩ : ∃ m, ms k = m := ⟨_, rfl⟩
              rw [hmm] at g1 HI1 hm20 hz
              have HMM := Lib.hid hmm
              have HB := Lib.hid hB
              clear hmm hB
              go_wp2_with fail
              obtain ⟨wo, hwo⟩ : ∃ x, x = wr := ⟨_, rfl⟩
              subst hwo
              go_loopw [4] (fun i wr => ∃ q : Nat, q ≤ m ∧ i = .int .i64 (q : Nat) ∧ Hid (∀ j, j < q → okM (ss k j) (es k j)) ∧ Below wo.heap.size wo wr) (fun i _ => m - (RowKit.intOf i).toNat)
              case atStart => exact ⟨0, Nat.zero_le _, rfl, Lib.hid fun j hj => absurd hj (by omega), Below.refl _ _⟩
              case round =>
                obtain ⟨q, hq, rfl, hall2, hB2⟩ := hrel
                replace g1 := cell_later hB2 g1
                by_cases hlt2 : q < m
                · obtain ⟨b', off', rfl, hc'⟩ := HI1.out (by omega)
                  have g2 := cell_later hB2 (hc' q hlt2).1
                  have g3 := cell_later hB2 (hc' q hlt2).2.1
                  have g4 := cell_later hB2 (hc' q hlt2).2.2
                  have hlt2i : (q : Int) < (m : Int) := by omega
                  clear hc'
                  obtain ⟨p1, p2, p3, _, _, _⟩ := (Bx.new wr 29 #[.bool (bs k q), .string (ss k q), .int .i64 (es k q)]).three
                  have HB2 := Lib.hid (nxtA hB2 (.cells #[.bool (bs k q), .string (ss k q), .int .i64 (es k q)] 29))
                  clear hB2
                  by_cases e1 : (ss k q).size ≤ 8
                  · have d1 : ¬ (8 : Int) < ((ss k q).size : Int) := by omega
                    by_cases e2 : es k q < -60
                    · have e3 : ¬ okM (ss k q) (es k q) := fun h => by have := h.2; omega
                      have HE := Lib.hid e3
                      clear e3
                      go_wp2
                      go_ret
                      exact ⟨fun h => absurd ((h.2.2 k hlt).2 q (by rw [HMM.out]; exact hlt2)) HE.out, fun _ => rfl, nxt HB.out HB2.out⟩
                    · by_cases e4 : 60 < es k q
                      · have e3 : ¬ okM (ss k q) (es k q) := fun h => by have := h.2; omega
                        have HE := Lib.hid e3
                        clear e3
                        go_wp2
                        go_ret
                        exact ⟨fun h => absurd ((h.2.2 k hlt).2 q (by rw [HMM.out]; exact hlt2)) HE.out, fun _ => rfl, nxt HB.out HB2.out⟩
                      · have e3 : okM (ss k q) (es k q) := ⟨e1, by omega, by omega⟩
                        have HE := Lib.hid e3
                        clear e3
                        go_wp2
                        refine ⟨⟨q + 1, by omega, by go_num, Lib.hid fun j hj => ?_, HB2.out⟩, by simp [RowKit.intOf]; omega⟩
                        by_cases e : j = q
                        · subst e; exact HE.out
                        · exact hall2.out j (by omega)
                  · have d1 : (8 : Int) < ((ss k q).size : Int) := by omega
                    have HE := Lib.hid (show ¬ okM (ss k q) (es k q) from fun h => e1 h.1)
                    go_wp2
                    go_ret
                    exact ⟨fun h => absurd ((h.2.2 k hlt).2 q (by rw [HMM.out]; exact hlt2)) HE.out, fun _ => rfl, nxt HB.out HB2.out⟩
                · obtain rfl : q = m := by omega
                  have hlt2i : ¬ (q : Int) < (q : Int) := by omega
                  have hB3 := nxt HB.out hB2
                  go_wp2
                  refine ⟨⟨k + 1, by omega, by go_num, Lib.hid fun j hj => ?_, hB3⟩, by simp [RowKit.intOf]; omega⟩
                  by_cases e : j = k
                  · subst e; exact ⟨by rw [HMM.out]; exact hm20, fun i hi => hall2.out i (by rw [← HMM.out]; exact hi)⟩
                  · exact hall.out j (by omega)
            · have hz : (20 : Int) < (ms k : Int) := by omega
              have HZ := Lib.hid hm20
              clear hm20
              go_wp2_with fail
              go_ret
              exact ⟨fun h => absurd (h.2.2 k hlt).1 HZ.out, fun _ => rfl, hB⟩
          · obtain rfl : k = n := by omega
            have hlti : ¬ (k : Int) < (k : Int) := by omega
            go_wp2
            go_ret
            exact ⟨fun _ => rfl, fun h => absurd ⟨HG2.out.1, HG2.out.2, hall.out⟩ h, hB⟩
      · clear h4
        go_wp2_with fail
        have hgn : ¬ (4 < n ∧ n < 9) := HG.out
        have HG2 := Lib.hid (And.intro hgn h20)
        clear hgn
        go_loopw [3] (fun i wr => ∃ k : Nat, k ≤ n ∧ i = .int .i64 (k : Nat) ∧ Hid (∀ i, i < k → ms i ≤ 20 ∧ ∀ j, j < ms i → okM (ss i j) (es i j)) ∧ Below w.heap.size w wr) (fun i _ => n - (RowKit.intOf i).toNat)
        case atStart => exact ⟨0, Nat.zero_le _, rfl, Lib.hid fun j hj => absurd hj (by omega), Below.refl _ _⟩
        case round =>
          obtain ⟨k, hk, rfl, hall, hB⟩ := hrel
          by_cases hlt : k < n
          · obtain ⟨b, off, rfl, hc⟩ := (HR.out.below hB) (by omega)
            obtain ⟨Ai, ci, _, _, g1, hi1⟩ := hc k hlt
            have hlti : (k : Int) < (n : Int) := by omega
            have HI1 := Lib.hid hi1.num
            clear hc hi1
            by_cases hm20 : ms k ≤ 20
            · have hz : ¬ (20 : Int) < (ms k : Int) := by omega
              obtain ⟨m, hmm⟩ : ∃ m, ms k = m := ⟨_, rfl⟩
              rw [hmm] at g1 HI1 hm20 hz
              have HMM := Lib.hid hmm
              have HB := Lib.hid hB
              clear hmm hB
              go_wp2_with fail
              obtain ⟨wo, hwo⟩ : ∃ x, x = wr := ⟨_, rfl⟩
              subst hwo
              go_loopw [4] (fun i wr => ∃ q : Nat, q ≤ m ∧ i = .int .i64 (q : Nat) ∧ Hid (∀ j, j < q → okM (ss k j) (es k j)) ∧ Below wo.heap.size wo wr) (fun i _ => m - (RowKit.intOf i).toNat)
              case atStart => exact ⟨0, Nat.zero_le _, rfl, Lib.hid fun j hj => absurd hj (by omega), Below.refl _ _⟩
              case round =>
                obtain ⟨q, hq, rfl, hall2, hB2⟩ := hrel
                replace g1 := cell_later hB2 g1
                by_cases hlt2 : q < m
                · obtain ⟨b', off', rfl, hc'⟩ := HI1.out (by omega)
                  have g2 := cell_later hB2 (hc' q hlt2).1
                  have g3 := cell_later hB2 (hc' q hlt2).2.1
                  have g4 := cell_later hB2 (hc' q hlt2).2.2
                  have hlt2i : (q : Int) < (m : Int) := by omega
                  clear hc'
                  obtain ⟨p1, p2, p3, _, _, _⟩ := (Bx.new wr 29 #[.bool (bs k q), .string (ss k q), .int .i64 (es k q)]).three
                  have HB2 := Lib.hid (nxtA hB2 (.cells #[.bool (bs k q), .string (ss k q), .int .i64 (es k q)] 29))
                  clear hB2
                  by_cases e1 : (ss k q).size ≤ 8
                  · have d1 : ¬ (8 : Int) < ((ss k q).size : Int) := by omega
                    by_cases e2 : es k q < -60
                    · have e3 : ¬ okM (ss k q) (es k q) := fun h => by have := h.2; omega
                      have HE := Lib.hid e3
                      clear e3
                      go_wp2
                      go_ret
                      exact ⟨fun h => absurd ((h.2.2 k hlt).2 q (by rw [HMM.out]; exact hlt2)) HE.out, fun _ => rfl, nxt HB.out HB2.out⟩
                    · by_cases e4 : 60 < es k q
                      · have e3 : ¬ okM (ss k q) (es k q) := fun h => by have := h.2; omega
                        have HE := Lib.hid e3
                        clear e3
                        go_wp2
                        go_ret
                        exact ⟨fun h => absurd ((h.2.2 k hlt).2 q (by rw [HMM.out]; exact hlt2)) HE.out, fun _ => rfl, nxt HB.out HB2.out⟩
                      · have e3 : okM (ss k q) (es k q) := ⟨e1, by omega, by omega⟩
                        have HE := Lib.hid e3
                        clear e3
                        go_wp2
                        refine ⟨⟨q + 1, by omega, by go_num, Lib.hid fun j hj => ?_, HB2.out⟩, by simp [RowKit.intOf]; omega⟩
                        by_cases e : j = q
                        · subst e; exact HE.out
                        · exact hall2.out j (by omega)
                  · have d1 : (8 : Int) < ((ss k q).size : Int) := by omega
                    have HE := Lib.hid (show ¬ okM (ss k q) (es k q) from fun h => e1 h.1)
                    go_wp2
                    go_ret
                    exact ⟨fun h => absurd ((h.2.2 k hlt).2 q (by rw [HMM.out]; exact hlt2)) HE.out, fun _ => rfl, nxt HB.out HB2.out⟩
                · obtain rfl : q = m := by omega
                  have hlt2i : ¬ (q : Int) < (q : Int) := by omega
                  have hB3 := nxt HB.out hB2
                  go_wp2
                  refine ⟨⟨k + 1, by omega, by go_num, Lib.hid fun j hj => ?_, hB3⟩, by simp [RowKit.intOf]; omega⟩
                  by_cases e : j = k
                  · subst e; exact ⟨by rw [HMM.out]; exact hm20, fun i hi => hall2.out i (by rw [← HMM.out]; exact hi)⟩
                  · exact hall.out j (by omega)
            · have hz : (20 : Int) < (ms k : Int) := by omega
              have HZ := Lib.hid hm20
              clear hm20
              go_wp2_with fail
              go_ret
              exact ⟨fun h => absurd (h.2.2 k hlt).1 HZ.out, fun _ => rfl, hB⟩
          · obtain rfl : k = n := by omega
            have hlti : ¬ (k : Int) < (k : Int) := by omega
            go_wp2
            go_ret
            exact ⟨fun _ => rfl, fun h => absurd ⟨HG2.out.1, HG2.out.2, hall.out⟩ h, hB⟩
    · have hg3 : (20 : Int) < (n : Int) := by omega
      have hg1 : (4 : Int) < (n : Int) := by omega
      have hg2 : ¬ (n : Int) < 9 := by omega
      clear h4
      go_wp2_with fail
      go_ret
      exact ⟨fun h => absurd h.2.1 h20, fun _ => rfl, hB0⟩
end Go.Proofs.YtibbhpgpleeglaaGreatDoor

