/- The walks and plain laws beneath the statements. -/
import Derived.Test.YtibbhpgpleeglaaGreatDoorPA33
import Derived.Test.YtibbhpgpleeglaaGreatDoorPA32
import Derived.Test.YtibbhpgpleeglaaGreatDoorPA34
namespace Go.Proofs.YtibbhpgpleeglaaGreatDoor
open Go Go.RowKit

theorem wSign_vn (z : Int) (W : World) : Calls Tryz.prog 47 #[.agg #[.bool (neg z), .string (mag z)]] W fun e w' => e = .returned (.int .i64 (sgn z)) ∧ Below W.heap.size W w' := by
  have c := wSign_any (mag z) (neg z) W
  rw [ival_mk] at c
  exact c
theorem sgn_ne {z : Int} (h : z ≠ 0) : (sgn z != 0) = true := by
  unfold sgn
  rcases Int.lt_trichotomy z 0 with h1 | h1 | h1
  · rw [if_pos h1]; rfl
  · exact absurd h1 h
  · rw [if_neg (by omega), if_neg (by omega)]; rfl
set_option maxRecDepth 100000 in
set_option maxHeartbeats 400000 in
theorem bar1_any (b n c k : Nat) (g6 : Nat) (z : Int) (w : World) (hk : k < n) (hg : w.cell? ⟨g6, 0, none⟩ = some (.int .i64 (k : Nat))) (h1 : w.cell? ⟨b, k * 2, none⟩ = some (.bool (neg z))) (h2 : w.cell? ⟨b, k * 2 + 1, none⟩ = some (.string (mag z))) :
    Calls Tryz.prog 51 #[.slice (some ⟨b, 0, none⟩) n c, .pointer (some ⟨g6, 0, none⟩)] w fun e w' => (z = 0 → e = .returned (.bool false)) ∧ (z ≠ 0 → e = .returned (.bool true)) ∧ Below w.heap.size w w' := by
  have cS := Lib.hid (wSign_vn z w)
  have hki : (k : Int) < (n : Int) := by omega
  have hkj : (0 : Int) ≤ (k : Int) := by omega
  go_enter Tryz.func51, Tryz.ntmps51
  go_wp2_with fail
  refine cS.out.mono ?_
  rintro e w1 ⟨rfl, hb⟩
  have HB := Lib.hid hb
  clear hb cS hg h1 h2
  by_cases hz : z = 0
  · have hs : sgn z = 0 := by rw [hz]; rfl
    have HZ := Lib.hid hz
    clear hz
    rw [hs]
    go_wp2
    go_ret
    exact ⟨fun _ => rfl, fun h => absurd HZ.out h, HB.out⟩
  · have hs := sgn_ne hz
    have HZ := Lib.hid hz
    clear hz
    generalize sgn z = s at *
    have hs2 : ¬ s = 0 := by simpa using hs
    go_wp2
    go_ret
    exact ⟨fun h => absurd h HZ.out, fun _ => rfl, HB.out⟩
set_option maxRecDepth 100000 in
set_option maxHeartbeats 400000 in
theorem idxI_any (base top g n k m cc : Nat) (As cs : Nat → Nat) (M : Nat → Nat → Int) (g6 k0 : Nat) (w : World) (hkm : k + m = n) (hm : 0 < m) (hn : n ≤ 1000) (hk : k0 ≤ m) (h1 : ∀ j, j < k0 → M (k + j) k = 0) (h2 : k0 < m → M (k + k0) k ≠ 0) (ht : TabI w base top g n 68 27 As cs M) (htop : top ≤ w.heap.size) (hg : w.cell? ⟨g6, 0, none⟩ = some (.int .i64 (k : Nat))) :
    Calls Tryz.prog 50 #[.slice (some ⟨g, k, none⟩) m cc, .func (Fn.func 51) #[] #[.pointer (some ⟨g6, 0, none⟩)]] w fun e w' => e = .returned (.int .i64 (if k0 < m then (k0 : Int) else -1)) ∧ Below w.heap.size w w' := by
  have H1 := Lib.hid h1
  have H2 := Lib.hid h2
  have HT := Lib.hid ht
  have HN := Lib.hid (And.intro hkm (And.intro hn htop))
  have hm2 : m ≤ 1000 := by omega
  clear h1 h2 ht hkm htop
  go_enter Tryz.func50, Tryz.ntmps50
  go_wp2_with fail
  go_loopw [8] (fun i wr => ∃ q : Nat, q ≤ k0 ∧ i = .int .i64 (q : Nat) ∧ Below w.heap.size w wr) (fun i _ => m - (intOf i).toNat)
  case atStart => exact ⟨0, Nat.zero_le _, rfl, Below.refl _ _⟩
  case round =>
    obtain ⟨q, hqk, rfl, hB⟩ := hrel
    by_cases hlt : q < m
    · have hT1 := HT.out.later hB HN.out.2.2
      have hkq : k + q < n := by have := HN.out; omega
      have g1 := (hT1.row hkq).1
      have hkn : k < n := by have := HN.out; omega
      obtain ⟨a1, a2, _, _⟩ := hT1.at hkq hkn
      have c1 := Lib.hid (bar1_any (As (k + q)) n (cs (k + q)) k g6 (M (k + q) k) wr hkn (cell_later hB hg) a1 a2)
      have hlti : (q : Int) < (m : Int) := by omega
      have hqj : (0 : Int) ≤ (q : Int) := by omega
      have HB := Lib.hid hB
      have HNK := Lib.hid (And.intro hkq hkn)
      clear hT1 a1 a2 hB hkq hkn
      by_cases he : q = k0
      · subst he
        go_wp2_with fail
        refine c1.out.mono ?_
        rintro e w1 ⟨_, e1, hb⟩
        obtain rfl := e1 (H2.out hlt)
        have hB2 := nxt HB.out hb
        clear hb e1 c1
        go_wp2
        go_ret
        exact ⟨rfl, hB2⟩
      · go_wp2_with fail
        refine c1.out.mono ?_
        rintro e w1 ⟨e1, _, hb⟩
        obtain rfl := e1 (H1.out q (by omega))
        have hB2 := nxt HB.out hb
        clear hb e1 c1
        go_wp2
        exact ⟨⟨q + 1, by omega, by go_num, hB2⟩, by simp [intOf]; omega⟩
    · obtain rfl : q = m := by omega
      obtain rfl : q = k0 := by omega
      have hlti : ¬ (q : Int) < (q : Int) := by omega
      go_wp2
      go_ret
      exact ⟨by simp, hB⟩
end Go.Proofs.YtibbhpgpleeglaaGreatDoor

