/- The walks and plain laws beneath the statements. -/
import Derived.Test.YtchfglbkiebfpaaGreatDoorPX28
namespace Go.Proofs.YtchfglbkiebfpaaGreatDoor
open Go.RowKit

/-- No number that is longer, or farther, than the laws reckon with. -/
def okN (s : ByteArray) (e : Int) : Prop := s.size ≤ 40 ∧ -300 ≤ e ∧ e ≤ 300

set_option maxRecDepth 100000 in
set_option maxHeartbeats 400000 in
theorem slong_no (A : Option Addr) (n c : Nat) (bs : Nat → Bool) (ss : Nat → ByteArray) (es : Nat → Int) (w : World) (hn : n ≤ 4611686018427387904) (hs : ∀ j, j < n → okN (ss j) (es j)) (hr : RdN w A n bs ss es) :
    Calls Tryz.prog 22 #[.slice A n c] w fun e w' => e = .returned (.bool false) ∧ w = w' := by
  have HS := Lib.hid hs
  clear hs
  go_enter Tryz.func22, Tryz.ntmps22
  go_wp2_with fail
  go_loop [3] (fun i => ∃ k : Nat, k ≤ n ∧ i = .int .i64 (k : Nat)) (fun i => n - (intOf i).toNat)
  case atStart => exact ⟨0, Nat.zero_le _, rfl⟩
  case round =>
    obtain ⟨k, hk, rfl⟩ := hrel
    by_cases hlt : k < n
    · obtain ⟨b, off, rfl, hc⟩ := hr (by omega)
      obtain ⟨g1, g2, g3⟩ := hc k hlt
      obtain ⟨h1, h2, h3⟩ := HS.out k hlt
      have b1 : decide ((40 : Int) < ((ss k).size : Int)) = false := by simp; omega
      have b2 : decide (es k < -300) = false := by simp; omega
      have b3 : decide (300 < es k) = false := by simp; omega
      clear hc hr
      go_wp2
      exact ⟨⟨k + 1, hlt, by go_num⟩, by simp [intOf]; omega⟩
    · obtain rfl : k = n := by omega
      go_wp2
      go_ret
      exact ⟨rfl, rfl⟩
set_option maxRecDepth 100000 in
set_option maxHeartbeats 400000 in
theorem slong_yes (A : Option Addr) (n c : Nat) (bs : Nat → Bool) (ss : Nat → ByteArray) (es : Nat → Int) (w : World) (hn : n ≤ 4611686018427387904) (k0 : Nat) (hk0 : k0 < n) (hs : ¬ okN (ss k0) (es k0)) (hr : RdN w A n bs ss es) :
    Calls Tryz.prog 22 #[.slice A n c] w fun e w' => e = .returned (.bool true) ∧ w = w' := by
  have HS := Lib.hid hs
  clear hs
  go_enter Tryz.func22, Tryz.ntmps22
  go_wp2_with fail
  go_loop [3] (fun i => ∃ k : Nat, k ≤ k0 ∧ i = .int .i64 (k : Nat)) (fun i => n - (intOf i).toNat)
  case atStart => exact ⟨0, Nat.zero_le _, rfl⟩
  case round =>
    obtain ⟨k, hk, rfl⟩ := hrel
    obtain ⟨b, off, rfl, hc⟩ := hr (by omega)
    obtain ⟨g1, g2, g3⟩ := hc k (by omega)
    clear hc hr
    have hlt : k < n := by omega
    by_cases h1 : (40 : Int) < ((ss k).size : Int)
    · have b1 : decide ((40 : Int) < ((ss k).size : Int)) = true := by simpa using h1
      go_wp2
      go_ret
      exact ⟨rfl, rfl⟩
    · have b1 : decide ((40 : Int) < ((ss k).size : Int)) = false := by simpa using h1
      by_cases h2 : es k < -300
      · have b2 : decide (es k < -300) = true := by simpa using h2
        go_wp2
        go_ret
        exact ⟨rfl, rfl⟩
      · have b2 : decide (es k < -300) = false := by simpa using h2
        by_cases h3 : 300 < es k
        · have b3 : decide (300 < es k) = true := by simpa using h3
          go_wp2
          go_ret
          exact ⟨rfl, rfl⟩
        · have b3 : decide (300 < es k) = false := by simpa using h3
          have hne : k ≠ k0 := fun e => HS.out (by subst e; exact ⟨by omega, by omega, by omega⟩)
          go_wp2
          exact ⟨⟨k + 1, by omega, by go_num⟩, by simp [intOf]; omega⟩
end Go.Proofs.YtchfglbkiebfpaaGreatDoor

namespace Go.Proofs.YtchfglbkiebfpaaGreatDoor
open Go.RowKit

theorem long2_no {w : World} {g : Nat} {b c : Bool} {s t : ByteArray} {e f : Int} (h1 : okN s e) (h2 : okN t f) (h : Bx w g 25 #[.bool b, .string s, .int .i64 e, .bool c, .string t, .int .i64 f]) :
    Calls Tryz.prog 22 #[.slice (some ⟨g, 0, none⟩) 2 2] w fun r w' => r = .returned (.bool false) ∧ Below w.heap.size w w' := by
  refine (slong_no _ 2 2 _ _ _ w (by decide) (fun j _ => ?_) (rdN2B h)).mono fun _ _ ⟨he, hw⟩ => ⟨he, hw ▸ Below.refl _ _⟩
  by_cases h0 : j = 0 <;> simp only [h0, if_true, if_false] <;> assumption
theorem long2_yes {w : World} {g : Nat} {b c : Bool} {s t : ByteArray} {e f : Int} (h1 : ¬ (okN s e ∧ okN t f)) (h : Bx w g 25 #[.bool b, .string s, .int .i64 e, .bool c, .string t, .int .i64 f]) :
    Calls Tryz.prog 22 #[.slice (some ⟨g, 0, none⟩) 2 2] w fun r w' => r = .returned (.bool true) ∧ Below w.heap.size w w' := by
  by_cases h0 : okN s e
  · exact (slong_yes _ 2 2 _ _ _ w (by decide) 1 (by decide) (fun h2 => h1 ⟨h0, h2⟩) (rdN2B h)).mono fun _ _ ⟨he, hw⟩ => ⟨he, hw ▸ Below.refl _ _⟩
  · exact (slong_yes _ 2 2 _ _ _ w (by decide) 0 (by decide) h0 (rdN2B h)).mono fun _ _ ⟨he, hw⟩ => ⟨he, hw ▸ Below.refl _ _⟩
set_option maxRecDepth 100000 in
set_option maxHeartbeats 400000 in
theorem far_no (A : Option Addr) (n c : Nat) (bs cs : Nat → Bool) (ss ts : Nat → ByteArray) (es fs : Nat → Int) (w : World) (hn : n ≤ 4611686018427387904) (hs : ∀ j, j < n → okN (ss j) (es j) ∧ okN (ts j) (fs j)) (hr : RdS w A n bs ss es cs ts fs) :
    Calls Tryz.prog 14 #[.slice A n c] w fun r w' => r = .returned (.bool false) ∧ Below w.heap.size w w' := by
  have HS := Lib.hid hs
  clear hs
  have hB0 := Below.refl w.heap.size w
  go_enter Tryz.func14, Tryz.ntmps14
  go_wp2_with fail
  go_loopw [3] (fun i wr => ∃ k : Nat, k ≤ n ∧ i = .int .i64 (k : Nat) ∧ Below w.heap.size w wr) (fun i _ => n - (intOf i).toNat)
  case atStart => exact ⟨0, Nat.zero_le _, rfl, hB0⟩
  case round =>
    obtain ⟨k, hk, rfl, hB2⟩ := hrel
    clear hB0
    by_cases hlt : k < n
    · obtain ⟨o1, o2⟩ := HS.out k hlt
      have HO1 := Lib.hid o1
      have HO2 := Lib.hid o2
      clear o1 o2
      obtain ⟨b, off, rfl, hc⟩ := hr (by omega)
      obtain ⟨c1, c2, c3, c4, c5, c6⟩ := hc k hlt
      have g1 := cell_later hB2 c1
      have g2 := cell_later hB2 c2
      have g3 := cell_later hB2 c3
      have g4 := cell_later hB2 c4
      have g5 := cell_later hB2 c5
      have g7 := cell_later hB2 c6
      clear hc hr c1 c2 c3 c4 c5 c6
      have hki : (k : Int) < (n : Int) := by omega
      have hkj : (0 : Int) ≤ (k : Int) := by omega
      go_wp2_with fail
      refine wp_region_k [10, 11, 12, 13, 14, 15, 16, 17, 18, 19, 20, 21] [.eq (.slice (some ⟨b, off, none⟩) n c), .eq (.int .i64 (k : Nat)), .eq (.pointer (some ⟨b, off + k * 6, none⟩)), .eq (.pointer (some ⟨b, off + k * 6, none⟩)), .eq (.agg #[.bool (bs k), .string (ss k), .int .i64 (es k)]), .eq (.slice (some ⟨b, off, none⟩) n c), .eq (.int .i64 (k : Nat)), .eq (.pointer (some ⟨b, off + k * 6, none⟩)), .eq (.pointer (some ⟨b, off + k * 6 + 3, none⟩)), .eq (.agg #[.bool (cs k), .string (ts k), .int .i64 (fs k)]), .sli wr.heap.size 25 2 #[.bool (bs k), .string (ss k), .int .i64 (es k), .bool (cs k), .string (ts k), .int .i64 (fs k)], .eq (.bool false)] 22 (by kernel_rfl) (by exact fun _ _ _ _ _ h => h) (by kernel_rfl) (by rfl) ?hop ?htail
      case hop =>
        intro A hA
        have hN : A.tmps.size = 22 := by rw [hA]; rfl
        have q0 : A.tmps.getD 0 undef = .slice (some ⟨b, off, none⟩) n c := by rw [hA]; rfl
        have q3 : A.tmps.getD 3 undef = .int .i64 (k : Nat) := by rw [hA]; rfl
        clear hA
        refine ⟨?_, ?_, ?_, ?_, ?_, ?_, ?_, ?_, ?_, ?_, ?_, ?_, trivial⟩
        · refine kok hN fun u W ev ec ef E B hG hf => ?_
          exact k_val _ rfl rfl hG (by simp [go_sem, B 0 rfl rfl q0]) rfl
        · refine kok hN fun u W ev ec ef E B hG hf => ?_
          exact k_val _ rfl rfl hG (by simp [go_sem, B 3 rfl rfl q3]) rfl
        · refine kok hN fun u W ev ec ef E B hG hf => ?_
          exact k_val _ rfl rfl hG (by simp [go_sem, E 10 0 rfl rfl (hf 0 rfl), E 11 1 rfl rfl (hf 1 rfl), hki, hkj]) rfl
        · refine kok hN fun u W ev ec ef E B hG hf => ?_
          exact k_val _ rfl rfl hG (by simp [go_sem, E 12 2 rfl rfl (hf 2 rfl)]) rfl
        · refine kok hN fun u W ev ec ef E B hG hf => ?_
          exact k_val _ rfl rfl hG (by simp [go_sem, E 13 3 rfl rfl (hf 3 rfl), cell_later hG g1, cell_later hG g2, cell_later hG g3]) rfl
        · refine kok hN fun u W ev ec ef E B hG hf => ?_
          exact k_val _ rfl rfl hG (by simp [go_sem, B 0 rfl rfl q0]) rfl
        · refine kok hN fun u W ev ec ef E B hG hf => ?_
          exact k_val _ rfl rfl hG (by simp [go_sem, B 3 rfl rfl q3]) rfl
        · refine kok hN fun u W ev ec ef E B hG hf => ?_
          exact k_val _ rfl rfl hG (by simp [go_sem, E 15 5 rfl rfl (hf 5 rfl), E 16 6 rfl rfl (hf 6 rfl), hki, hkj]) rfl
        · refine kok hN fun u W ev ec ef E B hG hf => ?_
          exact k_val _ rfl rfl hG (by simp [go_sem, E 17 7 rfl rfl (hf 7 rfl)]) rfl
        · refine kok hN fun u W ev ec ef E B hG hf => ?_
          exact k_val _ rfl rfl hG (by simp [go_sem, E 18 8 rfl rfl (hf 8 rfl), cell_later hG g4, cell_later hG g5, cell_later hG g7]) rfl
        · refine kok hN fun u W ev ec ef E B hG hf => ?_
          exact k_new _ _ rfl (by simp [go_sem, E 14 4 rfl rfl (hf 4 rfl), E 19 9 rfl rfl (hf 9 rfl)]) (nxtA hG _) ⟨_, rfl, below_le hG, Bx.new _ _ _⟩ rfl
        · refine kok hN fun u W ev ec ef E B hG hf => ?_
          obtain ⟨g20, f20, hb20, hx20⟩ := hf 10 rfl
          exact k_cl rfl rfl (by simp [go_sem, ef, E 20 10 rfl rfl f20]) (long2_no HO1.out HO2.out hx20) hG (fun _ _ => rfl)
      case htail =>
      intro u w5 hG hP hD
      have f21 : u 11 = .bool false := hP 11 (by decide)
      simp only [putAll, Act.put, List.setIfInBounds_toArray, List.set_cons_zero, List.set_cons_succ, List.length_cons, List.length_nil, Nat.reduceAdd, List.drop_succ_cons, List.drop_zero, f21]
      have hB3 := nxt hB2 hG
      clear hP hD hG hB2 f21 g1 g2 g3 g4 g5 g7
      have HB3 := Lib.hid hB3
      clear hB3
      go_wp2
      exact ⟨⟨k + 1, hlt, by go_num, HB3.out⟩, by simp [intOf]; omega⟩
    · obtain rfl : k = n := by omega
      go_wp2
      go_ret
      exact ⟨rfl, hB2⟩
set_option maxRecDepth 100000 in
set_option maxHeartbeats 400000 in
theorem far_yes (A : Option Addr) (n c : Nat) (bs cs : Nat → Bool) (ss ts : Nat → ByteArray) (es fs : Nat → Int) (w : World) (hn : n ≤ 4611686018427387904) (k0 : Nat) (hk0 : k0 < n) (hs : ¬ (okN (ss k0) (es k0) ∧ okN (ts k0) (fs k0))) (hr : RdS w A n bs ss es cs ts fs) :
    Calls Tryz.prog 14 #[.slice A n c] w fun r w' => r = .returned (.bool true) ∧ Below w.heap.size w w' := by
  have HS := Lib.hid hs
  clear hs
  have hB0 := Below.refl w.heap.size w
  go_enter Tryz.func14, Tryz.ntmps14
  go_wp2_with fail
  go_loopw [3] (fun i wr => ∃ k : Nat, k ≤ k0 ∧ i = .int .i64 (k : Nat) ∧ Below w.heap.size w wr) (fun i _ => n - (intOf i).toNat)
  case atStart => exact ⟨0, Nat.zero_le _, rfl, hB0⟩
  case round =>
    obtain ⟨k, hk, rfl, hB2⟩ := hrel
    clear hB0
    have hlt : k < n := by omega
    by_cases hok : okN (ss k) (es k) ∧ okN (ts k) (fs k)
    · obtain ⟨o1, o2⟩ := hok
      have hne : k ≠ k0 := fun e => HS.out (by subst e; exact ⟨o1, o2⟩)
      have HO1 := Lib.hid o1
      have HO2 := Lib.hid o2
      clear o1 o2
      obtain ⟨b, off, rfl, hc⟩ := hr (by omega)
      obtain ⟨c1, c2, c3, c4, c5, c6⟩ := hc k hlt
      have g1 := cell_later hB2 c1
      have g2 := cell_later hB2 c2
      have g3 := cell_later hB2 c3
      have g4 := cell_later hB2 c4
      have g5 := cell_later hB2 c5
      have g7 := cell_later hB2 c6
      clear hc hr c1 c2 c3 c4 c5 c6
      have hki : (k : Int) < (n : Int) := by omega
      have hkj : (0 : Int) ≤ (k : Int) := by omega
      go_wp2_with fail
      refine wp_region_k [10, 11, 12, 13, 14, 15, 16, 17, 18, 19, 20, 21] [.eq (.slice (some ⟨b, off, none⟩) n c), .eq (.int .i64 (k : Nat)), .eq (.pointer (some ⟨b, off + k * 6, none⟩)), .eq (.pointer (some ⟨b, off + k * 6, none⟩)), .eq (.agg #[.bool (bs k), .string (ss k), .int .i64 (es k)]), .eq (.slice (some ⟨b, off, none⟩) n c), .eq (.int .i64 (k : Nat)), .eq (.pointer (some ⟨b, off + k * 6, none⟩)), .eq (.pointer (some ⟨b, off + k * 6 + 3, none⟩)), .eq (.agg #[.bool (cs k), .string (ts k), .int .i64 (fs k)]), .sli wr.heap.size 25 2 #[.bool (bs k), .string (ss k), .int .i64 (es k), .bool (cs k), .string (ts k), .int .i64 (fs k)], .eq (.bool false)] 22 (by kernel_rfl) (by exact fun _ _ _ _ _ h => h) (by kernel_rfl) (by rfl) ?hop ?htail
      case hop =>
        intro A hA
        have hN : A.tmps.size = 22 := by rw [hA]; rfl
        have q0 : A.tmps.getD 0 undef = .slice (some ⟨b, off, none⟩) n c := by rw [hA]; rfl
        have q3 : A.tmps.getD 3 undef = .int .i64 (k : Nat) := by rw [hA]; rfl
        clear hA
        refine ⟨?_, ?_, ?_, ?_, ?_, ?_, ?_, ?_, ?_, ?_, ?_, ?_, trivial⟩
        · refine kok hN fun u W ev ec ef E B hG hf => ?_
          exact k_val _ rfl rfl hG (by simp [go_sem, B 0 rfl rfl q0]) rfl
        · refine kok hN fun u W ev ec ef E B hG hf => ?_
          exact k_val _ rfl rfl hG (by simp [go_sem, B 3 rfl rfl q3]) rfl
        · refine kok hN fun u W ev ec ef E B hG hf => ?_
          exact k_val _ rfl rfl hG (by simp [go_sem, E 10 0 rfl rfl (hf 0 rfl), E 11 1 rfl rfl (hf 1 rfl), hki, hkj]) rfl
        · refine kok hN fun u W ev ec ef E B hG hf => ?_
          exact k_val _ rfl rfl hG (by simp [go_sem, E 12 2 rfl rfl (hf 2 rfl)]) rfl
        · refine kok hN fun u W ev ec ef E B hG hf => ?_
          exact k_val _ rfl rfl hG (by simp [go_sem, E 13 3 rfl rfl (hf 3 rfl), cell_later hG g1, cell_later hG g2, cell_later hG g3]) rfl
        · refine kok hN fun u W ev ec ef E B hG hf => ?_
          exact k_val _ rfl rfl hG (by simp [go_sem, B 0 rfl rfl q0]) rfl
        · refine kok hN fun u W ev ec ef E B hG hf => ?_
          exact k_val _ rfl rfl hG (by simp [go_sem, B 3 rfl rfl q3]) rfl
        · refine kok hN fun u W ev ec ef E B hG hf => ?_
          exact k_val _ rfl rfl hG (by simp [go_sem, E 15 5 rfl rfl (hf 5 rfl), E 16 6 rfl rfl (hf 6 rfl), hki, hkj]) rfl
        · refine kok hN fun u W ev ec ef E B hG hf => ?_
          exact k_val _ rfl rfl hG (by simp [go_sem, E 17 7 rfl rfl (hf 7 rfl)]) rfl
        · refine kok hN fun u W ev ec ef E B hG hf => ?_
          exact k_val _ rfl rfl hG (by simp [go_sem, E 18 8 rfl rfl (hf 8 rfl), cell_later hG g4, cell_later hG g5, cell_later hG g7]) rfl
        · refine kok hN fun u W ev ec ef E B hG hf => ?_
          exact k_new _ _ rfl (by simp [go_sem, E 14 4 rfl rfl (hf 4 rfl), E 19 9 rfl rfl (hf 9 rfl)]) (nxtA hG _) ⟨_, rfl, below_le hG, Bx.new _ _ _⟩ rfl
        · refine kok hN fun u W ev ec ef E B hG hf => ?_
          obtain ⟨g20, f20, hb20, hx20⟩ := hf 10 rfl
          exact k_cl rfl rfl (by simp [go_sem, ef, E 20 10 rfl rfl f20]) (long2_no HO1.out HO2.out hx20) hG (fun _ _ => rfl)
      case htail =>
      intro u w5 hG hP hD
      have f21 : u 11 = .bool false := hP 11 (by decide)
      simp only [putAll, Act.put, List.setIfInBounds_toArray, List.set_cons_zero, List.set_cons_succ, List.length_cons, List.length_nil, Nat.reduceAdd, List.drop_succ_cons, List.drop_zero, f21]
      have hB3 := nxt hB2 hG
      clear hP hD hG hB2 f21 g1 g2 g3 g4 g5 g7
      have HB3 := Lib.hid hB3
      clear hB3
      go_wp2
      exact ⟨⟨k + 1, by omega, by go_num, HB3.out⟩, by simp [intOf]; omega⟩
    · have HO1 := Lib.hid hok
      clear hok
      obtain ⟨b, off, rfl, hc⟩ := hr (by omega)
      obtain ⟨c1, c2, c3, c4, c5, c6⟩ := hc k hlt
      have g1 := cell_later hB2 c1
      have g2 := cell_later hB2 c2
      have g3 := cell_later hB2 c3
      have g4 := cell_later hB2 c4
      have g5 := cell_later hB2 c5
      have g7 := cell_later hB2 c6
      clear hc hr c1 c2 c3 c4 c5 c6
      have hki : (k : Int) < (n : Int) := by omega
      have hkj : (0 : Int) ≤ (k : Int) := by omega
      go_wp2_with fail
      refine wp_region_k [10, 11, 12, 13, 14, 15, 16, 17, 18, 19, 20, 21] [.eq (.slice (some ⟨b, off, none⟩) n c), .eq (.int .i64 (k : Nat)), .eq (.pointer (some ⟨b, off + k * 6, none⟩)), .eq (.pointer (some ⟨b, off + k * 6, none⟩)), .eq (.agg #[.bool (bs k), .string (ss k), .int .i64 (es k)]), .eq (.slice (some ⟨b, off, none⟩) n c), .eq (.int .i64 (k : Nat)), .eq (.pointer (some ⟨b, off + k * 6, none⟩)), .eq (.pointer (some ⟨b, off + k * 6 + 3, none⟩)), .eq (.agg #[.bool (cs k), .string (ts k), .int .i64 (fs k)]), .sli wr.heap.size 25 2 #[.bool (bs k), .string (ss k), .int .i64 (es k), .bool (cs k), .string (ts k), .int .i64 (fs k)], .eq (.bool true)] 22 (by kernel_rfl) (by exact fun _ _ _ _ _ h => h) (by kernel_rfl) (by rfl) ?hop ?htail
      case hop =>
        intro A hA
        have hN : A.tmps.size = 22 := by rw [hA]; rfl
        have q0 : A.tmps.getD 0 undef = .slice (some ⟨b, off, none⟩) n c := by rw [hA]; rfl
        have q3 : A.tmps.getD 3 undef = .int .i64 (k : Nat) := by rw [hA]; rfl
        clear hA
        refine ⟨?_, ?_, ?_, ?_, ?_, ?_, ?_, ?_, ?_, ?_, ?_, ?_, trivial⟩
        · refine kok hN fun u W ev ec ef E B hG hf => ?_
          exact k_val _ rfl rfl hG (by simp [go_sem, B 0 rfl rfl q0]) rfl
        · refine kok hN fun u W ev ec ef E B hG hf => ?_
          exact k_val _ rfl rfl hG (by simp [go_sem, B 3 rfl rfl q3]) rfl
        · refine kok hN fun u W ev ec ef E B hG hf => ?_
          exact k_val _ rfl rfl hG (by simp [go_sem, E 10 0 rfl rfl (hf 0 rfl), E 11 1 rfl rfl (hf 1 rfl), hki, hkj]) rfl
        · refine kok hN fun u W ev ec ef E B hG hf => ?_
          exact k_val _ rfl rfl hG (by simp [go_sem, E 12 2 rfl rfl (hf 2 rfl)]) rfl
        · refine kok hN fun u W ev ec ef E B hG hf => ?_
          exact k_val _ rfl rfl hG (by simp [go_sem, E 13 3 rfl rfl (hf 3 rfl), cell_later hG g1, cell_later hG g2, cell_later hG g3]) rfl
        · refine kok hN fun u W ev ec ef E B hG hf => ?_
          exact k_val _ rfl rfl hG (by simp [go_sem, B 0 rfl rfl q0]) rfl
        · refine kok hN fun u W ev ec ef E B hG hf => ?_
          exact k_val _ rfl rfl hG (by simp [go_sem, B 3 rfl rfl q3]) rfl
        · refine kok hN fun u W ev ec ef E B hG hf => ?_
          exact k_val _ rfl rfl hG (by simp [go_sem, E 15 5 rfl rfl (hf 5 rfl), E 16 6 rfl rfl (hf 6 rfl), hki, hkj]) rfl
        · refine kok hN fun u W ev ec ef E B hG hf => ?_
          exact k_val _ rfl rfl hG (by simp [go_sem, E 17 7 rfl rfl (hf 7 rfl)]) rfl
        · refine kok hN fun u W ev ec ef E B hG hf => ?_
          exact k_val _ rfl rfl hG (by simp [go_sem, E 18 8 rfl rfl (hf 8 rfl), cell_later hG g4, cell_later hG g5, cell_later hG g7]) rfl
        · refine kok hN fun u W ev ec ef E B hG hf => ?_
          exact k_new _ _ rfl (by simp [go_sem, E 14 4 rfl rfl (hf 4 rfl), E 19 9 rfl rfl (hf 9 rfl)]) (nxtA hG _) ⟨_, rfl, below_le hG, Bx.new _ _ _⟩ rfl
        · refine kok hN fun u W ev ec ef E B hG hf => ?_
          obtain ⟨g20, f20, hb20, hx20⟩ := hf 10 rfl
          exact k_cl rfl rfl (by simp [go_sem, ef, E 20 10 rfl rfl f20]) (long2_yes HO1.out hx20) hG (fun _ _ => rfl)
      case htail =>
      intro u w5 hG hP hD
      have f21 : u 11 = .bool true := hP 11 (by decide)
      simp only [putAll, Act.put, List.setIfInBounds_toArray, List.set_cons_zero, List.set_cons_succ, List.length_cons, List.length_nil, Nat.reduceAdd, List.drop_succ_cons, List.drop_zero, f21]
      have hB3 := nxt hB2 hG
      clear hP hD hG hB2 f21 g1 g2 g3 g4 g5 g7
      have HB3 := Lib.hid hB3
      clear hB3
      go_wp2
      go_ret
      exact ⟨rfl, HB3.out⟩
theorem rdS1B {w : World} {g : Nat} {b1 c1 : Bool} {s1 t1 : ByteArray} {e1 f1 : Int} {t : TypeId} (h : Bx w g t #[.bool b1, .string s1, .int .i64 e1, .bool c1, .string t1, .int .i64 f1]) :
    RdS w (some ⟨g, 0, none⟩) 1 (fun _ => b1) (fun _ => s1) (fun _ => e1) (fun _ => c1) (fun _ => t1) (fun _ => f1) := fun _ =>
  ⟨g, 0, rfl, fun j hj => by
    obtain rfl : j = 0 := by omega
    exact ⟨h.cel 0, h.cel 1, h.cel 2, h.cel 3, h.cel 4, h.cel 5⟩⟩

end Go.Proofs.YtchfglbkiebfpaaGreatDoor

