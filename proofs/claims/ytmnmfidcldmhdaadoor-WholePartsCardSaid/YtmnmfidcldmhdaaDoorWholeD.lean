/- The walks of package whole: Add, Mul, Pow. -/
import Derived.Test.YtmnmfidcldmhdaaDoorWholeC
namespace Go.Proofs.YtmnmfidcldmhdaaDoor
open Go.RowKit

/-- A []api.Int's first n elements. -/
def RdI (w : World) (A : Option Addr) (n : Nat) (bs : Nat → Bool) (ss : Nat → ByteArray) : Prop :=
  0 < n → ∃ b off, A = some ⟨b, off, none⟩ ∧ ∀ j, j < n → w.cell? ⟨b, off + j * 2, none⟩ = some (.bool (bs j)) ∧ w.cell? ⟨b, off + j * 2 + 1, none⟩ = some (.string (ss j))
theorem RdI.below {w w' : World} {A : Option Addr} {n : Nat} {bs : Nat → Bool} {ss : Nat → ByteArray} (h : RdI w A n bs ss) (hb : Below w.heap.size w w') : RdI w' A n bs ss := fun h0 => by
  obtain ⟨b, off, e, hc⟩ := h h0
  exact ⟨b, off, e, fun j hj => ⟨cell_later hb (hc j hj).1, cell_later hb (hc j hj).2⟩⟩

set_option maxRecDepth 100000 in
set_option maxHeartbeats 400000 in
theorem wAdd_any (A : Option Addr) (n c : Nat) (bs : Nat → Bool) (ss : Nat → ByteArray) (w : World) (hn : n ≤ 268435456) (hs : ∀ j, (ss j).size ≤ 536870912) (hr : RdI w A n bs ss) :
    Calls Tryd.prog 15 #[.slice A n c] w fun e w' => e = .returned (.agg #[.bool (neg (sumI (fun j => ival (bs j) (sval (ss j))) n)), .string (mag (sumI (fun j => ival (bs j) (sval (ss j))) n))]) ∧ Below w.heap.size w w' := by
  have HS := Lib.hid hs
  have hb1 : ∀ k, bsz (sumI (fun j => ival (bs j) (sval (ss j))) k) ≤ 536870912 + k := fun k => bsz_sumI (fun j => Nat.le_trans (bsz_ival _ _) (hs j)) k
  have HB := Lib.hid hb1
  clear hs hb1
  go_enter Tryd.func15, Tryd.ntmps15
  have X1 := (Bx.new w 26 #[.bool false, .string ⟨#[]⟩]).alloc (.cells #[.string ⟨#[]⟩, .bool false] 56)
  have X2 := Bx.at1 w (.cells #[.bool false, .string ⟨#[]⟩] 26) 56 #[.string ⟨#[]⟩, .bool false]
  have hB := b2 w (.cells #[.bool false, .string ⟨#[]⟩] 26) (.cells #[.string ⟨#[]⟩, .bool false] 56)
  go_wp2_with fail
  generalize (w.alloc (.cells #[.bool false, .string ⟨#[]⟩] 26)).alloc (.cells #[.string ⟨#[]⟩, .bool false] 56) = w0 at *
  go_loopw [8] (fun i wr => ∃ k : Nat, ∃ d : Bool, k ≤ n ∧ i = .int .i64 (k : Nat) ∧ Hid (ival d (sumI (fun j => ival (bs j) (sval (ss j))) k).natAbs = sumI (fun j => ival (bs j) (sval (ss j))) k) ∧ Bx wr w.heap.size 26 #[.bool false, .string ⟨#[]⟩] ∧ Bx wr (w.heap.size + 1) 56 #[.string (mag (sumI (fun j => ival (bs j) (sval (ss j))) k)), .bool d] ∧ Below w.heap.size w wr) (fun i _ => n - (intOf i).toNat)
  case atStart => exact ⟨0, false, Nat.zero_le _, rfl, rfl, X1, X2, hB⟩
  case round =>
    obtain ⟨k, d, hk, rfl, hd, Y1, Y2, hB2⟩ := hrel
    obtain ⟨p1, p2, p3, p4⟩ := Y1.two
    obtain ⟨q1, q2, q3, q4⟩ := Y2.two
    by_cases hlt : k < n
    · obtain ⟨b, off, rfl, hc⟩ := hr (by omega)
      have g1 := cell_later hB2 (hc k hlt).1
      have g2 := cell_later hB2 (hc k hlt).2
      clear hc hr
      have hl2 : w.heap.size + 1 < wr.heap.size := Y2.lt
      have Z3 := Bx.new wr 26 #[.bool (bs k), .string (ss k)]
      have Z1 := Y1.alloc (.cells #[.bool (bs k), .string (ss k)] 26)
      have Z2 := Y2.alloc (.cells #[.bool (bs k), .string (ss k)] 26)
      have hB3 := nxtA hB2 (.cells #[.bool (bs k), .string (ss k)] 26)
      have hsz := HS.out k
      have hbz := HB.out k
      have HD := Lib.hid (show sumI (fun j => ival (bs j) (sval (ss j))) (k + 1) = ival d (sval (mag (sumI (fun j => ival (bs j) (sval (ss j))) k))) + ival (bs k) (sval (ss k)) by
        rw [sval_mag, hd.out]; rfl)
      have hms : (mag (sumI (fun j => ival (bs j) (sval (ss j))) k)).size ≤ 1073741824 := by rw [mag_size]; omega
      have hsz2 : (ss k).size ≤ 1073741824 := by omega
      have cp := Lib.hid (fun W => wPlus_any (mag (sumI (fun j => ival (bs j) (sval (ss j))) k)) (ss k) d (bs k) W hms hsz2)
      rw [← HD.out] at cp
      clear hsz hbz hms hsz2
      obtain ⟨S1, hS1⟩ : ∃ S1, S1 = sumI (fun j => ival (bs j) (sval (ss j))) (k + 1) := ⟨_, rfl⟩
      rw [← hS1] at cp
      have H1 := Lib.hid hS1
      clear hS1
      go_wp2_with fail
      generalize wr.alloc (.cells #[.bool (bs k), .string (ss k)] 26) = w5 at *
      obtain ⟨z1, z2, _, _⟩ := Z3.two
      clear p1 p2 p3 p4 q1 q2 q3 q4
      obtain ⟨q1, q2, q3, q4⟩ := Z2.two
      have hl5 : wr.heap.size < w5.heap.size := Z3.lt
      go_region_with
        (first
          | (go_at_call 45; refine (wof_any (ss k) (bs k) w5.drew).mono ?_; rintro e wn ⟨rfl, hb'⟩; have hb := undrew hb'; clear hb'; obtain ⟨s1, s2, s3, s4⟩ := (Z2.later hb).two)
          | (go_at_call 44; refine (cp.out wn).mono ?_; rintro e wm ⟨d', rfl, hd', hb2⟩; have hd2 := Lib.hid hd'; clear hd'; obtain ⟨t1, t2, t3, t4⟩ := ((Z2.later hb).later hb2).two))
      all_goals
        go_wp2
        exact ⟨⟨k + 1, d', hlt, by go_num, by rw [← H1.out]; exact hd2.out, (((Z1.later hb).later hb2).far (p := ⟨w.heap.size + 1, 0, none⟩) (by simp) _).far (p := ⟨w.heap.size + 1, 1, none⟩) (by simp) _, by rw [← H1.out]; exact ((Z2.later hb).later hb2).set2 _ _, st2 (nxt (nxt hB3 hb) hb2) (Nat.le_add_right _ 1) _ _⟩, by simp [intOf]; omega⟩
    · obtain rfl : k = n := by omega
      have cm := Lib.hid (fun W => wMade_any (mag (sumI (fun j => ival (bs j) (sval (ss j))) k)) d W)
      rw [sval_mag, hd.out] at cm
      go_wp2_with fail
      refine (cm.out _).mono ?_
      rintro e w6 ⟨rfl, hb6⟩
      obtain ⟨s1, s2, s3, s4⟩ := (Y1.later hb6).two
      go_wp2
      exact bodyPost_ret (v := .agg #[.bool (neg (sumI (fun j => ival (bs j) (sval (ss j))) k)), .string (mag (sumI (fun j => ival (bs j) (sval (ss j))) k))]) (by simp [results, Tryd.results15, go_sem, ((Y1.later hb6).set2 _ _).cel]) rfl ⟨rfl, st2 (nxt hB2 hb6) (Nat.le_refl _) _ _⟩

end Go.Proofs.YtmnmfidcldmhdaaDoor
