/- The walks and plain laws beneath the statements. -/
import Derived.Test.YtchfglbkiebfpaaGreatDoorPR22
import Derived.Test.YtchfglbkiebfpaaGreatDoorPR23
import Derived.BigQuiet
import Derived.Deep.QuietTactic
namespace Go.Proofs.YtchfglbkiebfpaaGreatDoor
open Go.RowKit

theorem sum_lo_hi (xs ys : Nat → Dyadic) : ∀ k, sumD (fun j => dmin (xs j) (ys j)) k ≤ sumD (fun j => dmax (xs j) (ys j)) k
  | 0 => by show (0 : Dyadic) ≤ 0; grind
  | k + 1 => by
    show _ + _ ≤ _ + _
    have h1 := sum_lo_hi xs ys k
    have h2 : dmin (xs k) (ys k) ≤ dmax (xs k) (ys k) := (dmin_le _ _).2.2.2.2
    grind
theorem dmin_of {x y : Dyadic} (h : x ≤ y) : dmin x y = x ∧ dmax x y = y := by unfold dmin dmax; constructor <;> grind

set_option maxRecDepth 100000 in
set_option maxHeartbeats 1000000 in
theorem rsAdd_any (A : Option Addr) (n c : Nat) (bs cs : Nat → Bool) (ss ts : Nat → ByteArray) (es fs : Nat → Int) (xs ys : Nat → Dyadic) (L0 T0 : Nat) (w : World) (hn : n ≤ 1000000) (hx : ∀ j, ND (bs j) (ss j) (es j) (xs j)) (hy : ∀ j, ND (cs j) (ts j) (fs j) (ys j)) (hdx : ∀ j, DB L0 T0 (xs j)) (hdy : ∀ j, DB L0 T0 (ys j)) (hLT : L0 + T0 + n ≤ 2900000) (hr : RdS w A n bs ss es cs ts fs) :
    Calls Tryz.prog 17 #[.slice A n c] w fun r w' => r = .returned (.agg #[.bool (neg (dm (sumD (fun j => dmin (xs j) (ys j)) n))), .string (mag (dm (sumD (fun j => dmin (xs j) (ys j)) n))), .int .i64 (de (sumD (fun j => dmin (xs j) (ys j)) n)), .bool (neg (dm (sumD (fun j => dmax (xs j) (ys j)) n))), .string (mag (dm (sumD (fun j => dmax (xs j) (ys j)) n))), .int .i64 (de (sumD (fun j => dmax (xs j) (ys j)) n))]) ∧ Below w.heap.size w w' := by
  have HX := Lib.hid hx
  have HY := Lib.hid hy
  have HDX := Lib.hid hdx
  have HDY := Lib.hid hdy
  clear hx hy hdx hdy
  go_enter Tryz.func17, Tryz.ntmps17
  have X1 := (Bx.new w 27 #[.bool false, .string ⟨#[]⟩, .int .i64 0, .bool false, .string ⟨#[]⟩, .int .i64 0]).alloc (.cells #[.bool false, .string ⟨#[]⟩, .int .i64 0, .bool false, .string ⟨#[]⟩, .int .i64 0] 27)
  have X2 := Bx.at1 w (.cells #[.bool false, .string ⟨#[]⟩, .int .i64 0, .bool false, .string ⟨#[]⟩, .int .i64 0] 27) 27 #[.bool false, .string ⟨#[]⟩, .int .i64 0, .bool false, .string ⟨#[]⟩, .int .i64 0]
  have hB := b2 w (.cells #[.bool false, .string ⟨#[]⟩, .int .i64 0, .bool false, .string ⟨#[]⟩, .int .i64 0] 27) (.cells #[.bool false, .string ⟨#[]⟩, .int .i64 0, .bool false, .string ⟨#[]⟩, .int .i64 0] 27)
  go_wp2_with fail
  generalize (w.alloc (.cells #[.bool false, .string ⟨#[]⟩, .int .i64 0, .bool false, .string ⟨#[]⟩, .int .i64 0] 27)).alloc (.cells #[.bool false, .string ⟨#[]⟩, .int .i64 0, .bool false, .string ⟨#[]⟩, .int .i64 0] 27) = w0 at *
  go_loopw [4] (fun i wr => ∃ k : Nat, k ≤ n ∧ i = .int .i64 (k : Nat) ∧ Bx wr w.heap.size 27 #[.bool false, .string ⟨#[]⟩, .int .i64 0, .bool false, .string ⟨#[]⟩, .int .i64 0] ∧ Bx wr (w.heap.size + 1) 27 #[.bool (neg (dm (sumD (fun j => dmin (xs j) (ys j)) k))), .string (mag (dm (sumD (fun j => dmin (xs j) (ys j)) k))), .int .i64 (de (sumD (fun j => dmin (xs j) (ys j)) k)), .bool (neg (dm (sumD (fun j => dmax (xs j) (ys j)) k))), .string (mag (dm (sumD (fun j => dmax (xs j) (ys j)) k))), .int .i64 (de (sumD (fun j => dmax (xs j) (ys j)) k))] ∧ Below w.heap.size w wr) (fun i _ => n - (intOf i).toNat)
  case atStart => exact ⟨0, Nat.zero_le _, rfl, X1, X2, hB⟩
  case round =>
    obtain ⟨k, hk, rfl, Y1, Y2, hB2⟩ := hrel
    by_cases hlt : k < n
    · obtain ⟨b, off, rfl, hc⟩ := hr (by omega)
      obtain ⟨c1, c2, c3, c4, c5, c6⟩ := hc k hlt
      have g1 := cell_later hB2 c1
      have g2 := cell_later hB2 c2
      have g3 := cell_later hB2 c3
      have g4 := cell_later hB2 c4
      have g5 := cell_later hB2 c5
      have g7 := cell_later hB2 c6
      clear hc hr c1 c2 c3 c4 c5 c6 X1 X2 hB
      have dl := db_sum (fun j => db_dmin (HDX.out j) (HDY.out j)) k
      have dh := db_sum (fun j => db_dmax (HDX.out j) (HDY.out j)) k
      have cp := Lib.hid (fun W => rsPlus_any (nd_db dl (by omega)) (nd_db dh (by omega)) dl dh (HX.out k) (HY.out k) (db_up (L' := L0) (T' := T0 + k) (HDX.out k) (Nat.le_refl _) (by omega)) (db_up (L' := L0) (T' := T0 + k) (HDY.out k) (Nat.le_refl _) (by omega)) (by omega) W)
      rw [(dmin_of (sum_lo_hi xs ys k)).1, (dmin_of (sum_lo_hi xs ys k)).2] at cp
      obtain ⟨lo1, hlo⟩ : ∃ z, z = sumD (fun j => dmin (xs j) (ys j)) k + dmin (xs k) (ys k) := ⟨_, rfl⟩
      obtain ⟨hi1, hhi⟩ : ∃ z, z = sumD (fun j => dmax (xs j) (ys j)) k + dmax (xs k) (ys k) := ⟨_, rfl⟩
      rw [← hlo, ← hhi] at cp
      have HL := Lib.hid (show sumD (fun j => dmin (xs j) (ys j)) (k + 1) = lo1 from hlo.symm)
      have HH := Lib.hid (show sumD (fun j => dmax (xs j) (ys j)) (k + 1) = hi1 from hhi.symm)
      clear dl dh hlo hhi
      obtain ⟨r1, r2, r3, r4, r5, r6, _, _, _, _, _, _⟩ := Y2.six
      go_wp2_with fail
      go_still_tail 5, (by kernel_rfl)
      change wpList _ _ _ _ _ wr.drew
      have Z1 := Y1.drew
      have Z2 := Y2.drew
      have hB3 := hB2.drew
      clear Y1 Y2 hB2 r1 r2 r3 r4 r5 r6 g1 g2 g3 g4 g5 g7
      generalize wr.drew = w5 at *
      go_wp2_with fail
      refine (cp.out _).mono ?_
      rintro e w6 ⟨rfl, hb⟩
      replace Z1 := Z1.later hb
      replace Z2 := Z2.later hb
      replace hB3 := nxt hB3 hb
      clear hb
      obtain ⟨r1, r2, r3, r4, r5, r6, r7, r8, r9, r10, r11, r12⟩ := Z2.six
      have HZ := Lib.hid (And.intro Z1 (And.intro Z2 hB3))
      clear Z1 Z2 hB3
      go_wp2
      obtain ⟨Z1, Z2, hB3⟩ := HZ.out
      exact ⟨⟨k + 1, hlt, by go_num, Bx.far6 Z1 (by simp) _ _ _ _ _ _, by rw [HL.out, HH.out]; exact Z2.set6 _ _ _ _ _ _, st6 hB3 (Nat.le_add_right _ 1) _ _ _ _ _ _⟩, by simp [intOf]; omega⟩
    · obtain rfl : k = n := by omega
      obtain ⟨p1, p2, p3, p4, p5, p6, p7, p8, p9, p10, p11, p12⟩ := Y1.six
      obtain ⟨r1, r2, r3, r4, r5, r6, _, _, _, _, _, _⟩ := Y2.six
      have HY1 := Lib.hid Y1
      clear Y1 Y2 X1 X2 hB
      go_wp2_with fail
      exact bodyPost_ret (v := .agg #[.bool (neg (dm (sumD (fun j => dmin (xs j) (ys j)) k))), .string (mag (dm (sumD (fun j => dmin (xs j) (ys j)) k))), .int .i64 (de (sumD (fun j => dmin (xs j) (ys j)) k)), .bool (neg (dm (sumD (fun j => dmax (xs j) (ys j)) k))), .string (mag (dm (sumD (fun j => dmax (xs j) (ys j)) k))), .int .i64 (de (sumD (fun j => dmax (xs j) (ys j)) k))]) (by simp [results, Tryz.results17, go_sem, (HY1.out.set6 _ _ _ _ _ _).cel]) rfl ⟨rfl, st6 hB2 (Nat.le_refl _) _ _ _ _ _ _⟩

end Go.Proofs.YtchfglbkiebfpaaGreatDoor

namespace Go.Proofs.YtchfglbkiebfpaaGreatDoor
open Go.RowKit

theorem info_Num : (Tryz.prog.info? 25).map (fun i => (i.zero, i.size, i.bytes)) = some (some (.agg #[.bool false, .string ⟨#[]⟩, .int .i64 0]), 3, 32) := by kernel_rfl
theorem belB {B B' : Nat} {a w1 w2 : World} (h : Below B a w1) (h2 : Below B' w1 w2) (hle : B ≤ B') : Below B a w2 := h.trans (h2.mono hle)
/-- A span's ends, one behind the other. -/
def alt {α : Type} (f g : Nat → α) (j : Nat) : α := if j % 2 = 0 then f (j / 2) else g (j / 2)
theorem alt_two {α : Type} (f g : Nat → α) (k : Nat) : alt f g (2 * k) = f k ∧ alt f g (2 * k + 1) = g k := by
  unfold alt
  rw [if_pos (by omega), if_neg (by omega)]
  exact ⟨by congr 1; omega, by congr 1; omega⟩
/-- A number's cells. -/
def cel3 (bs : Nat → Bool) (ss : Nat → ByteArray) (es : Nat → Int) (j : Nat) : List Value := [.bool (bs j), .string (ss j), .int .i64 (es j)]
theorem cel3_one (bs : Nat → Bool) (ss : Nat → ByteArray) (es : Nat → Int) (j : Nat) (u : Value) (h : u ∈ cel3 bs ss es j) : u.oneCell' = true := by
  simp [cel3] at h
  rcases h with rfl | rfl | rfl <;> rfl
/-- A row of numbers, read. -/
theorem RdK.num {w : World} {A : Option Addr} {n : Nat} {bs : Nat → Bool} {ss : Nat → ByteArray} {es : Nat → Int} (h : RdK w A n 3 (cel3 bs ss es)) : RdN w A n bs ss es := fun h0 => by
  obtain ⟨b, off, rfl, hc⟩ := h h0
  exact ⟨b, off, rfl, fun j hj => ⟨hc j hj 0 (by decide), hc j hj 1 (by decide), hc j hj 2 (by decide)⟩⟩

theorem alt_nd {bs cs : Nat → Bool} {ss ts : Nat → ByteArray} {es fs : Nat → Int} {xs ys : Nat → Dyadic} (hx : ∀ j, ND (bs j) (ss j) (es j) (xs j)) (hy : ∀ j, ND (cs j) (ts j) (fs j) (ys j)) (j : Nat) : ND (alt bs cs j) (alt ss ts j) (alt es fs j) (alt xs ys j) := by
  unfold alt; split
  · exact hx _
  · exact hy _
set_option maxRecDepth 100000 in
set_option maxHeartbeats 1000000 in
theorem sHull_any (A : Option Addr) (n c : Nat) (bs cs : Nat → Bool) (ss ts : Nat → ByteArray) (es fs : Nat → Int) (xs ys : Nat → Dyadic) (w : World) (hn : n ≤ 400000) (hx : ∀ j, ND (bs j) (ss j) (es j) (xs j)) (hy : ∀ j, ND (cs j) (ts j) (fs j) (ys j)) (hr : RdS w A n bs ss es cs ts fs) (hT : TabAt 0 Lib.deBruijn64tab w) :
    Calls Tryz.prog 34 #[.slice A n c] w fun r w' => r = .returned (.agg #[.bool (neg (dm (firstD minB (alt xs ys) (2 * n)))), .string (mag (dm (firstD minB (alt xs ys) (2 * n)))), .int .i64 (de (firstD minB (alt xs ys) (2 * n))), .bool (neg (dm (firstD maxB (alt xs ys) (2 * n)))), .string (mag (dm (firstD maxB (alt xs ys) (2 * n)))), .int .i64 (de (firstD maxB (alt xs ys) (2 * n)))]) ∧ Below w.heap.size w w' := by
  have HX := Lib.hid hx
  have HY := Lib.hid hy
  have HT := Lib.hid hT
  clear hx hy hT
  go_enter Tryz.func34, Tryz.ntmps34
  have X1 := Bx.new w 27 #[.bool false, .string ⟨#[]⟩, .int .i64 0, .bool false, .string ⟨#[]⟩, .int .i64 0]
  have hB := b1 w (.cells #[.bool false, .string ⟨#[]⟩, .int .i64 0, .bool false, .string ⟨#[]⟩, .int .i64 0] 27)
  go_wp2_with fail
  have ho0 := OwnK.nil_ (w.alloc (.cells #[.bool false, .string ⟨#[]⟩, .int .i64 0, .bool false, .string ⟨#[]⟩, .int .i64 0] 27)) (w.heap.size + 1) 25 3 (cel3 (alt bs cs) (alt ss ts) (alt es fs))
  generalize w.alloc (.cells #[.bool false, .string ⟨#[]⟩, .int .i64 0, .bool false, .string ⟨#[]⟩, .int .i64 0] 27) = w0 at *
  go_loopw [3, 8] (fun v i wr => ∃ k : Nat, k ≤ n ∧ i = .int .i64 (k : Nat) ∧ OwnK wr (w.heap.size + 1) 25 3 v (2 * k) (cel3 (alt bs cs) (alt ss ts) (alt es fs)) ∧ Bx wr w.heap.size 27 #[.bool false, .string ⟨#[]⟩, .int .i64 0, .bool false, .string ⟨#[]⟩, .int .i64 0] ∧ Below w.heap.size w wr) (fun _ i _ => n - (intOf i).toNat)
  case atStart => exact ⟨0, Nat.zero_le _, rfl, ho0, X1, hB⟩
  case round =>
    obtain ⟨k, hk, rfl, ho, Y1, hB2⟩ := hrel
    by_cases hlt : k < n
    · obtain ⟨b, off, rfl, hc⟩ := hr (by omega)
      obtain ⟨c1, c2, c3, c4, c5, c6⟩ := hc k hlt
      have g1 := cell_later hB2 c1
      have g2 := cell_later hB2 c2
      have g3 := cell_later hB2 c3
      have g4 := cell_later hB2 c4
      have g5 := cell_later hB2 c5
      have g7 := cell_later hB2 c6
      clear hc hr c1 c2 c3 c4 c5 c6 X1 hB ho0
      have hlw := Y1.lt
      have hO := ho.below (b2 wr (.cells #[.bool (bs k), .string (ss k), .int .i64 (es k), .bool (cs k), .string (ts k), .int .i64 (fs k)] 27) (.cells #[.bool (bs k), .string (ss k), .int .i64 (es k), .bool (cs k), .string (ts k), .int .i64 (fs k)] 25))
      have ZR := Bx.at1 wr (.cells #[.bool (bs k), .string (ss k), .int .i64 (es k), .bool (cs k), .string (ts k), .int .i64 (fs k)] 27) 25 #[.bool (bs k), .string (ss k), .int .i64 (es k), .bool (cs k), .string (ts k), .int .i64 (fs k)]
      have Z3 := Bx.new wr 27 #[.bool (bs k), .string (ss k), .int .i64 (es k), .bool (cs k), .string (ts k), .int .i64 (fs k)]
      have Y2 := (Y1.alloc (.cells #[.bool (bs k), .string (ss k), .int .i64 (es k), .bool (cs k), .string (ts k), .int .i64 (fs k)] 27)).alloc (.cells #[.bool (bs k), .string (ss k), .int .i64 (es k), .bool (cs k), .string (ts k), .int .i64 (fs k)] 25)
      have hB3 := nxtA (nxtA hB2 (.cells #[.bool (bs k), .string (ss k), .int .i64 (es k), .bool (cs k), .string (ts k), .int .i64 (fs k)] 27)) (.cells #[.bool (bs k), .string (ss k), .int .i64 (es k), .bool (cs k), .string (ts k), .int .i64 (fs k)] 25)
      obtain ⟨r1, r2, r3, r4, r5, r6, _, _, _, _, _, _⟩ := Z3.six
      have HO := Lib.hid (And.intro hO (And.intro Y2 hB3))
      have HN := Lib.hid (show ∀ j, j < 2 → ∀ i, i < 3 → ((wr.alloc (.cells #[.bool (bs k), .string (ss k), .int .i64 (es k), .bool (cs k), .string (ts k), .int .i64 (fs k)] 27)).alloc (.cells #[.bool (bs k), .string (ss k), .int .i64 (es k), .bool (cs k), .string (ts k), .int .i64 (fs k)] 25)).cell? ⟨wr.heap.size + 1, 0 + j * 3 + i, none⟩ = (cel3 (fun j => alt bs cs (2 * k + j)) (fun j => alt ss ts (2 * k + j)) (fun j => alt es fs (2 * k + j)) j)[i]? from fun j hj i hi => by
        have hj' : j = 0 ∨ j = 1 := by omega
        have hi' : i = 0 ∨ i = 1 ∨ i = 2 := by omega
        rcases hj' with rfl | rfl <;> rcases hi' with rfl | rfl | rfl <;> simp [ZR.cel, cel3, alt_two])
      have HS := Lib.hid (show w.heap.size + 1 ≤ ((wr.alloc (.cells #[.bool (bs k), .string (ss k), .int .i64 (es k), .bool (cs k), .string (ts k), .int .i64 (fs k)] 27)).alloc (.cells #[.bool (bs k), .string (ss k), .int .i64 (es k), .bool (cs k), .string (ts k), .int .i64 (fs k)] 25)).heap.size by simp; omega)
      have HM := Lib.hid (show 2 * k + 2 ≤ 9223372036854775807 ∧ (2 * k + 2) * 32 ≤ 140737488355328 by omega)
      clear hO ZR Y2 hB3 Y1 hB2 ho hlw Z3
      go_wp2_with (at_builtin; refine wpList_appendK rfl (.tmp 12) (.tmp 17) _ rfl (w.heap.size + 1) 25 _ 3 32 Tryz.underlying55 info_Num rfl (by decide) _ (2 * k) (cel3 (alt bs cs) (alt ss ts) (alt es fs)) rfl HO.out.1 ⟨wr.heap.size + 1, 0, none⟩ 2 2 (cel3 (fun j => alt bs cs (2 * k + j)) (fun j => alt ss ts (2 * k + j)) (fun j => alt es fs (2 * k + j))) (fun _ => rfl) (fun _ => rfl) (cel3_one _ _ _) rfl rfl HN.out HM.out.1 HM.out.2 HS.out ?_; intro v' w5 ho' hb5)
      obtain ⟨_, Y2, hB3⟩ := HO.out
      have ho2 : OwnK w5 (w.heap.size + 1) 25 3 v' (2 * (k + 1)) (cel3 (alt bs cs) (alt ss ts) (alt es fs)) := ho'.congr fun j hj => by
        split
        · rfl
        · rename_i h
          unfold cel3
          dsimp only
          rw [show 2 * k + (j - 2 * k) = j by omega]
      have Y3 := Y2.base hb5 (Nat.lt_succ_self _)
      have hB4 := belB hB3 hb5 (Nat.le_succ _)
      clear Y2 hB3 HO HN ho' hb5 g1 g2 g3 g4 g5 g7 r1 r2 r3 r4 r5 r6
      have HF := Lib.hid (And.intro ho2 (And.intro Y3 hB4))
      clear ho2 Y3 hB4
      go_wp2
      exact ⟨⟨k + 1, hlt, by go_num, HF.out.1, HF.out.2.1, HF.out.2.2⟩, by simp [intOf]; omega⟩
    · obtain rfl : k = n := by omega
      obtain ⟨A', c', rfl, hnc, hrd, hba, hno⟩ := OwnK.rd (k := 3) (fun _ => rfl) ho
      have cO := Lib.hid (sOf_any A' (2 * k) c' _ _ _ _ wr (by omega) (alt_nd HX.out HY.out) hrd.num (tab_keep HT.out hB2))
      obtain ⟨p1, p2, p3, p4, p5, p6, p7, p8, p9, p10, p11, p12⟩ := Y1.six
      have HY1 := Lib.hid (And.intro Y1 hB2)
      clear Y1 X1 hB hB2 ho0 ho hrd hba hno
      go_wp2_with fail
      refine cO.out.mono ?_
      rintro e w6 ⟨rfl, hb⟩
      have Z1 := HY1.out.1.later hb
      have hB3 := nxt HY1.out.2 hb
      clear hb p1 p2 p3 p4 p5 p6 p7 p8 p9 p10 p11 p12
      obtain ⟨p1, p2, p3, p4, p5, p6, p7, p8, p9, p10, p11, p12⟩ := Z1.six
      have HY2 := Lib.hid (And.intro Z1 hB3)
      clear Z1 hB3
      go_wp2_with fail
      exact bodyPost_ret (v := .agg #[.bool (neg (dm (firstD minB (alt xs ys) (2 * k)))), .string (mag (dm (firstD minB (alt xs ys) (2 * k)))), .int .i64 (de (firstD minB (alt xs ys) (2 * k))), .bool (neg (dm (firstD maxB (alt xs ys) (2 * k)))), .string (mag (dm (firstD maxB (alt xs ys) (2 * k)))), .int .i64 (de (firstD maxB (alt xs ys) (2 * k)))]) (by simp [results, Tryz.results34, go_sem, (HY2.out.1.set6 _ _ _ _ _ _).cel]) rfl ⟨rfl, st6 HY2.out.2 (Nat.le_refl _) _ _ _ _ _ _⟩

end Go.Proofs.YtchfglbkiebfpaaGreatDoor

namespace Go.Proofs.YtchfglbkiebfpaaGreatDoor
open Go.RowKit

set_option maxRecDepth 100000 in
set_option maxHeartbeats 1000000 in
theorem sDivC1 (aM bM xM yM : Bool) (aS bS xS yS : ByteArray) (aE bE xE yE : Int) (p er : Int) (gp : Nat) (w : World) (hP : Bx w gp 3 #[.int .i64 (p)]) (hT : TabAt 0 Lib.deBruijn64tab w)
    (cQ : Hid (∀ (W : World), TabAt 0 Lib.deBruijn64tab W → Calls Tryz.prog 23 #[.agg #[.bool aM, .string aS, .int .i64 aE], .agg #[.bool bM, .string bS, .int .i64 bE], .int .i64 (p)] W fun r w' => r = .returned (.tuple #[.agg #[.bool xM, .string xS, .int .i64 xE, .bool yM, .string yS, .int .i64 yE], .int .i64 (er)]) ∧ Below W.heap.size W w'))
    :
    Calls Tryz.prog 89 #[.agg #[.bool aM, .string aS, .int .i64 aE], .agg #[.bool bM, .string bS, .int .i64 bE], .pointer (some ⟨gp, 0, none⟩)] w fun r w' => r = .returned (.agg #[.bool xM, .string xS, .int .i64 xE]) ∧ Below w.heap.size w w' := by
  have HT := Lib.hid hT
  clear hT
  go_enter Tryz.func89, Tryz.ntmps89
  go_upto_region 1 with (fail)
  have X1 := ((Bx.new w 25 #[.bool aM, .string aS, .int .i64 aE]).alloc (.cells #[.bool bM, .string bS, .int .i64 bE] 25)).alloc (.cells #[.bool false, .string ⟨#[]⟩, .int .i64 0] 25)
  have X2 := (Bx.at1 w (.cells #[.bool aM, .string aS, .int .i64 aE] 25) 25 #[.bool bM, .string bS, .int .i64 bE]).alloc (.cells #[.bool false, .string ⟨#[]⟩, .int .i64 0] 25)
  have X3 := Bx.at2 w (.cells #[.bool aM, .string aS, .int .i64 aE] 25) (.cells #[.bool bM, .string bS, .int .i64 bE] 25) 25 #[.bool false, .string ⟨#[]⟩, .int .i64 0]
  have hB := b3 w (.cells #[.bool aM, .string aS, .int .i64 aE] 25) (.cells #[.bool bM, .string bS, .int .i64 bE] 25) (.cells #[.bool false, .string ⟨#[]⟩, .int .i64 0] 25)
  generalize ((w.alloc (.cells #[.bool aM, .string aS, .int .i64 aE] 25)).alloc (.cells #[.bool bM, .string bS, .int .i64 bE] 25)).alloc (.cells #[.bool false, .string ⟨#[]⟩, .int .i64 0] 25) = w0 at *
  have LOXO2 := Lib.hid (hP).lt
  have XO2 := (hP).later hB
  obtain ⟨c1_0, c1_1, c1_2, _, _, _⟩ := X1.k3
  obtain ⟨c2_0, c2_1, c2_2, _, _, _⟩ := X2.k3
  obtain ⟨c3_0, _⟩ := XO2.k1
  clear X1 X2 XO2
  go_wp2_with fail
  clear c1_0 c1_1 c1_2 c2_0 c2_1 c2_2 c3_0
  refine (cQ.out _ (tab_keep HT.out hB)).mono ?_
  rintro e w1 ⟨rfl, hb⟩
  replace X3 := X3.later hb
  replace hB := nxt hB hb
  clear hb
  have N5 := Lib.hid (Nat.ne_of_lt X3.lt)
  have X4 := Bx.new w1 27 #[.bool xM, .string xS, .int .i64 xE, .bool yM, .string yS, .int .i64 yE]
  replace X3 := Bx.alloc X3 (.cells #[.bool xM, .string xS, .int .i64 xE, .bool yM, .string yS, .int .i64 yE] 27)
  replace hB := nxtA hB (.cells #[.bool xM, .string xS, .int .i64 xE, .bool yM, .string yS, .int .i64 yE] 27)
  obtain ⟨c6_0, c6_1, c6_2, _, _, _, _, _, _, _, _, _⟩ := X4.k6
  obtain ⟨c7_0, c7_1, c7_2, c7_3, c7_4, c7_5⟩ := X3.k3
  replace X4 := Bx.farN (Ne.symm N5.out) [.bool xM, .string xS, .int .i64 xE] 0 X4
  replace X3 := Bx.stores [.bool xM, .string xS, .int .i64 xE] 0 X3
  replace hB := stN (Nat.le_add_right _ 2) [.bool xM, .string xS, .int .i64 xE] 0 hB
  simp only [setN, Nat.reduceAdd] at X4 hB
  simp only [setN, putN, Nat.reduceAdd, List.setIfInBounds_toArray, List.set_cons_zero, List.set_cons_succ] at X3
  obtain ⟨c8_0, c8_1, c8_2, _, _, _⟩ := X3.k3
  clear X4
  go_wp2_with fail
  clear c6_0 c6_1 c6_2 c7_0 c7_1 c7_2 c7_3 c7_4 c7_5 c8_0 c8_1 c8_2
  exact bodyPost_ret (v := .agg #[.bool xM, .string xS, .int .i64 xE]) (by simp [results, Tryz.results89, go_sem, X3.cel]) rfl ⟨rfl, hB⟩

set_option maxRecDepth 100000 in
set_option maxHeartbeats 1000000 in
theorem sDivC2 (aM bM xM yM : Bool) (aS bS xS yS : ByteArray) (aE bE xE yE : Int) (p er : Int) (gp : Nat) (w : World) (hP : Bx w gp 3 #[.int .i64 (p)]) (hT : TabAt 0 Lib.deBruijn64tab w)
    (cQ : Hid (∀ (W : World), TabAt 0 Lib.deBruijn64tab W → Calls Tryz.prog 23 #[.agg #[.bool aM, .string aS, .int .i64 aE], .agg #[.bool bM, .string bS, .int .i64 bE], .int .i64 (p)] W fun r w' => r = .returned (.tuple #[.agg #[.bool xM, .string xS, .int .i64 xE, .bool yM, .string yS, .int .i64 yE], .int .i64 (er)]) ∧ Below W.heap.size W w'))
    :
    Calls Tryz.prog 90 #[.agg #[.bool aM, .string aS, .int .i64 aE], .agg #[.bool bM, .string bS, .int .i64 bE], .pointer (some ⟨gp, 0, none⟩)] w fun r w' => r = .returned (.agg #[.bool yM, .string yS, .int .i64 yE]) ∧ Below w.heap.size w w' := by
  have HT := Lib.hid hT
  clear hT
  go_enter Tryz.func90, Tryz.ntmps90
  go_upto_region 1 with (fail)
  have X1 := ((Bx.new w 25 #[.bool aM, .string aS, .int .i64 aE]).alloc (.cells #[.bool bM, .string bS, .int .i64 bE] 25)).alloc (.cells #[.bool false, .string ⟨#[]⟩, .int .i64 0] 25)
  have X2 := (Bx.at1 w (.cells #[.bool aM, .string aS, .int .i64 aE] 25) 25 #[.bool bM, .string bS, .int .i64 bE]).alloc (.cells #[.bool false, .string ⟨#[]⟩, .int .i64 0] 25)
  have X3 := Bx.at2 w (.cells #[.bool aM, .string aS, .int .i64 aE] 25) (.cells #[.bool bM, .string bS, .int .i64 bE] 25) 25 #[.bool false, .string ⟨#[]⟩, .int .i64 0]
  have hB := b3 w (.cells #[.bool aM, .string aS, .int .i64 aE] 25) (.cells #[.bool bM, .string bS, .int .i64 bE] 25) (.cells #[.bool false, .string ⟨#[]⟩, .int .i64 0] 25)
  generalize ((w.alloc (.cells #[.bool aM, .string aS, .int .i64 aE] 25)).alloc (.cells #[.bool bM, .string bS, .int .i64 bE] 25)).alloc (.cells #[.bool false, .string ⟨#[]⟩, .int .i64 0] 25) = w0 at *
  have LOXO2 := Lib.hid (hP).lt
  have XO2 := (hP).later hB
  obtain ⟨c1_0, c1_1, c1_2, _, _, _⟩ := X1.k3
  obtain ⟨c2_0, c2_1, c2_2, _, _, _⟩ := X2.k3
  obtain ⟨c3_0, _⟩ := XO2.k1
  clear X1 X2 XO2
  go_wp2_with fail
  clear c1_0 c1_1 c1_2 c2_0 c2_1 c2_2 c3_0
  refine (cQ.out _ (tab_keep HT.out hB)).mono ?_
  rintro e w1 ⟨rfl, hb⟩
  replace X3 := X3.later hb
  replace hB := nxt hB hb
  clear hb
  have N5 := Lib.hid (Nat.ne_of_lt X3.lt)
  have X4 := Bx.new w1 27 #[.bool xM, .string xS, .int .i64 xE, .bool yM, .string yS, .int .i64 yE]
  replace X3 := Bx.alloc X3 (.cells #[.bool xM, .string xS, .int .i64 xE, .bool yM, .string yS, .int .i64 yE] 27)
  replace hB := nxtA hB (.cells #[.bool xM, .string xS, .int .i64 xE, .bool yM, .string yS, .int .i64 yE] 27)
  obtain ⟨_, _, _, c6_3, c6_4, c6_5, _, _, _, _, _, _⟩ := X4.k6
  obtain ⟨c7_0, c7_1, c7_2, c7_3, c7_4, c7_5⟩ := X3.k3
  replace X4 := Bx.farN (Ne.symm N5.out) [.bool yM, .string yS, .int .i64 yE] 0 X4
  replace X3 := Bx.stores [.bool yM, .string yS, .int .i64 yE] 0 X3
  replace hB := stN (Nat.le_add_right _ 2) [.bool yM, .string yS, .int .i64 yE] 0 hB
  simp only [setN, Nat.reduceAdd] at X4 hB
  simp only [setN, putN, Nat.reduceAdd, List.setIfInBounds_toArray, List.set_cons_zero, List.set_cons_succ] at X3
  obtain ⟨c8_0, c8_1, c8_2, _, _, _⟩ := X3.k3
  clear X4
  go_wp2_with fail
  clear c6_3 c6_4 c6_5 c7_0 c7_1 c7_2 c7_3 c7_4 c7_5 c8_0 c8_1 c8_2
  exact bodyPost_ret (v := .agg #[.bool yM, .string yS, .int .i64 yE]) (by simp [results, Tryz.results90, go_sem, X3.cel]) rfl ⟨rfl, hB⟩

set_option maxRecDepth 100000 in
set_option maxHeartbeats 1000000 in
theorem sFourD1 (aM bM dM fM kM lM mM nM : Bool) (aS bS dS fS kS lS mS nS : ByteArray) (aE bE dE fE kE lE mE nE : Int) (p : Int) (gp : Nat) (w : World) (hP : Bx w gp 3 #[.int .i64 (p)]) (hT : TabAt 0 Lib.deBruijn64tab w)
    (c1 : Hid (∀ (W : World), TabAt 0 Lib.deBruijn64tab W → Bx W gp 3 #[.int .i64 (p)] → Calls Tryz.prog 89 #[.agg #[.bool aM, .string aS, .int .i64 aE], .agg #[.bool dM, .string dS, .int .i64 dE], .pointer (some ⟨gp, 0, none⟩)] W fun r w' => r = .returned (.agg #[.bool kM, .string kS, .int .i64 kE]) ∧ Below W.heap.size W w'))
    (c2 : Hid (∀ (W : World), TabAt 0 Lib.deBruijn64tab W → Bx W gp 3 #[.int .i64 (p)] → Calls Tryz.prog 89 #[.agg #[.bool aM, .string aS, .int .i64 aE], .agg #[.bool fM, .string fS, .int .i64 fE], .pointer (some ⟨gp, 0, none⟩)] W fun r w' => r = .returned (.agg #[.bool lM, .string lS, .int .i64 lE]) ∧ Below W.heap.size W w'))
    (c3 : Hid (∀ (W : World), TabAt 0 Lib.deBruijn64tab W → Bx W gp 3 #[.int .i64 (p)] → Calls Tryz.prog 89 #[.agg #[.bool bM, .string bS, .int .i64 bE], .agg #[.bool dM, .string dS, .int .i64 dE], .pointer (some ⟨gp, 0, none⟩)] W fun r w' => r = .returned (.agg #[.bool mM, .string mS, .int .i64 mE]) ∧ Below W.heap.size W w'))
    (c4 : Hid (∀ (W : World), TabAt 0 Lib.deBruijn64tab W → Bx W gp 3 #[.int .i64 (p)] → Calls Tryz.prog 89 #[.agg #[.bool bM, .string bS, .int .i64 bE], .agg #[.bool fM, .string fS, .int .i64 fE], .pointer (some ⟨gp, 0, none⟩)] W fun r w' => r = .returned (.agg #[.bool nM, .string nS, .int .i64 nE]) ∧ Below W.heap.size W w'))
    :
    Calls Tryz.prog 76 #[.agg #[.bool aM, .string aS, .int .i64 aE, .bool bM, .string bS, .int .i64 bE], .agg #[.bool dM, .string dS, .int .i64 dE, .bool fM, .string fS, .int .i64 fE], .func (.func 89) #[] #[.pointer (some ⟨gp, 0, none⟩)]] w fun r w' => r = .returned (.agg #[.bool kM, .string kS, .int .i64 kE, .bool lM, .string lS, .int .i64 lE, .bool mM, .string mS, .int .i64 mE, .bool nM, .string nS, .int .i64 nE]) ∧ Below w.heap.size w w' := by
  have HT := Lib.hid hT
  clear hT
  go_enter Tryz.func76, Tryz.ntmps76
  go_upto_region 1 with (fail)
  have X1 := ((Bx.new w 27 #[.bool aM, .string aS, .int .i64 aE, .bool bM, .string bS, .int .i64 bE]).alloc (.cells #[.bool dM, .string dS, .int .i64 dE, .bool fM, .string fS, .int .i64 fE] 27)).alloc (.cells #[.bool false, .string ⟨#[]⟩, .int .i64 0, .bool false, .string ⟨#[]⟩, .int .i64 0, .bool false, .string ⟨#[]⟩, .int .i64 0, .bool false, .string ⟨#[]⟩, .int .i64 0] 91)
  have X2 := (Bx.at1 w (.cells #[.bool aM, .string aS, .int .i64 aE, .bool bM, .string bS, .int .i64 bE] 27) 27 #[.bool dM, .string dS, .int .i64 dE, .bool fM, .string fS, .int .i64 fE]).alloc (.cells #[.bool false, .string ⟨#[]⟩, .int .i64 0, .bool false, .string ⟨#[]⟩, .int .i64 0, .bool false, .string ⟨#[]⟩, .int .i64 0, .bool false, .string ⟨#[]⟩, .int .i64 0] 91)
  have X3 := Bx.at2 w (.cells #[.bool aM, .string aS, .int .i64 aE, .bool bM, .string bS, .int .i64 bE] 27) (.cells #[.bool dM, .string dS, .int .i64 dE, .bool fM, .string fS, .int .i64 fE] 27) 91 #[.bool false, .string ⟨#[]⟩, .int .i64 0, .bool false, .string ⟨#[]⟩, .int .i64 0, .bool false, .string ⟨#[]⟩, .int .i64 0, .bool false, .string ⟨#[]⟩, .int .i64 0]
  have hB := b3 w (.cells #[.bool aM, .string aS, .int .i64 aE, .bool bM, .string bS, .int .i64 bE] 27) (.cells #[.bool dM, .string dS, .int .i64 dE, .bool fM, .string fS, .int .i64 fE] 27) (.cells #[.bool false, .string ⟨#[]⟩, .int .i64 0, .bool false, .string ⟨#[]⟩, .int .i64 0, .bool false, .string ⟨#[]⟩, .int .i64 0, .bool false, .string ⟨#[]⟩, .int .i64 0] 91)
  generalize ((w.alloc (.cells #[.bool aM, .string aS, .int .i64 aE, .bool bM, .string bS, .int .i64 bE] 27)).alloc (.cells #[.bool dM, .string dS, .int .i64 dE, .bool fM, .string fS, .int .i64 fE] 27)).alloc (.cells #[.bool false, .string ⟨#[]⟩, .int .i64 0, .bool false, .string ⟨#[]⟩, .int .i64 0, .bool false, .string ⟨#[]⟩, .int .i64 0, .bool false, .string ⟨#[]⟩, .int .i64 0] 91) = w0 at *
  go_upto_region 1 with (fail)
  refine wp_region_k [7, 8, 9, 10, 11, 12, 13, 14, 15, 16, 17, 18, 19, 20, 21, 22, 23, 24, 25, 26, 27, 28, 29, 30, 31] [.eq (.func (.func 89) #[] #[.pointer (some ⟨gp, 0, none⟩)]), .eq (.pointer (some ⟨w.heap.size, 0, none⟩)), .eq (.agg #[.bool aM, .string aS, .int .i64 aE]), .eq (.pointer (some ⟨w.heap.size + 1, 0, none⟩)), .eq (.agg #[.bool dM, .string dS, .int .i64 dE]), .eq (.agg #[.bool kM, .string kS, .int .i64 kE]), .eq (.func (.func 89) #[] #[.pointer (some ⟨gp, 0, none⟩)]), .eq (.pointer (some ⟨w.heap.size, 0, none⟩)), .eq (.agg #[.bool aM, .string aS, .int .i64 aE]), .eq (.pointer (some ⟨w.heap.size + 1, 3, none⟩)), .eq (.agg #[.bool fM, .string fS, .int .i64 fE]), .eq (.agg #[.bool lM, .string lS, .int .i64 lE]), .eq (.func (.func 89) #[] #[.pointer (some ⟨gp, 0, none⟩)]), .eq (.pointer (some ⟨w.heap.size, 3, none⟩)), .eq (.agg #[.bool bM, .string bS, .int .i64 bE]), .eq (.pointer (some ⟨w.heap.size + 1, 0, none⟩)), .eq (.agg #[.bool dM, .string dS, .int .i64 dE]), .eq (.agg #[.bool mM, .string mS, .int .i64 mE]), .eq (.func (.func 89) #[] #[.pointer (some ⟨gp, 0, none⟩)]), .eq (.pointer (some ⟨w.heap.size, 3, none⟩)), .eq (.agg #[.bool bM, .string bS, .int .i64 bE]), .eq (.pointer (some ⟨w.heap.size + 1, 3, none⟩)), .eq (.agg #[.bool fM, .string fS, .int .i64 fE]), .eq (.agg #[.bool nM, .string nS, .int .i64 nE]), .eq (.agg #[.bool kM, .string kS, .int .i64 kE, .bool lM, .string lS, .int .i64 lE, .bool mM, .string mS, .int .i64 mE, .bool nM, .string nS, .int .i64 nE])] 32 (by kernel_rfl) (by exact fun _ _ _ _ _ h => h) (by kernel_rfl) (by rfl) ?hop ?htail
  case hop =>
    intro A hA
    have hN : A.tmps.size = 32 := by rw [hA]; rfl
    have q2 : A.tmps.getD 2 undef = .func (.func 89) #[] #[.pointer (some ⟨gp, 0, none⟩)] := by rw [hA]; rfl
    have q3 : A.tmps.getD 3 undef = .pointer (some ⟨w.heap.size, 0, none⟩) := by rw [hA]; rfl
    have q4 : A.tmps.getD 4 undef = .pointer (some ⟨w.heap.size + 1, 0, none⟩) := by rw [hA]; rfl
    clear hA
    refine ⟨?_, ?_, ?_, ?_, ?_, ?_, ?_, ?_, ?_, ?_, ?_, ?_, ?_, ?_, ?_, ?_, ?_, ?_, ?_, ?_, ?_, ?_, ?_, ?_, ?_, trivial⟩
    · refine kok hN fun u W ev ec ef E B hG hf => ?_
      exact k_val _ rfl rfl hG (by simp [go_sem, B 2 rfl rfl q2]) rfl
    · refine kok hN fun u W ev ec ef E B hG hf => ?_
      exact k_val _ rfl rfl hG (by simp [go_sem, B 3 rfl rfl q3]) rfl
    · refine kok hN fun u W ev ec ef E B hG hf => ?_
      exact k_val _ rfl rfl hG (by simp [go_sem, E 8 1 rfl rfl (hf 1 rfl), (X1.later hG).cel]) rfl
    · refine kok hN fun u W ev ec ef E B hG hf => ?_
      exact k_val _ rfl rfl hG (by simp [go_sem, B 4 rfl rfl q4]) rfl
    · refine kok hN fun u W ev ec ef E B hG hf => ?_
      exact k_val _ rfl rfl hG (by simp [go_sem, E 10 3 rfl rfl (hf 3 rfl), (X2.later hG).cel]) rfl
    · refine kok hN fun u W ev ec ef E B hG hf => ?_
      exact k_cl rfl rfl (by simp [go_sem, E 7 0 rfl rfl (hf 0 rfl), E 9 2 rfl rfl (hf 2 rfl), E 11 4 rfl rfl (hf 4 rfl)]) (c1.out W (tab_keep HT.out (nxt hB hG)) (hP.later (nxt hB hG))) hG (fun _ _ => rfl)
    · refine kok hN fun u W ev ec ef E B hG hf => ?_
      exact k_val _ rfl rfl hG (by simp [go_sem, B 2 rfl rfl q2]) rfl
    · refine kok hN fun u W ev ec ef E B hG hf => ?_
      exact k_val _ rfl rfl hG (by simp [go_sem, B 3 rfl rfl q3]) rfl
    · refine kok hN fun u W ev ec ef E B hG hf => ?_
      exact k_val _ rfl rfl hG (by simp [go_sem, E 14 7 rfl rfl (hf 7 rfl), (X1.later hG).cel]) rfl
    · refine kok hN fun u W ev ec ef E B hG hf => ?_
      exact k_val _ rfl rfl hG (by simp [go_sem, B 4 rfl rfl q4]) rfl
    · refine kok hN fun u W ev ec ef E B hG hf => ?_
      exact k_val _ rfl rfl hG (by simp [go_sem, E 16 9 rfl rfl (hf 9 rfl), (X2.later hG).cel]) rfl
    · refine kok hN fun u W ev ec ef E B hG hf => ?_
      exact k_cl rfl rfl (by simp [go_sem, E 13 6 rfl rfl (hf 6 rfl), E 15 8 rfl rfl (hf 8 rfl), E 17 10 rfl rfl (hf 10 rfl)]) (c2.out W (tab_keep HT.out (nxt hB hG)) (hP.later (nxt hB hG))) hG (fun _ _ => rfl)
    · refine kok hN fun u W ev ec ef E B hG hf => ?_
      exact k_val _ rfl rfl hG (by simp [go_sem, B 2 rfl rfl q2]) rfl
    · refine kok hN fun u W ev ec ef E B hG hf => ?_
      exact k_val _ rfl rfl hG (by simp [go_sem, B 3 rfl rfl q3]) rfl
    · refine kok hN fun u W ev ec ef E B hG hf => ?_
      exact k_val _ rfl rfl hG (by simp [go_sem, E 20 13 rfl rfl (hf 13 rfl), (X1.later hG).cel]) rfl
    · refine kok hN fun u W ev ec ef E B hG hf => ?_
      exact k_val _ rfl rfl hG (by simp [go_sem, B 4 rfl rfl q4]) rfl
    · refine kok hN fun u W ev ec ef E B hG hf => ?_
      exact k_val _ rfl rfl hG (by simp [go_sem, E 22 15 rfl rfl (hf 15 rfl), (X2.later hG).cel]) rfl
    · refine kok hN fun u W ev ec ef E B hG hf => ?_
      exact k_cl rfl rfl (by simp [go_sem, E 19 12 rfl rfl (hf 12 rfl), E 21 14 rfl rfl (hf 14 rfl), E 23 16 rfl rfl (hf 16 rfl)]) (c3.out W (tab_keep HT.out (nxt hB hG)) (hP.later (nxt hB hG))) hG (fun _ _ => rfl)
    · refine kok hN fun u W ev ec ef E B hG hf => ?_
      exact k_val _ rfl rfl hG (by simp [go_sem, B 2 rfl rfl q2]) rfl
    · refine kok hN fun u W ev ec ef E B hG hf => ?_
      exact k_val _ rfl rfl hG (by simp [go_sem, B 3 rfl rfl q3]) rfl
    · refine kok hN fun u W ev ec ef E B hG hf => ?_
      exact k_val _ rfl rfl hG (by simp [go_sem, E 26 19 rfl rfl (hf 19 rfl), (X1.later hG).cel]) rfl
    · refine kok hN fun u W ev ec ef E B hG hf => ?_
      exact k_val _ rfl rfl hG (by simp [go_sem, B 4 rfl rfl q4]) rfl
    · refine kok hN fun u W ev ec ef E B hG hf => ?_
      exact k_val _ rfl rfl hG (by simp [go_sem, E 28 21 rfl rfl (hf 21 rfl), (X2.later hG).cel]) rfl
    · refine kok hN fun u W ev ec ef E B hG hf => ?_
      exact k_cl rfl rfl (by simp [go_sem, E 25 18 rfl rfl (hf 18 rfl), E 27 20 rfl rfl (hf 20 rfl), E 29 22 rfl rfl (hf 22 rfl)]) (c4.out W (tab_keep HT.out (nxt hB hG)) (hP.later (nxt hB hG))) hG (fun _ _ => rfl)
    · refine kok hN fun u W ev ec ef E B hG hf => ?_
      exact k_val _ rfl rfl hG (by simp [go_sem, E 12 5 rfl rfl (hf 5 rfl), E 18 11 rfl rfl (hf 11 rfl), E 24 17 rfl rfl (hf 17 rfl), E 30 23 rfl rfl (hf 23 rfl)]) rfl
  case htail =>
    intro u w1 hG hP hD
    have f31 : u 24 = .agg #[.bool kM, .string kS, .int .i64 kE, .bool lM, .string lS, .int .i64 lE, .bool mM, .string mS, .int .i64 mE, .bool nM, .string nS, .int .i64 nE] := hP 24 (by decide)
    simp only [putAll, Act.put, List.setIfInBounds_toArray, List.set_cons_zero, List.set_cons_succ, List.length_cons, List.length_nil, Nat.reduceAdd, List.drop_succ_cons, List.drop_zero, f31]
    replace X1 := X1.later hG
    replace X2 := X2.later hG
    replace X3 := X3.later hG
    replace hB := nxt hB hG
    clear hP hD hG f31
    obtain ⟨c1_0, c1_1, c1_2, c1_3, c1_4, c1_5, c1_6, c1_7, c1_8, c1_9, c1_10, c1_11, c1_12, c1_13, c1_14, c1_15, c1_16, c1_17, c1_18, c1_19, c1_20, c1_21, c1_22, c1_23⟩ := X3.k12
    replace X1 := Bx.farN (show w.heap.size ≠ w.heap.size + 2 by simp) [.bool kM, .string kS, .int .i64 kE, .bool lM, .string lS, .int .i64 lE, .bool mM, .string mS, .int .i64 mE, .bool nM, .string nS, .int .i64 nE] 0 X1
    replace X2 := Bx.farN (show w.heap.size + 1 ≠ w.heap.size + 2 by simp) [.bool kM, .string kS, .int .i64 kE, .bool lM, .string lS, .int .i64 lE, .bool mM, .string mS, .int .i64 mE, .bool nM, .string nS, .int .i64 nE] 0 X2
    replace X3 := Bx.stores [.bool kM, .string kS, .int .i64 kE, .bool lM, .string lS, .int .i64 lE, .bool mM, .string mS, .int .i64 mE, .bool nM, .string nS, .int .i64 nE] 0 X3
    replace hB := stN (Nat.le_add_right _ 2) [.bool kM, .string kS, .int .i64 kE, .bool lM, .string lS, .int .i64 lE, .bool mM, .string mS, .int .i64 mE, .bool nM, .string nS, .int .i64 nE] 0 hB
    simp only [setN, Nat.reduceAdd] at X1 X2 hB
    simp only [setN, putN, Nat.reduceAdd, List.setIfInBounds_toArray, List.set_cons_zero, List.set_cons_succ] at X3
    obtain ⟨c2_0, c2_1, c2_2, c2_3, c2_4, c2_5, c2_6, c2_7, c2_8, c2_9, c2_10, c2_11, _, _, _, _, _, _, _, _, _, _, _, _⟩ := X3.k12
    clear X1 X2
    go_wp2_with fail
    clear c1_0 c1_1 c1_2 c1_3 c1_4 c1_5 c1_6 c1_7 c1_8 c1_9 c1_10 c1_11 c1_12 c1_13 c1_14 c1_15 c1_16 c1_17 c1_18 c1_19 c1_20 c1_21 c1_22 c1_23 c2_0 c2_1 c2_2 c2_3 c2_4 c2_5 c2_6 c2_7 c2_8 c2_9 c2_10 c2_11
    exact bodyPost_ret (v := .agg #[.bool kM, .string kS, .int .i64 kE, .bool lM, .string lS, .int .i64 lE, .bool mM, .string mS, .int .i64 mE, .bool nM, .string nS, .int .i64 nE]) (by simp [results, Tryz.results76, go_sem, X3.cel]) rfl ⟨rfl, hB⟩

set_option maxRecDepth 100000 in
set_option maxHeartbeats 1000000 in
theorem sFourD2 (aM bM dM fM kM lM mM nM : Bool) (aS bS dS fS kS lS mS nS : ByteArray) (aE bE dE fE kE lE mE nE : Int) (p : Int) (gp : Nat) (w : World) (hP : Bx w gp 3 #[.int .i64 (p)]) (hT : TabAt 0 Lib.deBruijn64tab w)
    (c1 : Hid (∀ (W : World), TabAt 0 Lib.deBruijn64tab W → Bx W gp 3 #[.int .i64 (p)] → Calls Tryz.prog 90 #[.agg #[.bool aM, .string aS, .int .i64 aE], .agg #[.bool dM, .string dS, .int .i64 dE], .pointer (some ⟨gp, 0, none⟩)] W fun r w' => r = .returned (.agg #[.bool kM, .string kS, .int .i64 kE]) ∧ Below W.heap.size W w'))
    (c2 : Hid (∀ (W : World), TabAt 0 Lib.deBruijn64tab W → Bx W gp 3 #[.int .i64 (p)] → Calls Tryz.prog 90 #[.agg #[.bool aM, .string aS, .int .i64 aE], .agg #[.bool fM, .string fS, .int .i64 fE], .pointer (some ⟨gp, 0, none⟩)] W fun r w' => r = .returned (.agg #[.bool lM, .string lS, .int .i64 lE]) ∧ Below W.heap.size W w'))
    (c3 : Hid (∀ (W : World), TabAt 0 Lib.deBruijn64tab W → Bx W gp 3 #[.int .i64 (p)] → Calls Tryz.prog 90 #[.agg #[.bool bM, .string bS, .int .i64 bE], .agg #[.bool dM, .string dS, .int .i64 dE], .pointer (some ⟨gp, 0, none⟩)] W fun r w' => r = .returned (.agg #[.bool mM, .string mS, .int .i64 mE]) ∧ Below W.heap.size W w'))
    (c4 : Hid (∀ (W : World), TabAt 0 Lib.deBruijn64tab W → Bx W gp 3 #[.int .i64 (p)] → Calls Tryz.prog 90 #[.agg #[.bool bM, .string bS, .int .i64 bE], .agg #[.bool fM, .string fS, .int .i64 fE], .pointer (some ⟨gp, 0, none⟩)] W fun r w' => r = .returned (.agg #[.bool nM, .string nS, .int .i64 nE]) ∧ Below W.heap.size W w'))
    :
    Calls Tryz.prog 76 #[.agg #[.bool aM, .string aS, .int .i64 aE, .bool bM, .string bS, .int .i64 bE], .agg #[.bool dM, .string dS, .int .i64 dE, .bool fM, .string fS, .int .i64 fE], .func (.func 90) #[] #[.pointer (some ⟨gp, 0, none⟩)]] w fun r w' => r = .returned (.agg #[.bool kM, .string kS, .int .i64 kE, .bool lM, .string lS, .int .i64 lE, .bool mM, .string mS, .int .i64 mE, .bool nM, .string nS, .int .i64 nE]) ∧ Below w.heap.size w w' := by
  have HT := Lib.hid hT
  clear hT
  go_enter Tryz.func76, Tryz.ntmps76
  go_upto_region 1 with (fail)
  have X1 := ((Bx.new w 27 #[.bool aM, .string aS, .int .i64 aE, .bool bM, .string bS, .int .i64 bE]).alloc (.cells #[.bool dM, .string dS, .int .i64 dE, .bool fM, .string fS, .int .i64 fE] 27)).alloc (.cells #[.bool false, .string ⟨#[]⟩, .int .i64 0, .bool false, .string ⟨#[]⟩, .int .i64 0, .bool false, .string ⟨#[]⟩, .int .i64 0, .bool false, .string ⟨#[]⟩, .int .i64 0] 91)
  have X2 := (Bx.at1 w (.cells #[.bool aM, .string aS, .int .i64 aE, .bool bM, .string bS, .int .i64 bE] 27) 27 #[.bool dM, .string dS, .int .i64 dE, .bool fM, .string fS, .int .i64 fE]).alloc (.cells #[.bool false, .string ⟨#[]⟩, .int .i64 0, .bool false, .string ⟨#[]⟩, .int .i64 0, .bool false, .string ⟨#[]⟩, .int .i64 0, .bool false, .string ⟨#[]⟩, .int .i64 0] 91)
  have X3 := Bx.at2 w (.cells #[.bool aM, .string aS, .int .i64 aE, .bool bM, .string bS, .int .i64 bE] 27) (.cells #[.bool dM, .string dS, .int .i64 dE, .bool fM, .string fS, .int .i64 fE] 27) 91 #[.bool false, .string ⟨#[]⟩, .int .i64 0, .bool false, .string ⟨#[]⟩, .int .i64 0, .bool false, .string ⟨#[]⟩, .int .i64 0, .bool false, .string ⟨#[]⟩, .int .i64 0]
  have hB := b3 w (.cells #[.bool aM, .string aS, .int .i64 aE, .bool bM, .string bS, .int .i64 bE] 27) (.cells #[.bool dM, .string dS, .int .i64 dE, .bool fM, .string fS, .int .i64 fE] 27) (.cells #[.bool false, .string ⟨#[]⟩, .int .i64 0, .bool false, .string ⟨#[]⟩, .int .i64 0, .bool false, .string ⟨#[]⟩, .int .i64 0, .bool false, .string ⟨#[]⟩, .int .i64 0] 91)
  generalize ((w.alloc (.cells #[.bool aM, .string aS, .int .i64 aE, .bool bM, .string bS, .int .i64 bE] 27)).alloc (.cells #[.bool dM, .string dS, .int .i64 dE, .bool fM, .string fS, .int .i64 fE] 27)).alloc (.cells #[.bool false, .string ⟨#[]⟩, .int .i64 0, .bool false, .string ⟨#[]⟩, .int .i64 0, .bool false, .string ⟨#[]⟩, .int .i64 0, .bool false, .string ⟨#[]⟩, .int .i64 0] 91) = w0 at *
  go_upto_region 1 with (fail)
  refine wp_region_k [7, 8, 9, 10, 11, 12, 13, 14, 15, 16, 17, 18, 19, 20, 21, 22, 23, 24, 25, 26, 27, 28, 29, 30, 31] [.eq (.func (.func 90) #[] #[.pointer (some ⟨gp, 0, none⟩)]), .eq (.pointer (some ⟨w.heap.size, 0, none⟩)), .eq (.agg #[.bool aM, .string aS, .int .i64 aE]), .eq (.pointer (some ⟨w.heap.size + 1, 0, none⟩)), .eq (.agg #[.bool dM, .string dS, .int .i64 dE]), .eq (.agg #[.bool kM, .string kS, .int .i64 kE]), .eq (.func (.func 90) #[] #[.pointer (some ⟨gp, 0, none⟩)]), .eq (.pointer (some ⟨w.heap.size, 0, none⟩)), .eq (.agg #[.bool aM, .string aS, .int .i64 aE]), .eq (.pointer (some ⟨w.heap.size + 1, 3, none⟩)), .eq (.agg #[.bool fM, .string fS, .int .i64 fE]), .eq (.agg #[.bool lM, .string lS, .int .i64 lE]), .eq (.func (.func 90) #[] #[.pointer (some ⟨gp, 0, none⟩)]), .eq (.pointer (some ⟨w.heap.size, 3, none⟩)), .eq (.agg #[.bool bM, .string bS, .int .i64 bE]), .eq (.pointer (some ⟨w.heap.size + 1, 0, none⟩)), .eq (.agg #[.bool dM, .string dS, .int .i64 dE]), .eq (.agg #[.bool mM, .string mS, .int .i64 mE]), .eq (.func (.func 90) #[] #[.pointer (some ⟨gp, 0, none⟩)]), .eq (.pointer (some ⟨w.heap.size, 3, none⟩)), .eq (.agg #[.bool bM, .string bS, .int .i64 bE]), .eq (.pointer (some ⟨w.heap.size + 1, 3, none⟩)), .eq (.agg #[.bool fM, .string fS, .int .i64 fE]), .eq (.agg #[.bool nM, .string nS, .int .i64 nE]), .eq (.agg #[.bool kM, .string kS, .int .i64 kE, .bool lM, .string lS, .int .i64 lE, .bool mM, .string mS, .int .i64 mE, .bool nM, .string nS, .int .i64 nE])] 32 (by kernel_rfl) (by exact fun _ _ _ _ _ h => h) (by kernel_rfl) (by rfl) ?hop ?htail
  case hop =>
    intro A hA
    have hN : A.tmps.size = 32 := by rw [hA]; rfl
    have q2 : A.tmps.getD 2 undef = .func (.func 90) #[] #[.pointer (some ⟨gp, 0, none⟩)] := by rw [hA]; rfl
    have q3 : A.tmps.getD 3 undef = .pointer (some ⟨w.heap.size, 0, none⟩) := by rw [hA]; rfl
    have q4 : A.tmps.getD 4 undef = .pointer (some ⟨w.heap.size + 1, 0, none⟩) := by rw [hA]; rfl
    clear hA
    refine ⟨?_, ?_, ?_, ?_, ?_, ?_, ?_, ?_, ?_, ?_, ?_, ?_, ?_, ?_, ?_, ?_, ?_, ?_, ?_, ?_, ?_, ?_, ?_, ?_, ?_, trivial⟩
    · refine kok hN fun u W ev ec ef E B hG hf => ?_
      exact k_val _ rfl rfl hG (by simp [go_sem, B 2 rfl rfl q2]) rfl
    · refine kok hN fun u W ev ec ef E B hG hf => ?_
      exact k_val _ rfl rfl hG (by simp [go_sem, B 3 rfl rfl q3]) rfl
    · refine kok hN fun u W ev ec ef E B hG hf => ?_
      exact k_val _ rfl rfl hG (by simp [go_sem, E 8 1 rfl rfl (hf 1 rfl), (X1.later hG).cel]) rfl
    · refine kok hN fun u W ev ec ef E B hG hf => ?_
      exact k_val _ rfl rfl hG (by simp [go_sem, B 4 rfl rfl q4]) rfl
    · refine kok hN fun u W ev ec ef E B hG hf => ?_
      exact k_val _ rfl rfl hG (by simp [go_sem, E 10 3 rfl rfl (hf 3 rfl), (X2.later hG).cel]) rfl
    · refine kok hN fun u W ev ec ef E B hG hf => ?_
      exact k_cl rfl rfl (by simp [go_sem, E 7 0 rfl rfl (hf 0 rfl), E 9 2 rfl rfl (hf 2 rfl), E 11 4 rfl rfl (hf 4 rfl)]) (c1.out W (tab_keep HT.out (nxt hB hG)) (hP.later (nxt hB hG))) hG (fun _ _ => rfl)
    · refine kok hN fun u W ev ec ef E B hG hf => ?_
      exact k_val _ rfl rfl hG (by simp [go_sem, B 2 rfl rfl q2]) rfl
    · refine kok hN fun u W ev ec ef E B hG hf => ?_
      exact k_val _ rfl rfl hG (by simp [go_sem, B 3 rfl rfl q3]) rfl
    · refine kok hN fun u W ev ec ef E B hG hf => ?_
      exact k_val _ rfl rfl hG (by simp [go_sem, E 14 7 rfl rfl (hf 7 rfl), (X1.later hG).cel]) rfl
    · refine kok hN fun u W ev ec ef E B hG hf => ?_
      exact k_val _ rfl rfl hG (by simp [go_sem, B 4 rfl rfl q4]) rfl
    · refine kok hN fun u W ev ec ef E B hG hf => ?_
      exact k_val _ rfl rfl hG (by simp [go_sem, E 16 9 rfl rfl (hf 9 rfl), (X2.later hG).cel]) rfl
    · refine kok hN fun u W ev ec ef E B hG hf => ?_
      exact k_cl rfl rfl (by simp [go_sem, E 13 6 rfl rfl (hf 6 rfl), E 15 8 rfl rfl (hf 8 rfl), E 17 10 rfl rfl (hf 10 rfl)]) (c2.out W (tab_keep HT.out (nxt hB hG)) (hP.later (nxt hB hG))) hG (fun _ _ => rfl)
    · refine kok hN fun u W ev ec ef E B hG hf => ?_
      exact k_val _ rfl rfl hG (by simp [go_sem, B 2 rfl rfl q2]) rfl
    · refine kok hN fun u W ev ec ef E B hG hf => ?_
      exact k_val _ rfl rfl hG (by simp [go_sem, B 3 rfl rfl q3]) rfl
    · refine kok hN fun u W ev ec ef E B hG hf => ?_
      exact k_val _ rfl rfl hG (by simp [go_sem, E 20 13 rfl rfl (hf 13 rfl), (X1.later hG).cel]) rfl
    · refine kok hN fun u W ev ec ef E B hG hf => ?_
      exact k_val _ rfl rfl hG (by simp [go_sem, B 4 rfl rfl q4]) rfl
    · refine kok hN fun u W ev ec ef E B hG hf => ?_
      exact k_val _ rfl rfl hG (by simp [go_sem, E 22 15 rfl rfl (hf 15 rfl), (X2.later hG).cel]) rfl
    · refine kok hN fun u W ev ec ef E B hG hf => ?_
      exact k_cl rfl rfl (by simp [go_sem, E 19 12 rfl rfl (hf 12 rfl), E 21 14 rfl rfl (hf 14 rfl), E 23 16 rfl rfl (hf 16 rfl)]) (c3.out W (tab_keep HT.out (nxt hB hG)) (hP.later (nxt hB hG))) hG (fun _ _ => rfl)
    · refine kok hN fun u W ev ec ef E B hG hf => ?_
      exact k_val _ rfl rfl hG (by simp [go_sem, B 2 rfl rfl q2]) rfl
    · refine kok hN fun u W ev ec ef E B hG hf => ?_
      exact k_val _ rfl rfl hG (by simp [go_sem, B 3 rfl rfl q3]) rfl
    · refine kok hN fun u W ev ec ef E B hG hf => ?_
      exact k_val _ rfl rfl hG (by simp [go_sem, E 26 19 rfl rfl (hf 19 rfl), (X1.later hG).cel]) rfl
    · refine kok hN fun u W ev ec ef E B hG hf => ?_
      exact k_val _ rfl rfl hG (by simp [go_sem, B 4 rfl rfl q4]) rfl
    · refine kok hN fun u W ev ec ef E B hG hf => ?_
      exact k_val _ rfl rfl hG (by simp [go_sem, E 28 21 rfl rfl (hf 21 rfl), (X2.later hG).cel]) rfl
    · refine kok hN fun u W ev ec ef E B hG hf => ?_
      exact k_cl rfl rfl (by simp [go_sem, E 25 18 rfl rfl (hf 18 rfl), E 27 20 rfl rfl (hf 20 rfl), E 29 22 rfl rfl (hf 22 rfl)]) (c4.out W (tab_keep HT.out (nxt hB hG)) (hP.later (nxt hB hG))) hG (fun _ _ => rfl)
    · refine kok hN fun u W ev ec ef E B hG hf => ?_
      exact k_val _ rfl rfl hG (by simp [go_sem, E 12 5 rfl rfl (hf 5 rfl), E 18 11 rfl rfl (hf 11 rfl), E 24 17 rfl rfl (hf 17 rfl), E 30 23 rfl rfl (hf 23 rfl)]) rfl
  case htail =>
    intro u w1 hG hP hD
    have f31 : u 24 = .agg #[.bool kM, .string kS, .int .i64 kE, .bool lM, .string lS, .int .i64 lE, .bool mM, .string mS, .int .i64 mE, .bool nM, .string nS, .int .i64 nE] := hP 24 (by decide)
    simp only [putAll, Act.put, List.setIfInBounds_toArray, List.set_cons_zero, List.set_cons_succ, List.length_cons, List.length_nil, Nat.reduceAdd, List.drop_succ_cons, List.drop_zero, f31]
    replace X1 := X1.later hG
    replace X2 := X2.later hG
    replace X3 := X3.later hG
    replace hB := nxt hB hG
    clear hP hD hG f31
    obtain ⟨c1_0, c1_1, c1_2, c1_3, c1_4, c1_5, c1_6, c1_7, c1_8, c1_9, c1_10, c1_11, c1_12, c1_13, c1_14, c1_15, c1_16, c1_17, c1_18, c1_19, c1_20, c1_21, c1_22, c1_23⟩ := X3.k12
    replace X1 := Bx.farN (show w.heap.size ≠ w.heap.size + 2 by simp) [.bool kM, .string kS, .int .i64 kE, .bool lM, .string lS, .int .i64 lE, .bool mM, .string mS, .int .i64 mE, .bool nM, .string nS, .int .i64 nE] 0 X1
    replace X2 := Bx.farN (show w.heap.size + 1 ≠ w.heap.size + 2 by simp) [.bool kM, .string kS, .int .i64 kE, .bool lM, .string lS, .int .i64 lE, .bool mM, .string mS, .int .i64 mE, .bool nM, .string nS, .int .i64 nE] 0 X2
    replace X3 := Bx.stores [.bool kM, .string kS, .int .i64 kE, .bool lM, .string lS, .int .i64 lE, .bool mM, .string mS, .int .i64 mE, .bool nM, .string nS, .int .i64 nE] 0 X3
    replace hB := stN (Nat.le_add_right _ 2) [.bool kM, .string kS, .int .i64 kE, .bool lM, .string lS, .int .i64 lE, .bool mM, .string mS, .int .i64 mE, .bool nM, .string nS, .int .i64 nE] 0 hB
    simp only [setN, Nat.reduceAdd] at X1 X2 hB
    simp only [setN, putN, Nat.reduceAdd, List.setIfInBounds_toArray, List.set_cons_zero, List.set_cons_succ] at X3
    obtain ⟨c2_0, c2_1, c2_2, c2_3, c2_4, c2_5, c2_6, c2_7, c2_8, c2_9, c2_10, c2_11, _, _, _, _, _, _, _, _, _, _, _, _⟩ := X3.k12
    clear X1 X2
    go_wp2_with fail
    clear c1_0 c1_1 c1_2 c1_3 c1_4 c1_5 c1_6 c1_7 c1_8 c1_9 c1_10 c1_11 c1_12 c1_13 c1_14 c1_15 c1_16 c1_17 c1_18 c1_19 c1_20 c1_21 c1_22 c1_23 c2_0 c2_1 c2_2 c2_3 c2_4 c2_5 c2_6 c2_7 c2_8 c2_9 c2_10 c2_11
    exact bodyPost_ret (v := .agg #[.bool kM, .string kS, .int .i64 kE, .bool lM, .string lS, .int .i64 lE, .bool mM, .string mS, .int .i64 mE, .bool nM, .string nS, .int .i64 nE]) (by simp [results, Tryz.results76, go_sem, X3.cel]) rfl ⟨rfl, hB⟩

set_option maxRecDepth 100000 in
set_option maxHeartbeats 1000000 in
theorem sDiv_zero (aM bM dM fM : Bool) (aS bS dS fS : ByteArray) (aE bE dE fE : Int) (p : Int) (w : World) (hT : TabAt 0 Lib.deBruijn64tab w)
    (cH : Hid (∀ (W : World), TabAt 0 Lib.deBruijn64tab W → Calls Tryz.prog 37 #[.agg #[.bool dM, .string dS, .int .i64 dE, .bool fM, .string fS, .int .i64 fE], .agg #[.bool false, .string ⟨#[]⟩, .int .i64 0]] W fun r w' => r = .returned (.bool true) ∧ Below W.heap.size W w'))
    :
    Calls Tryz.prog 26 #[.agg #[.bool aM, .string aS, .int .i64 aE, .bool bM, .string bS, .int .i64 bE], .agg #[.bool dM, .string dS, .int .i64 dE, .bool fM, .string fS, .int .i64 fE], .int .i64 (p)] w fun r w' => r = .returned (.tuple #[.agg #[.bool false, .string ⟨#[]⟩, .int .i64 0, .bool false, .string ⟨#[]⟩, .int .i64 0], .int .i64 1]) ∧ Below w.heap.size w w' := by
  have HT := Lib.hid hT
  clear hT
  go_enter Tryz.func26, Tryz.ntmps26
  go_upto_region 1 with (fail)
  have X1 := (((Bx.new w 27 #[.bool aM, .string aS, .int .i64 aE, .bool bM, .string bS, .int .i64 bE]).alloc (.cells #[.bool dM, .string dS, .int .i64 dE, .bool fM, .string fS, .int .i64 fE] 27)).alloc (.cells #[.int .i64 (p)] 3)).alloc (.cells #[.bool false, .string ⟨#[]⟩, .int .i64 0, .bool false, .string ⟨#[]⟩, .int .i64 0] 27)
  have X2 := ((Bx.at1 w (.cells #[.bool aM, .string aS, .int .i64 aE, .bool bM, .string bS, .int .i64 bE] 27) 27 #[.bool dM, .string dS, .int .i64 dE, .bool fM, .string fS, .int .i64 fE]).alloc (.cells #[.int .i64 (p)] 3)).alloc (.cells #[.bool false, .string ⟨#[]⟩, .int .i64 0, .bool false, .string ⟨#[]⟩, .int .i64 0] 27)
  have X3 := (Bx.at2 w (.cells #[.bool aM, .string aS, .int .i64 aE, .bool bM, .string bS, .int .i64 bE] 27) (.cells #[.bool dM, .string dS, .int .i64 dE, .bool fM, .string fS, .int .i64 fE] 27) 3 #[.int .i64 (p)]).alloc (.cells #[.bool false, .string ⟨#[]⟩, .int .i64 0, .bool false, .string ⟨#[]⟩, .int .i64 0] 27)
  have X4 := Bx.at3 w (.cells #[.bool aM, .string aS, .int .i64 aE, .bool bM, .string bS, .int .i64 bE] 27) (.cells #[.bool dM, .string dS, .int .i64 dE, .bool fM, .string fS, .int .i64 fE] 27) (.cells #[.int .i64 (p)] 3) 27 #[.bool false, .string ⟨#[]⟩, .int .i64 0, .bool false, .string ⟨#[]⟩, .int .i64 0]
  have hB := b4 w (.cells #[.bool aM, .string aS, .int .i64 aE, .bool bM, .string bS, .int .i64 bE] 27) (.cells #[.bool dM, .string dS, .int .i64 dE, .bool fM, .string fS, .int .i64 fE] 27) (.cells #[.int .i64 (p)] 3) (.cells #[.bool false, .string ⟨#[]⟩, .int .i64 0, .bool false, .string ⟨#[]⟩, .int .i64 0] 27)
  generalize (((w.alloc (.cells #[.bool aM, .string aS, .int .i64 aE, .bool bM, .string bS, .int .i64 bE] 27)).alloc (.cells #[.bool dM, .string dS, .int .i64 dE, .bool fM, .string fS, .int .i64 fE] 27)).alloc (.cells #[.int .i64 (p)] 3)).alloc (.cells #[.bool false, .string ⟨#[]⟩, .int .i64 0, .bool false, .string ⟨#[]⟩, .int .i64 0] 27) = w0 at *
  obtain ⟨c1_0, c1_1, c1_2, c1_3, c1_4, c1_5, _, _, _, _, _, _⟩ := X2.k6
  clear X1 X2 X3
  go_wp2_with fail
  clear c1_0 c1_1 c1_2 c1_3 c1_4 c1_5
  refine (cH.out _ (tab_keep HT.out hB)).mono ?_
  rintro e w1 ⟨rfl, hb⟩
  replace X4 := X4.later hb
  replace hB := nxt hB hb
  clear hb
  obtain ⟨c2_0, c2_1, c2_2, c2_3, c2_4, c2_5, c2_6, c2_7, c2_8, c2_9, c2_10, c2_11⟩ := X4.k6
  replace X4 := Bx.stores [.bool false, .string ⟨#[]⟩, .int .i64 0, .bool false, .string ⟨#[]⟩, .int .i64 0] 0 X4
  replace hB := stN (Nat.le_add_right _ 3) [.bool false, .string ⟨#[]⟩, .int .i64 0, .bool false, .string ⟨#[]⟩, .int .i64 0] 0 hB
  simp only [setN, Nat.reduceAdd] at  hB
  simp only [setN, putN, Nat.reduceAdd, List.setIfInBounds_toArray, List.set_cons_zero, List.set_cons_succ] at X4
  obtain ⟨c3_0, c3_1, c3_2, c3_3, c3_4, c3_5, _, _, _, _, _, _⟩ := X4.k6
  go_wp2_with fail
  clear c2_0 c2_1 c2_2 c2_3 c2_4 c2_5 c2_6 c2_7 c2_8 c2_9 c2_10 c2_11 c3_0 c3_1 c3_2 c3_3 c3_4 c3_5
  exact bodyPost_ret (v := .tuple #[.agg #[.bool false, .string ⟨#[]⟩, .int .i64 0, .bool false, .string ⟨#[]⟩, .int .i64 0], .int .i64 1]) (by simp [results, Tryz.results26, go_sem, X4.cel]) rfl ⟨rfl, hB⟩

set_option maxRecDepth 100000 in
set_option maxHeartbeats 1000000 in
theorem sDiv_some (aM bM dM fM xM yM kM lM mM nM k'M l'M m'M n'M : Bool) (aS bS dS fS xS yS kS lS mS nS k'S l'S m'S n'S : ByteArray) (aE bE dE fE xE yE kE lE mE nE k'E l'E m'E n'E : Int) (p : Int) (w : World) (hT : TabAt 0 Lib.deBruijn64tab w)
    (cH : Hid (∀ (W : World), TabAt 0 Lib.deBruijn64tab W → Calls Tryz.prog 37 #[.agg #[.bool dM, .string dS, .int .i64 dE, .bool fM, .string fS, .int .i64 fE], .agg #[.bool false, .string ⟨#[]⟩, .int .i64 0]] W fun r w' => r = .returned (.bool false) ∧ Below W.heap.size W w'))
    (c1 : Hid (∀ (g : Nat) (W : World), TabAt 0 Lib.deBruijn64tab W → Bx W g 3 #[.int .i64 (p)] → Calls Tryz.prog 76 #[.agg #[.bool aM, .string aS, .int .i64 aE, .bool bM, .string bS, .int .i64 bE], .agg #[.bool dM, .string dS, .int .i64 dE, .bool fM, .string fS, .int .i64 fE], .func (.func 89) #[] #[.pointer (some ⟨g, 0, none⟩)]] W fun r w' => r = .returned (.agg #[.bool kM, .string kS, .int .i64 kE, .bool lM, .string lS, .int .i64 lE, .bool mM, .string mS, .int .i64 mE, .bool nM, .string nS, .int .i64 nE]) ∧ Below W.heap.size W w'))
    (c2 : Hid (∀ (g : Nat) (W : World), TabAt 0 Lib.deBruijn64tab W → Bx W g 3 #[.int .i64 (p)] → Calls Tryz.prog 76 #[.agg #[.bool aM, .string aS, .int .i64 aE, .bool bM, .string bS, .int .i64 bE], .agg #[.bool dM, .string dS, .int .i64 dE, .bool fM, .string fS, .int .i64 fE], .func (.func 90) #[] #[.pointer (some ⟨g, 0, none⟩)]] W fun r w' => r = .returned (.agg #[.bool k'M, .string k'S, .int .i64 k'E, .bool l'M, .string l'S, .int .i64 l'E, .bool m'M, .string m'S, .int .i64 m'E, .bool n'M, .string n'S, .int .i64 n'E]) ∧ Below W.heap.size W w'))
    (c3 : Hid (∀ (g : Nat) (W : World), TabAt 0 Lib.deBruijn64tab W → Bx W g 91 #[.bool kM, .string kS, .int .i64 kE, .bool lM, .string lS, .int .i64 lE, .bool mM, .string mS, .int .i64 mE, .bool nM, .string nS, .int .i64 nE] → Calls Tryz.prog 91 #[.slice (some ⟨g, 0, none⟩) 4 4] W fun r w' => r = .returned (.agg #[.bool xM, .string xS, .int .i64 xE]) ∧ Below W.heap.size W w'))
    (c4 : Hid (∀ (g : Nat) (W : World), TabAt 0 Lib.deBruijn64tab W → Bx W g 91 #[.bool k'M, .string k'S, .int .i64 k'E, .bool l'M, .string l'S, .int .i64 l'E, .bool m'M, .string m'S, .int .i64 m'E, .bool n'M, .string n'S, .int .i64 n'E] → Calls Tryz.prog 92 #[.slice (some ⟨g, 0, none⟩) 4 4] W fun r w' => r = .returned (.agg #[.bool yM, .string yS, .int .i64 yE]) ∧ Below W.heap.size W w'))
    :
    Calls Tryz.prog 26 #[.agg #[.bool aM, .string aS, .int .i64 aE, .bool bM, .string bS, .int .i64 bE], .agg #[.bool dM, .string dS, .int .i64 dE, .bool fM, .string fS, .int .i64 fE], .int .i64 (p)] w fun r w' => r = .returned (.tuple #[.agg #[.bool xM, .string xS, .int .i64 xE, .bool yM, .string yS, .int .i64 yE], .int .i64 0]) ∧ Below w.heap.size w w' := by
  have HT := Lib.hid hT
  clear hT
  have hmf : ∀ (fn : Fn) (first cap : Array Value) (w : World), (Instr.makeFunc fn first cap).run Tryz.prog w = .ok (.func fn first cap) w := fun _ _ _ _ => rfl
  go_enter Tryz.func26, Tryz.ntmps26
  go_upto_region 1 with (fail)
  have X1 := (((Bx.new w 27 #[.bool aM, .string aS, .int .i64 aE, .bool bM, .string bS, .int .i64 bE]).alloc (.cells #[.bool dM, .string dS, .int .i64 dE, .bool fM, .string fS, .int .i64 fE] 27)).alloc (.cells #[.int .i64 (p)] 3)).alloc (.cells #[.bool false, .string ⟨#[]⟩, .int .i64 0, .bool false, .string ⟨#[]⟩, .int .i64 0] 27)
  have X2 := ((Bx.at1 w (.cells #[.bool aM, .string aS, .int .i64 aE, .bool bM, .string bS, .int .i64 bE] 27) 27 #[.bool dM, .string dS, .int .i64 dE, .bool fM, .string fS, .int .i64 fE]).alloc (.cells #[.int .i64 (p)] 3)).alloc (.cells #[.bool false, .string ⟨#[]⟩, .int .i64 0, .bool false, .string ⟨#[]⟩, .int .i64 0] 27)
  have X3 := (Bx.at2 w (.cells #[.bool aM, .string aS, .int .i64 aE, .bool bM, .string bS, .int .i64 bE] 27) (.cells #[.bool dM, .string dS, .int .i64 dE, .bool fM, .string fS, .int .i64 fE] 27) 3 #[.int .i64 (p)]).alloc (.cells #[.bool false, .string ⟨#[]⟩, .int .i64 0, .bool false, .string ⟨#[]⟩, .int .i64 0] 27)
  have X4 := Bx.at3 w (.cells #[.bool aM, .string aS, .int .i64 aE, .bool bM, .string bS, .int .i64 bE] 27) (.cells #[.bool dM, .string dS, .int .i64 dE, .bool fM, .string fS, .int .i64 fE] 27) (.cells #[.int .i64 (p)] 3) 27 #[.bool false, .string ⟨#[]⟩, .int .i64 0, .bool false, .string ⟨#[]⟩, .int .i64 0]
  have hB := b4 w (.cells #[.bool aM, .string aS, .int .i64 aE, .bool bM, .string bS, .int .i64 bE] 27) (.cells #[.bool dM, .string dS, .int .i64 dE, .bool fM, .string fS, .int .i64 fE] 27) (.cells #[.int .i64 (p)] 3) (.cells #[.bool false, .string ⟨#[]⟩, .int .i64 0, .bool false, .string ⟨#[]⟩, .int .i64 0] 27)
  generalize (((w.alloc (.cells #[.bool aM, .string aS, .int .i64 aE, .bool bM, .string bS, .int .i64 bE] 27)).alloc (.cells #[.bool dM, .string dS, .int .i64 dE, .bool fM, .string fS, .int .i64 fE] 27)).alloc (.cells #[.int .i64 (p)] 3)).alloc (.cells #[.bool false, .string ⟨#[]⟩, .int .i64 0, .bool false, .string ⟨#[]⟩, .int .i64 0] 27) = w0 at *
  obtain ⟨c1_0, c1_1, c1_2, c1_3, c1_4, c1_5, _, _, _, _, _, _⟩ := X2.k6
  go_wp2_with fail
  clear c1_0 c1_1 c1_2 c1_3 c1_4 c1_5
  refine (cH.out _ (tab_keep HT.out hB)).mono ?_
  rintro e w1 ⟨rfl, hb⟩
  replace X1 := X1.later hb
  replace X2 := X2.later hb
  replace X3 := X3.later hb
  replace X4 := X4.later hb
  replace hB := nxt hB hb
  clear hb
  obtain ⟨c2_0, c2_1, c2_2, c2_3, c2_4, c2_5, _, _, _, _, _, _⟩ := X1.k6
  obtain ⟨c3_0, c3_1, c3_2, c3_3, c3_4, c3_5, _, _, _, _, _, _⟩ := X2.k6
  go_wp2_with fail
  clear c2_0 c2_1 c2_2 c2_3 c2_4 c2_5 c3_0 c3_1 c3_2 c3_3 c3_4 c3_5
  refine (c1.out _ _ (tab_keep HT.out hB) X3).mono ?_
  rintro e w2 ⟨rfl, hb⟩
  replace X1 := X1.later hb
  replace X2 := X2.later hb
  replace X3 := X3.later hb
  replace X4 := X4.later hb
  replace hB := nxt hB hb
  clear hb
  have N5 := Lib.hid (Nat.ne_of_lt X4.lt)
  have X5 := Bx.new w2 91 #[.bool kM, .string kS, .int .i64 kE, .bool lM, .string lS, .int .i64 lE, .bool mM, .string mS, .int .i64 mE, .bool nM, .string nS, .int .i64 nE]
  replace X1 := Bx.alloc X1 (.cells #[.bool kM, .string kS, .int .i64 kE, .bool lM, .string lS, .int .i64 lE, .bool mM, .string mS, .int .i64 mE, .bool nM, .string nS, .int .i64 nE] 91)
  replace X2 := Bx.alloc X2 (.cells #[.bool kM, .string kS, .int .i64 kE, .bool lM, .string lS, .int .i64 lE, .bool mM, .string mS, .int .i64 mE, .bool nM, .string nS, .int .i64 nE] 91)
  replace X3 := Bx.alloc X3 (.cells #[.bool kM, .string kS, .int .i64 kE, .bool lM, .string lS, .int .i64 lE, .bool mM, .string mS, .int .i64 mE, .bool nM, .string nS, .int .i64 nE] 91)
  replace X4 := Bx.alloc X4 (.cells #[.bool kM, .string kS, .int .i64 kE, .bool lM, .string lS, .int .i64 lE, .bool mM, .string mS, .int .i64 mE, .bool nM, .string nS, .int .i64 nE] 91)
  replace hB := nxtA hB (.cells #[.bool kM, .string kS, .int .i64 kE, .bool lM, .string lS, .int .i64 lE, .bool mM, .string mS, .int .i64 mE, .bool nM, .string nS, .int .i64 nE] 91)
  obtain ⟨c6_0, c6_1, c6_2, c6_3, c6_4, c6_5, _, _, _, _, _, _⟩ := X1.k6
  obtain ⟨c7_0, c7_1, c7_2, c7_3, c7_4, c7_5, _, _, _, _, _, _⟩ := X2.k6
  clear X1 X2
  go_wp2_with fail
  clear c6_0 c6_1 c6_2 c6_3 c6_4 c6_5 c7_0 c7_1 c7_2 c7_3 c7_4 c7_5
  refine (c2.out _ _ (tab_keep HT.out hB) X3).mono ?_
  rintro e w3 ⟨rfl, hb⟩
  replace X3 := X3.later hb
  replace X4 := X4.later hb
  replace X5 := X5.later hb
  replace hB := nxt hB hb
  clear hb
  generalize w2.heap.size = g8_ at *
  have N10 := Lib.hid (Nat.ne_of_lt X4.lt)
  have X6 := Bx.new w3 91 #[.bool k'M, .string k'S, .int .i64 k'E, .bool l'M, .string l'S, .int .i64 l'E, .bool m'M, .string m'S, .int .i64 m'E, .bool n'M, .string n'S, .int .i64 n'E]
  replace X3 := Bx.alloc X3 (.cells #[.bool k'M, .string k'S, .int .i64 k'E, .bool l'M, .string l'S, .int .i64 l'E, .bool m'M, .string m'S, .int .i64 m'E, .bool n'M, .string n'S, .int .i64 n'E] 91)
  replace X4 := Bx.alloc X4 (.cells #[.bool k'M, .string k'S, .int .i64 k'E, .bool l'M, .string l'S, .int .i64 l'E, .bool m'M, .string m'S, .int .i64 m'E, .bool n'M, .string n'S, .int .i64 n'E] 91)
  replace X5 := Bx.alloc X5 (.cells #[.bool k'M, .string k'S, .int .i64 k'E, .bool l'M, .string l'S, .int .i64 l'E, .bool m'M, .string m'S, .int .i64 m'E, .bool n'M, .string n'S, .int .i64 n'E] 91)
  replace hB := nxtA hB (.cells #[.bool k'M, .string k'S, .int .i64 k'E, .bool l'M, .string l'S, .int .i64 l'E, .bool m'M, .string m'S, .int .i64 m'E, .bool n'M, .string n'S, .int .i64 n'E] 91)
  clear X3
  go_upto_region 5 with (fail)
  generalize w3.alloc (.cells #[.bool k'M, .string k'S, .int .i64 k'E, .bool l'M, .string l'S, .int .i64 l'E, .bool m'M, .string m'S, .int .i64 m'E, .bool n'M, .string n'S, .int .i64 n'E] 91) = w4 at *
  generalize w3.heap.size = g11_ at *
  refine wp_region_k [22, 23, 24, 25, 26] [.eq (.slice (some ⟨g8_, 0, none⟩) 4 4), .eq (.agg #[.bool xM, .string xS, .int .i64 xE]), .eq (.slice (some ⟨g11_, 0, none⟩) 4 4), .eq (.agg #[.bool yM, .string yS, .int .i64 yE]), .eq (.agg #[.bool xM, .string xS, .int .i64 xE, .bool yM, .string yS, .int .i64 yE])] 27 (by kernel_rfl) (by exact fun _ _ _ _ _ h => h) (by kernel_rfl) (by rfl) ?hop ?htail
  case hop =>
    intro A hA
    have hN : A.tmps.size = 27 := by rw [hA]; rfl
    have q8 : A.tmps.getD 8 undef = .pointer (some ⟨g8_, 0, none⟩) := by rw [hA]; rfl
    have q9 : A.tmps.getD 9 undef = .pointer (some ⟨g11_, 0, none⟩) := by rw [hA]; rfl
    clear hA
    refine ⟨?_, ?_, ?_, ?_, ?_, trivial⟩
    · refine kok hN fun u W ev ec ef E B hG hf => ?_
      exact k_val _ rfl rfl hG (by simp [go_sem, B 8 rfl rfl q8]) rfl
    · refine kok hN fun u W ev ec ef E B hG hf => ?_
      exact k_cl rfl rfl (by simp [go_sem, ef, E 22 0 rfl rfl (hf 0 rfl)]) (c3.out _ W (tab_keep HT.out (nxt hB hG)) (X5.later hG)) hG (fun _ _ => rfl)
    · refine kok hN fun u W ev ec ef E B hG hf => ?_
      exact k_val _ rfl rfl hG (by simp [go_sem, B 9 rfl rfl q9]) rfl
    · refine kok hN fun u W ev ec ef E B hG hf => ?_
      exact k_cl rfl rfl (by simp [go_sem, ef, E 24 2 rfl rfl (hf 2 rfl)]) (c4.out _ W (tab_keep HT.out (nxt hB hG)) (X6.later hG)) hG (fun _ _ => rfl)
    · refine kok hN fun u W ev ec ef E B hG hf => ?_
      exact k_val _ rfl rfl hG (by simp [go_sem, E 23 1 rfl rfl (hf 1 rfl), E 25 3 rfl rfl (hf 3 rfl)]) rfl
  case htail =>
    intro u w5 hG hP hD
    have f26 : u 4 = .agg #[.bool xM, .string xS, .int .i64 xE, .bool yM, .string yS, .int .i64 yE] := hP 4 (by decide)
    simp only [putAll, Act.put, List.setIfInBounds_toArray, List.set_cons_zero, List.set_cons_succ, List.length_cons, List.length_nil, Nat.reduceAdd, List.drop_succ_cons, List.drop_zero, f26]
    replace X4 := X4.later hG
    replace X5 := X5.later hG
    replace X6 := X6.later hG
    replace hB := nxt hB hG
    clear hP hD hG f26
    obtain ⟨c12_0, c12_1, c12_2, c12_3, c12_4, c12_5, c12_6, c12_7, c12_8, c12_9, c12_10, c12_11⟩ := X4.k6
    replace X5 := Bx.farN (Ne.symm N5.out) [.bool xM, .string xS, .int .i64 xE, .bool yM, .string yS, .int .i64 yE] 0 X5
    replace X6 := Bx.farN (Ne.symm N10.out) [.bool xM, .string xS, .int .i64 xE, .bool yM, .string yS, .int .i64 yE] 0 X6
    replace X4 := Bx.stores [.bool xM, .string xS, .int .i64 xE, .bool yM, .string yS, .int .i64 yE] 0 X4
    replace hB := stN (Nat.le_add_right _ 3) [.bool xM, .string xS, .int .i64 xE, .bool yM, .string yS, .int .i64 yE] 0 hB
    simp only [setN, Nat.reduceAdd] at X5 X6 hB
    simp only [setN, putN, Nat.reduceAdd, List.setIfInBounds_toArray, List.set_cons_zero, List.set_cons_succ] at X4
    obtain ⟨c13_0, c13_1, c13_2, c13_3, c13_4, c13_5, _, _, _, _, _, _⟩ := X4.k6
    clear X5 X6
    go_wp2_with fail
    clear c12_0 c12_1 c12_2 c12_3 c12_4 c12_5 c12_6 c12_7 c12_8 c12_9 c12_10 c12_11 c13_0 c13_1 c13_2 c13_3 c13_4 c13_5
    exact bodyPost_ret (v := .tuple #[.agg #[.bool xM, .string xS, .int .i64 xE, .bool yM, .string yS, .int .i64 yE], .int .i64 0]) (by simp [results, Tryz.results26, go_sem, X4.cel]) rfl ⟨rfl, hB⟩

end Go.Proofs.YtchfglbkiebfpaaGreatDoor

