/- The walks and plain laws beneath the statements. -/
import Derived.Test.YtchfglbkiebfpaaGreatDoorPX25
import Derived.Test.YtchfglbkiebfpaaGreatDoorPX26
import Derived.BigQuiet
import Derived.Deep.QuietTactic
import Derived.Test.YtchfglbkiebfpaaGreatDoorPX7
namespace Go.Proofs.YtchfglbkiebfpaaGreatDoor
open Go.RowKit

theorem dmin_of {x y : Dyadic} (h : x ≤ y) : dmin x y = x ∧ dmax x y = y := by unfold dmin dmax; constructor <;> grind

end Go.Proofs.YtchfglbkiebfpaaGreatDoor

namespace Go.Proofs.YtchfglbkiebfpaaGreatDoor
open Go.RowKit

theorem info_Num : (Tryz.prog.info? 25).map (fun i => (i.zero, i.size, i.bytes)) = some (some (.agg #[.bool false, .string ⟨#[]⟩, .int .i64 0]), 3, 32) := by kernel_rfl
theorem belB {B B' : Nat} {a w1 w2 : World} (h : Below B a w1) (h2 : Below B' w1 w2) (hle : B ≤ B') : Below B a w2 := h.trans (h2.mono hle)
/-- A span's ends, one behind the other. -/
def alt {α : Type} (f g : Nat → α) (j : Nat) : α := if j % 2 = 0 then f (j / 2) else g (j / 2)
theorem alt_two {α : Type} (f g : Nat → α) (k : Nat) : alt f g (2 * k) = f k ∧ alt f g (2 * k + 1) = g k := by
  unfold alt
  rw [if_pos (by omega), if_neg (by omega)]
  exact ⟨by congr 1; omega, by congr 1; omega⟩
/-- A number's cells. -/
def cel3 (bs : Nat → Bool) (ss : Nat → ByteArray) (es : Nat → Int) (j : Nat) : List Value := [.bool (bs j), .string (ss j), .int .i64 (es j)]
theorem cel3_one (bs : Nat → Bool) (ss : Nat → ByteArray) (es : Nat → Int) (j : Nat) (u : Value) (h : u ∈ cel3 bs ss es j) : u.oneCell' = true := by
  simp [cel3] at h
  rcases h with rfl | rfl | rfl <;> rfl
/-- A row of numbers, read. -/
theorem RdK.num {w : World} {A : Option Addr} {n : Nat} {bs : Nat → Bool} {ss : Nat → ByteArray} {es : Nat → Int} (h : RdK w A n 3 (cel3 bs ss es)) : RdN w A n bs ss es := fun h0 => by
  obtain ⟨b, off, rfl, hc⟩ := h h0
  exact ⟨b, off, rfl, fun j hj => ⟨hc j hj 0 (by decide), hc j hj 1 (by decide), hc j hj 2 (by decide)⟩⟩

theorem alt_nd {bs cs : Nat → Bool} {ss ts : Nat → ByteArray} {es fs : Nat → Int} {xs ys : Nat → Dyadic} (hx : ∀ j, ND (bs j) (ss j) (es j) (xs j)) (hy : ∀ j, ND (cs j) (ts j) (fs j) (ys j)) (j : Nat) : ND (alt bs cs j) (alt ss ts j) (alt es fs j) (alt xs ys j) := by
  unfold alt; split
  · exact hx _
  · exact hy _
theorem alt_db {L T0 : Nat} {xs ys : Nat → Dyadic} (hx : ∀ j, DB L T0 (xs j)) (hy : ∀ j, DB L T0 (ys j)) (j : Nat) : DB L T0 (alt xs ys j) := by
  unfold alt; split
  · exact hx _
  · exact hy _

set_option maxRecDepth 100000 in
set_option maxHeartbeats 1000000 in
theorem sHull_any (A : Option Addr) (n c : Nat) (bs cs : Nat → Bool) (ss ts : Nat → ByteArray) (es fs : Nat → Int) (xs ys : Nat → Dyadic) (w : World) (hn : n ≤ 400000) (hx : ∀ j, ND (bs j) (ss j) (es j) (xs j)) (hy : ∀ j, ND (cs j) (ts j) (fs j) (ys j)) (hr : RdS w A n bs ss es cs ts fs) (hT : TabAt 0 Lib.deBruijn64tab w) :
    Calls Tryz.prog 34 #[.slice A n c] w fun r w' => r = .returned (.agg #[.bool (neg (dm (firstD minB (alt xs ys) (2 * n)))), .string (mag (dm (firstD minB (alt xs ys) (2 * n)))), .int .i64 (de (firstD minB (alt xs ys) (2 * n))), .bool (neg (dm (firstD maxB (alt xs ys) (2 * n)))), .string (mag (dm (firstD maxB (alt xs ys) (2 * n)))), .int .i64 (de (firstD maxB (alt xs ys) (2 * n)))]) ∧ Below w.heap.size w w' := by
  have HX := Lib.hid hx
  have HY := Lib.hid hy
  have HT := Lib.hid hT
  clear hx hy hT
  go_enter Tryz.func34, Tryz.ntmps34
  have X1 := Bx.new w 27 #[.bool false, .string ⟨#[]⟩, .int .i64 0, .bool false, .string ⟨#[]⟩, .int .i64 0]
  have hB := b1 w (.cells #[.bool false, .string ⟨#[]⟩, .int .i64 0, .bool false, .string ⟨#[]⟩, .int .i64 0] 27)
  go_wp2_with fail
  have ho0 := OwnK.nil_ (w.alloc (.cells #[.bool false, .string ⟨#[]⟩, .int .i64 0, .bool false, .string ⟨#[]⟩, .int .i64 0] 27)) (w.heap.size + 1) 25 3 (cel3 (alt bs cs) (alt ss ts) (alt es fs))
  generalize w.alloc (.cells #[.bool false, .string ⟨#[]⟩, .int .i64 0, .bool false, .string ⟨#[]⟩, .int .i64 0] 27) = w0 at *
  go_loopw [3, 8] (fun v i wr => ∃ k : Nat, k ≤ n ∧ i = .int .i64 (k : Nat) ∧ OwnK wr (w.heap.size + 1) 25 3 v (2 * k) (cel3 (alt bs cs) (alt ss ts) (alt es fs)) ∧ Bx wr w.heap.size 27 #[.bool false, .string ⟨#[]⟩, .int .i64 0, .bool false, .string ⟨#[]⟩, .int .i64 0] ∧ Below w.heap.size w wr) (fun _ i _ => n - (intOf i).toNat)
  case atStart => exact ⟨0, Nat.zero_le _, rfl, ho0, X1, hB⟩
  case round =>
    obtain ⟨k, hk, rfl, ho, Y1, hB2⟩ := hrel
    by_cases hlt : k < n
    · obtain ⟨b, off, rfl, hc⟩ := hr (by omega)
      obtain ⟨c1, c2, c3, c4, c5, c6⟩ := hc k hlt
      have g1 := cell_later hB2 c1
      have g2 := cell_later hB2 c2
      have g3 := cell_later hB2 c3
      have g4 := cell_later hB2 c4
      have g5 := cell_later hB2 c5
      have g7 := cell_later hB2 c6
      clear hc hr c1 c2 c3 c4 c5 c6 X1 hB ho0
      have hlw := Y1.lt
      have hO := ho.below (b2 wr (.cells #[.bool (bs k), .string (ss k), .int .i64 (es k), .bool (cs k), .string (ts k), .int .i64 (fs k)] 27) (.cells #[.bool (bs k), .string (ss k), .int .i64 (es k), .bool (cs k), .string (ts k), .int .i64 (fs k)] 25))
      have ZR := Bx.at1 wr (.cells #[.bool (bs k), .string (ss k), .int .i64 (es k), .bool (cs k), .string (ts k), .int .i64 (fs k)] 27) 25 #[.bool (bs k), .string (ss k), .int .i64 (es k), .bool (cs k), .string (ts k), .int .i64 (fs k)]
      have Z3 := Bx.new wr 27 #[.bool (bs k), .string (ss k), .int .i64 (es k), .bool (cs k), .string (ts k), .int .i64 (fs k)]
      have Y2 := (Y1.alloc (.cells #[.bool (bs k), .string (ss k), .int .i64 (es k), .bool (cs k), .string (ts k), .int .i64 (fs k)] 27)).alloc (.cells #[.bool (bs k), .string (ss k), .int .i64 (es k), .bool (cs k), .string (ts k), .int .i64 (fs k)] 25)
      have hB3 := nxtA (nxtA hB2 (.cells #[.bool (bs k), .string (ss k), .int .i64 (es k), .bool (cs k), .string (ts k), .int .i64 (fs k)] 27)) (.cells #[.bool (bs k), .string (ss k), .int .i64 (es k), .bool (cs k), .string (ts k), .int .i64 (fs k)] 25)
      obtain ⟨r1, r2, r3, r4, r5, r6, _, _, _, _, _, _⟩ := Z3.six
      have HO := Lib.hid (And.intro hO (And.intro Y2 hB3))
      have HN := Lib.hid (show ∀ j, j < 2 → ∀ i, i < 3 → ((wr.alloc (.cells #[.bool (bs k), .string (ss k), .int .i64 (es k), .bool (cs k), .string (ts k), .int .i64 (fs k)] 27)).alloc (.cells #[.bool (bs k), .string (ss k), .int .i64 (es k), .bool (cs k), .string (ts k), .int .i64 (fs k)] 25)).cell? ⟨wr.heap.size + 1, 0 + j * 3 + i, none⟩ = (cel3 (fun j => alt bs cs (2 * k + j)) (fun j => alt ss ts (2 * k + j)) (fun j => alt es fs (2 * k + j)) j)[i]? from fun j hj i hi => by
        have hj' : j = 0 ∨ j = 1 := by omega
        have hi' : i = 0 ∨ i = 1 ∨ i = 2 := by omega
        rcases hj' with rfl | rfl <;> rcases hi' with rfl | rfl | rfl <;> simp [ZR.cel, cel3, alt_two])
      have HS := Lib.hid (show w.heap.size + 1 ≤ ((wr.alloc (.cells #[.bool (bs k), .string (ss k), .int .i64 (es k), .bool (cs k), .string (ts k), .int .i64 (fs k)] 27)).alloc (.cells #[.bool (bs k), .string (ss k), .int .i64 (es k), .bool (cs k), .string (ts k), .int .i64 (fs k)] 25)).heap.size by simp; omega)
      have HM := Lib.hid (show 2 * k + 2 ≤ 9223372036854775807 ∧ (2 * k + 2) * 32 ≤ 140737488355328 by omega)
      clear hO ZR Y2 hB3 Y1 hB2 ho hlw Z3
      go_wp2_with (at_builtin; refine wpList_appendK rfl (.tmp 12) (.tmp 17) _ rfl (w.heap.size + 1) 25 _ 3 32 Tryz.underlying55 info_Num rfl (by decide) _ (2 * k) (cel3 (alt bs cs) (alt ss ts) (alt es fs)) rfl HO.out.1 ⟨wr.heap.size + 1, 0, none⟩ 2 2 (cel3 (fun j => alt bs cs (2 * k + j)) (fun j => alt ss ts (2 * k + j)) (fun j => alt es fs (2 * k + j))) (fun _ => rfl) (fun _ => rfl) (cel3_one _ _ _) rfl rfl HN.out HM.out.1 HM.out.2 HS.out ?_; intro v' w5 ho' hb5)
      obtain ⟨_, Y2, hB3⟩ := HO.out
      have ho2 : OwnK w5 (w.heap.size + 1) 25 3 v' (2 * (k + 1)) (cel3 (alt bs cs) (alt ss ts) (alt es fs)) := ho'.congr fun j hj => by
        split
        · rfl
        · rename_i h
          unfold cel3
          dsimp only
          rw [show 2 * k + (j - 2 * k) = j by omega]
      have Y3 := Y2.base hb5 (Nat.lt_succ_self _)
      have hB4 := belB hB3 hb5 (Nat.le_succ _)
      clear Y2 hB3 HO HN ho' hb5 g1 g2 g3 g4 g5 g7 r1 r2 r3 r4 r5 r6
      have HF := Lib.hid (And.intro ho2 (And.intro Y3 hB4))
      clear ho2 Y3 hB4
      go_wp2
      exact ⟨⟨k + 1, hlt, by go_num, HF.out.1, HF.out.2.1, HF.out.2.2⟩, by simp [intOf]; omega⟩
    · obtain rfl : k = n := by omega
      obtain ⟨A', c', rfl, hnc, hrd, hba, hno⟩ := OwnK.rd (k := 3) (fun _ => rfl) ho
      have cO := Lib.hid (sOf_any A' (2 * k) c' _ _ _ _ wr (by omega) (alt_nd HX.out HY.out) hrd.num (tab_keep HT.out hB2))
      obtain ⟨p1, p2, p3, p4, p5, p6, p7, p8, p9, p10, p11, p12⟩ := Y1.six
      have HY1 := Lib.hid (And.intro Y1 hB2)
      clear Y1 X1 hB hB2 ho0 ho hrd hba hno
      go_wp2_with fail
      refine cO.out.mono ?_
      rintro e w6 ⟨rfl, hb⟩
      have Z1 := HY1.out.1.later hb
      have hB3 := nxt HY1.out.2 hb
      clear hb p1 p2 p3 p4 p5 p6 p7 p8 p9 p10 p11 p12
      obtain ⟨p1, p2, p3, p4, p5, p6, p7, p8, p9, p10, p11, p12⟩ := Z1.six
      have HY2 := Lib.hid (And.intro Z1 hB3)
      clear Z1 hB3
      go_wp2_with fail
      exact bodyPost_ret (v := .agg #[.bool (neg (dm (firstD minB (alt xs ys) (2 * k)))), .string (mag (dm (firstD minB (alt xs ys) (2 * k)))), .int .i64 (de (firstD minB (alt xs ys) (2 * k))), .bool (neg (dm (firstD maxB (alt xs ys) (2 * k)))), .string (mag (dm (firstD maxB (alt xs ys) (2 * k)))), .int .i64 (de (firstD maxB (alt xs ys) (2 * k)))]) (by simp [results, Tryz.results34, go_sem, (HY2.out.1.set6 _ _ _ _ _ _).cel]) rfl ⟨rfl, st6 HY2.out.2 (Nat.le_refl _) _ _ _ _ _ _⟩

set_option maxRecDepth 100000 in
set_option maxHeartbeats 1000000 in
theorem rsHull_any (A : Option Addr) (n c : Nat) (bs cs : Nat → Bool) (ss ts : Nat → ByteArray) (es fs : Nat → Int) (xs ys : Nat → Dyadic) (L0 T0 : Nat) (w : World) (hn : n ≤ 400000) (hx : ∀ j, ND (bs j) (ss j) (es j) (xs j)) (hy : ∀ j, ND (cs j) (ts j) (fs j) (ys j)) (hr : RdS w A n bs ss es cs ts fs) (hdx : ∀ j, DB L0 T0 (xs j)) (hdy : ∀ j, DB L0 T0 (ys j)) (hLT : L0 + T0 ≤ 3000000) :
    Calls Tryz.prog 35 #[.slice A n c] w fun r w' => r = .returned (.agg #[.bool (neg (dm (firstD minB (alt xs ys) (2 * n)))), .string (mag (dm (firstD minB (alt xs ys) (2 * n)))), .int .i64 (de (firstD minB (alt xs ys) (2 * n))), .bool (neg (dm (firstD maxB (alt xs ys) (2 * n)))), .string (mag (dm (firstD maxB (alt xs ys) (2 * n)))), .int .i64 (de (firstD maxB (alt xs ys) (2 * n)))]) ∧ Below w.heap.size w w' := by
  have HX := Lib.hid hx
  have HY := Lib.hid hy
  have HDX := Lib.hid hdx
  have HDY := Lib.hid hdy
  clear hx hy hdx hdy
  go_enter Tryz.func35, Tryz.ntmps35
  have X1 := Bx.new w 27 #[.bool false, .string ⟨#[]⟩, .int .i64 0, .bool false, .string ⟨#[]⟩, .int .i64 0]
  have hB := b1 w (.cells #[.bool false, .string ⟨#[]⟩, .int .i64 0, .bool false, .string ⟨#[]⟩, .int .i64 0] 27)
  go_wp2_with fail
  have ho0 := OwnK.nil_ (w.alloc (.cells #[.bool false, .string ⟨#[]⟩, .int .i64 0, .bool false, .string ⟨#[]⟩, .int .i64 0] 27)) (w.heap.size + 1) 25 3 (cel3 (alt bs cs) (alt ss ts) (alt es fs))
  generalize w.alloc (.cells #[.bool false, .string ⟨#[]⟩, .int .i64 0, .bool false, .string ⟨#[]⟩, .int .i64 0] 27) = w0 at *
  go_loopw [3, 4] (fun v i wr => ∃ k : Nat, k ≤ n ∧ i = .int .i64 (k : Nat) ∧ OwnK wr (w.heap.size + 1) 25 3 v (2 * k) (cel3 (alt bs cs) (alt ss ts) (alt es fs)) ∧ Bx wr w.heap.size 27 #[.bool false, .string ⟨#[]⟩, .int .i64 0, .bool false, .string ⟨#[]⟩, .int .i64 0] ∧ Below w.heap.size w wr) (fun _ i _ => n - (intOf i).toNat)
  case atStart => exact ⟨0, Nat.zero_le _, rfl, ho0, X1, hB⟩
  case round =>
    obtain ⟨k, hk, rfl, ho, Y1, hB2⟩ := hrel
    by_cases hlt : k < n
    · obtain ⟨b, off, rfl, hc⟩ := hr (by omega)
      obtain ⟨c1, c2, c3, c4, c5, c6⟩ := hc k hlt
      have g1 := cell_later hB2 c1
      have g2 := cell_later hB2 c2
      have g3 := cell_later hB2 c3
      have g4 := cell_later hB2 c4
      have g5 := cell_later hB2 c5
      have g7 := cell_later hB2 c6
      clear hc hr c1 c2 c3 c4 c5 c6 X1 hB ho0
      have hlw := Y1.lt
      have hki : (k : Int) < (n : Int) := by omega
      have hkj : (0 : Int) ≤ (k : Int) := by omega
      go_upto_region 5 with (fail)
      refine wp_region_kl [11, 12, 13, 14, 15, 16, 17, 18, 19, 20, 21, 22] [.eq (u3), .eq (.slice (some ⟨b, off, none⟩) n c), .eq (.int .i64 (k : Nat)), .eq (.pointer (some ⟨b, off + k * 6, none⟩)), .eq (.pointer (some ⟨b, off + k * 6, none⟩)), .eq (.agg #[.bool (bs k), .string (ss k), .int .i64 (es k)]), .eq (.slice (some ⟨b, off, none⟩) n c), .eq (.int .i64 (k : Nat)), .eq (.pointer (some ⟨b, off + k * 6, none⟩)), .eq (.pointer (some ⟨b, off + k * 6 + 3, none⟩)), .eq (.agg #[.bool (cs k), .string (ts k), .int .i64 (fs k)]), .sli wr.heap.size 25 2 #[.bool (bs k), .string (ss k), .int .i64 (es k), .bool (cs k), .string (ts k), .int .i64 (fs k)]] [0] 26 (by kernel_rfl) (by exact fun _ _ _ _ _ h => h) (by kernel_rfl) (by rfl) ?hop ?hlate ?htail
      case hop =>
        intro A hA
        have hN : A.tmps.size = 26 := by rw [hA]; rfl
        have q3 : A.tmps.getD 3 undef = u3 := by rw [hA]; rfl
        have q0 : A.tmps.getD 0 undef = .slice (some ⟨b, off, none⟩) n c := by rw [hA]; rfl
        have q4 : A.tmps.getD 4 undef = .int .i64 (k : Nat) := by rw [hA]; rfl
        clear hA
        refine ⟨?_, ?_, ?_, ?_, ?_, ?_, ?_, ?_, ?_, ?_, ?_, ?_, trivial⟩
        · refine kok hN fun u W ev ec ef E B hG hf => ?_
          exact k_val _ rfl rfl hG (by simp [go_sem, B 3 rfl rfl q3]) rfl
        · refine kok hN fun u W ev ec ef E B hG hf => ?_
          exact k_val _ rfl rfl hG (by simp [go_sem, B 0 rfl rfl q0]) rfl
        · refine kok hN fun u W ev ec ef E B hG hf => ?_
          exact k_val _ rfl rfl hG (by simp [go_sem, B 4 rfl rfl q4]) rfl
        · refine kok hN fun u W ev ec ef E B hG hf => ?_
          exact k_val _ rfl rfl hG (by simp [go_sem, E 12 1 rfl rfl (hf 1 rfl), E 13 2 rfl rfl (hf 2 rfl), hki, hkj]) rfl
        · refine kok hN fun u W ev ec ef E B hG hf => ?_
          exact k_val _ rfl rfl hG (by simp [go_sem, E 14 3 rfl rfl (hf 3 rfl)]) rfl
        · refine kok hN fun u W ev ec ef E B hG hf => ?_
          exact k_val _ rfl rfl hG (by simp [go_sem, E 15 4 rfl rfl (hf 4 rfl), cell_later hG g1, cell_later hG g2, cell_later hG g3]) rfl
        · refine kok hN fun u W ev ec ef E B hG hf => ?_
          exact k_val _ rfl rfl hG (by simp [go_sem, B 0 rfl rfl q0]) rfl
        · refine kok hN fun u W ev ec ef E B hG hf => ?_
          exact k_val _ rfl rfl hG (by simp [go_sem, B 4 rfl rfl q4]) rfl
        · refine kok hN fun u W ev ec ef E B hG hf => ?_
          exact k_val _ rfl rfl hG (by simp [go_sem, E 17 6 rfl rfl (hf 6 rfl), E 18 7 rfl rfl (hf 7 rfl), hki, hkj]) rfl
        · refine kok hN fun u W ev ec ef E B hG hf => ?_
          exact k_val _ rfl rfl hG (by simp [go_sem, E 19 8 rfl rfl (hf 8 rfl)]) rfl
        · refine kok hN fun u W ev ec ef E B hG hf => ?_
          exact k_val _ rfl rfl hG (by simp [go_sem, E 20 9 rfl rfl (hf 9 rfl), cell_later hG g4, cell_later hG g5, cell_later hG g7]) rfl
        · refine kok hN fun u W ev ec ef E B hG hf => ?_
          exact k_new _ _ rfl (by simp [go_sem, E 16 5 rfl rfl (hf 5 rfl), E 21 10 rfl rfl (hf 10 rfl)]) (nxtA hG _) ⟨_, rfl, below_le hG, Bx.new _ _ _⟩ rfl
      case hlate =>
        intro A hA
        have hN : A.tmps.size = 26 := by rw [hA]; rfl
        have q3 : A.tmps.getD 3 undef = u3 := by rw [hA]; rfl
        clear hA
        refine ⟨⟨rfl, ?_⟩, trivial, trivial, trivial, trivial, trivial, trivial, trivial, trivial, trivial, trivial, trivial, trivial⟩
        · intro u W hf
          have e3 := frm_base (ds := [11, 12, 13, 14, 15, 16, 17, 18, 19, 20, 21, 22]) (u := u) (k := 3) (by rw [hN]; decide) rfl q3
          generalize (frm A [11, 12, 13, 14, 15, 16, 17, 18, 19, 20, 21, 22] u).eval = ev at *
          exact ⟨_, rfl, fun w => (by simp [go_sem, e3]), rfl⟩
      case htail =>
      intro u wr2 hG hP hD
      have f11 : u 0 = u3 := hP 0 (by decide)
      obtain ⟨g22, f22, hb22, ZR⟩ := hP 11 (by decide)
      simp only [putAll, Act.put, List.setIfInBounds_toArray, List.set_cons_zero, List.set_cons_succ, List.length_cons, List.length_nil, Nat.reduceAdd, List.drop_succ_cons, List.drop_zero, f11, f22]
      have hO := ho.below hG
      have Y2 := Y1.later hG
      have hB3 := nxt hB2 hG
      clear hP hD f11 f22
      have HO := Lib.hid (And.intro hO (And.intro Y2 hB3))
      have HN := Lib.hid (show ∀ j, j < 2 → ∀ i, i < 3 → (wr2).cell? ⟨g22, 0 + j * 3 + i, none⟩ = (cel3 (fun j => alt bs cs (2 * k + j)) (fun j => alt ss ts (2 * k + j)) (fun j => alt es fs (2 * k + j)) j)[i]? from fun j hj i hi => by
        have hj' : j = 0 ∨ j = 1 := by omega
        have hi' : i = 0 ∨ i = 1 ∨ i = 2 := by omega
        rcases hj' with rfl | rfl <;> rcases hi' with rfl | rfl | rfl <;> simp [ZR.cel, cel3, alt_two])
      have HS := Lib.hid (show w.heap.size + 1 ≤ (wr2).heap.size by have := hG.size; omega)
      have HM := Lib.hid (show 2 * k + 2 ≤ 9223372036854775807 ∧ (2 * k + 2) * 32 ≤ 140737488355328 by omega)
      clear hO ZR Y2 hB3 Y1 hB2 ho hlw
      go_wp2_with (at_builtin; refine wpList_appendK rfl (.tmp 11) (.tmp 22) _ rfl (w.heap.size + 1) 25 _ 3 32 Tryz.underlying55 info_Num rfl (by decide) _ (2 * k) (cel3 (alt bs cs) (alt ss ts) (alt es fs)) rfl HO.out.1 ⟨g22, 0, none⟩ 2 2 (cel3 (fun j => alt bs cs (2 * k + j)) (fun j => alt ss ts (2 * k + j)) (fun j => alt es fs (2 * k + j))) (fun _ => rfl) (fun _ => rfl) (cel3_one _ _ _) rfl rfl HN.out HM.out.1 HM.out.2 HS.out ?_; intro v' w5 ho' hb5)
      obtain ⟨_, Y2, hB3⟩ := HO.out
      have ho2 : OwnK w5 (w.heap.size + 1) 25 3 v' (2 * (k + 1)) (cel3 (alt bs cs) (alt ss ts) (alt es fs)) := ho'.congr fun j hj => by
        split
        · rfl
        · rename_i h
          unfold cel3
          dsimp only
          rw [show 2 * k + (j - 2 * k) = j by omega]
      have Y3 := Y2.base hb5 (Nat.lt_succ_self _)
      have hB4 := belB hB3 hb5 (Nat.le_succ _)
      clear Y2 hB3 HO HN ho' hb5 g1 g2 g3 g4 g5 g7
      have HF := Lib.hid (And.intro ho2 (And.intro Y3 hB4))
      clear ho2 Y3 hB4
      go_wp2
      exact ⟨⟨k + 1, hlt, by go_num, HF.out.1, HF.out.2.1, HF.out.2.2⟩, by simp [intOf]; omega⟩
    · obtain rfl : k = n := by omega
      obtain ⟨A', c', rfl, hnc, hrd, hba, hno⟩ := OwnK.rd (k := 3) (fun _ => rfl) ho
      have cO := Lib.hid (rsOf_any A' (2 * k) c' _ _ _ _ L0 T0 wr (by omega) (alt_nd HX.out HY.out) (alt_db HDX.out HDY.out) hLT hrd.num)
      obtain ⟨p1, p2, p3, p4, p5, p6, p7, p8, p9, p10, p11, p12⟩ := Y1.six
      have HY1 := Lib.hid (And.intro Y1 hB2)
      clear Y1 X1 hB hB2 ho0 ho hrd hba hno
      go_wp2_with fail
      refine cO.out.mono ?_
      rintro e w6 ⟨rfl, hb⟩
      have Z1 := HY1.out.1.later hb
      have hB3 := nxt HY1.out.2 hb
      clear hb p1 p2 p3 p4 p5 p6 p7 p8 p9 p10 p11 p12
      obtain ⟨p1, p2, p3, p4, p5, p6, p7, p8, p9, p10, p11, p12⟩ := Z1.six
      have HY2 := Lib.hid (And.intro Z1 hB3)
      clear Z1 hB3
      go_wp2_with fail
      exact bodyPost_ret (v := .agg #[.bool (neg (dm (firstD minB (alt xs ys) (2 * k)))), .string (mag (dm (firstD minB (alt xs ys) (2 * k)))), .int .i64 (de (firstD minB (alt xs ys) (2 * k))), .bool (neg (dm (firstD maxB (alt xs ys) (2 * k)))), .string (mag (dm (firstD maxB (alt xs ys) (2 * k)))), .int .i64 (de (firstD maxB (alt xs ys) (2 * k)))]) (by simp [results, Tryz.results35, go_sem, (HY2.out.1.set6 _ _ _ _ _ _).cel]) rfl ⟨rfl, st6 HY2.out.2 (Nat.le_refl _) _ _ _ _ _ _⟩

end Go.Proofs.YtchfglbkiebfpaaGreatDoor

namespace Go.Proofs.YtchfglbkiebfpaaGreatDoor
open Go.RowKit

set_option maxRecDepth 100000 in
set_option maxHeartbeats 1000000 in
theorem sDivC1 (aM bM xM yM : Bool) (aS bS xS yS : ByteArray) (aE bE xE yE : Int) (p er : Int) (gp : Nat) (w : World) (hP : Bx w gp 3 #[.int .i64 (p)]) (hT : TabAt 0 Lib.deBruijn64tab w)
    (cQ : Hid (∀ (W : World), TabAt 0 Lib.deBruijn64tab W → Calls Tryz.prog 23 #[.agg #[.bool aM, .string aS, .int .i64 aE], .agg #[.bool bM, .string bS, .int .i64 bE], .int .i64 (p)] W fun r w' => r = .returned (.tuple #[.agg #[.bool xM, .string xS, .int .i64 xE, .bool yM, .string yS, .int .i64 yE], .int .i64 (er)]) ∧ Below W.heap.size W w'))
    :
    Calls Tryz.prog 89 #[.agg #[.bool aM, .string aS, .int .i64 aE], .agg #[.bool bM, .string bS, .int .i64 bE], .pointer (some ⟨gp, 0, none⟩)] w fun r w' => r = .returned (.agg #[.bool xM, .string xS, .int .i64 xE]) ∧ Below w.heap.size w w' := by
  have HT := Lib.hid hT
  clear hT
  go_enter Tryz.func89, Tryz.ntmps89
  go_upto_region 1 with (fail)
  have X1 := ((Bx.new w 25 #[.bool aM, .string aS, .int .i64 aE]).alloc (.cells #[.bool bM, .string bS, .int .i64 bE] 25)).alloc (.cells #[.bool false, .string ⟨#[]⟩, .int .i64 0] 25)
  have X2 := (Bx.at1 w (.cells #[.bool aM, .string aS, .int .i64 aE] 25) 25 #[.bool bM, .string bS, .int .i64 bE]).alloc (.cells #[.bool false, .string ⟨#[]⟩, .int .i64 0] 25)
  have X3 := Bx.at2 w (.cells #[.bool aM, .string aS, .int .i64 aE] 25) (.cells #[.bool bM, .string bS, .int .i64 bE] 25) 25 #[.bool false, .string ⟨#[]⟩, .int .i64 0]
  have hB := b3 w (.cells #[.bool aM, .string aS, .int .i64 aE] 25) (.cells #[.bool bM, .string bS, .int .i64 bE] 25) (.cells #[.bool false, .string ⟨#[]⟩, .int .i64 0] 25)
  generalize ((w.alloc (.cells #[.bool aM, .string aS, .int .i64 aE] 25)).alloc (.cells #[.bool bM, .string bS, .int .i64 bE] 25)).alloc (.cells #[.bool false, .string ⟨#[]⟩, .int .i64 0] 25) = w0 at *
  have LOXO2 := Lib.hid (hP).lt
  have XO2 := (hP).later hB
  obtain ⟨c1_0, c1_1, c1_2, _, _, _⟩ := X1.k3
  obtain ⟨c2_0, c2_1, c2_2, _, _, _⟩ := X2.k3
  obtain ⟨c3_0, _⟩ := XO2.k1
  clear X1 X2 XO2
  go_wp2_with fail
  clear c1_0 c1_1 c1_2 c2_0 c2_1 c2_2 c3_0
  refine (cQ.out _ (tab_keep HT.out hB)).mono ?_
  rintro e w1 ⟨rfl, hb⟩
  replace X3 := X3.later hb
  replace hB := nxt hB hb
  clear hb
  have N5 := Lib.hid (Nat.ne_of_lt X3.lt)
  have X4 := Bx.new w1 27 #[.bool xM, .string xS, .int .i64 xE, .bool yM, .string yS, .int .i64 yE]
  replace X3 := Bx.alloc X3 (.cells #[.bool xM, .string xS, .int .i64 xE, .bool yM, .string yS, .int .i64 yE] 27)
  replace hB := nxtA hB (.cells #[.bool xM, .string xS, .int .i64 xE, .bool yM, .string yS, .int .i64 yE] 27)
  obtain ⟨c6_0, c6_1, c6_2, _, _, _, _, _, _, _, _, _⟩ := X4.k6
  obtain ⟨c7_0, c7_1, c7_2, c7_3, c7_4, c7_5⟩ := X3.k3
  replace X4 := Bx.farN (Ne.symm N5.out) [.bool xM, .string xS, .int .i64 xE] 0 X4
  replace X3 := Bx.stores [.bool xM, .string xS, .int .i64 xE] 0 X3
  replace hB := stN (Nat.le_add_right _ 2) [.bool xM, .string xS, .int .i64 xE] 0 hB
  simp only [setN, Nat.reduceAdd] at X4 hB
  simp only [setN, putN, Nat.reduceAdd, List.setIfInBounds_toArray, List.set_cons_zero, List.set_cons_succ] at X3
  obtain ⟨c8_0, c8_1, c8_2, _, _, _⟩ := X3.k3
  clear X4
  go_wp2_with fail
  clear c6_0 c6_1 c6_2 c7_0 c7_1 c7_2 c7_3 c7_4 c7_5 c8_0 c8_1 c8_2
  exact bodyPost_ret (v := .agg #[.bool xM, .string xS, .int .i64 xE]) (by simp [results, Tryz.results89, go_sem, X3.cel]) rfl ⟨rfl, hB⟩

set_option maxRecDepth 100000 in
set_option maxHeartbeats 1000000 in
theorem sDivC2 (aM bM xM yM : Bool) (aS bS xS yS : ByteArray) (aE bE xE yE : Int) (p er : Int) (gp : Nat) (w : World) (hP : Bx w gp 3 #[.int .i64 (p)]) (hT : TabAt 0 Lib.deBruijn64tab w)
    (cQ : Hid (∀ (W : World), TabAt 0 Lib.deBruijn64tab W → Calls Tryz.prog 23 #[.agg #[.bool aM, .string aS, .int .i64 aE], .agg #[.bool bM, .string bS, .int .i64 bE], .int .i64 (p)] W fun r w' => r = .returned (.tuple #[.agg #[.bool xM, .string xS, .int .i64 xE, .bool yM, .string yS, .int .i64 yE], .int .i64 (er)]) ∧ Below W.heap.size W w'))
    :
    Calls Tryz.prog 90 #[.agg #[.bool aM, .string aS, .int .i64 aE], .agg #[.bool bM, .string bS, .int .i64 bE], .pointer (some ⟨gp, 0, none⟩)] w fun r w' => r = .returned (.agg #[.bool yM, .string yS, .int .i64 yE]) ∧ Below w.heap.size w w' := by
  have HT := Lib.hid hT
  clear hT
  go_enter Tryz.func90, Tryz.ntmps90
  go_upto_region 1 with (fail)
  have X1 := ((Bx.new w 25 #[.bool aM, .string aS, .int .i64 aE]).alloc (.cells #[.bool bM, .string bS, .int .i64 bE] 25)).alloc (.cells #[.bool false, .string ⟨#[]⟩, .int .i64 0] 25)
  have X2 := (Bx.at1 w (.cells #[.bool aM, .string aS, .int .i64 aE] 25) 25 #[.bool bM, .string bS, .int .i64 bE]).alloc (.cells #[.bool false, .string ⟨#[]⟩, .int .i64 0] 25)
  have X3 := Bx.at2 w (.cells #[.bool aM, .string aS, .int .i64 aE] 25) (.cells #[.bool bM, .string bS, .int .i64 bE] 25) 25 #[.bool false, .string ⟨#[]⟩, .int .i64 0]
  have hB := b3 w (.cells #[.bool aM, .string aS, .int .i64 aE] 25) (.cells #[.bool bM, .string bS, .int .i64 bE] 25) (.cells #[.bool false, .string ⟨#[]⟩, .int .i64 0] 25)
  generalize ((w.alloc (.cells #[.bool aM, .string aS, .int .i64 aE] 25)).alloc (.cells #[.bool bM, .string bS, .int .i64 bE] 25)).alloc (.cells #[.bool false, .string ⟨#[]⟩, .int .i64 0] 25) = w0 at *
  have LOXO2 := Lib.hid (hP).lt
  have XO2 := (hP).later hB
  obtain ⟨c1_0, c1_1, c1_2, _, _, _⟩ := X1.k3
  obtain ⟨c2_0, c2_1, c2_2, _, _, _⟩ := X2.k3
  obtain ⟨c3_0, _⟩ := XO2.k1
  clear X1 X2 XO2
  go_wp2_with fail
  clear c1_0 c1_1 c1_2 c2_0 c2_1 c2_2 c3_0
  refine (cQ.out _ (tab_keep HT.out hB)).mono ?_
  rintro e w1 ⟨rfl, hb⟩
  replace X3 := X3.later hb
  replace hB := nxt hB hb
  clear hb
  have N5 := Lib.hid (Nat.ne_of_lt X3.lt)
  have X4 := Bx.new w1 27 #[.bool xM, .string xS, .int .i64 xE, .bool yM, .string yS, .int .i64 yE]
  replace X3 := Bx.alloc X3 (.cells #[.bool xM, .string xS, .int .i64 xE, .bool yM, .string yS, .int .i64 yE] 27)
  replace hB := nxtA hB (.cells #[.bool xM, .string xS, .int .i64 xE, .bool yM, .string yS, .int .i64 yE] 27)
  obtain ⟨_, _, _, c6_3, c6_4, c6_5, _, _, _, _, _, _⟩ := X4.k6
  obtain ⟨c7_0, c7_1, c7_2, c7_3, c7_4, c7_5⟩ := X3.k3
  replace X4 := Bx.farN (Ne.symm N5.out) [.bool yM, .string yS, .int .i64 yE] 0 X4
  replace X3 := Bx.stores [.bool yM, .string yS, .int .i64 yE] 0 X3
  replace hB := stN (Nat.le_add_right _ 2) [.bool yM, .string yS, .int .i64 yE] 0 hB
  simp only [setN, Nat.reduceAdd] at X4 hB
  simp only [setN, putN, Nat.reduceAdd, List.setIfInBounds_toArray, List.set_cons_zero, List.set_cons_succ] at X3
  obtain ⟨c8_0, c8_1, c8_2, _, _, _⟩ := X3.k3
  clear X4
  go_wp2_with fail
  clear c6_3 c6_4 c6_5 c7_0 c7_1 c7_2 c7_3 c7_4 c7_5 c8_0 c8_1 c8_2
  exact bodyPost_ret (v := .agg #[.bool yM, .string yS, .int .i64 yE]) (by simp [results, Tryz.results90, go_sem, X3.cel]) rfl ⟨rfl, hB⟩

set_option maxRecDepth 100000 in
theorem sFourD1 (aM bM dM fM kM lM mM nM : Bool) (aS bS dS fS kS lS mS nS : ByteArray) (aE bE dE fE kE lE mE nE : Int) (p : Int) (gp : Nat) (w : World) (hP : Bx w gp 3 #[.int .i64 (p)]) (hT : TabAt 0 Lib.deBruijn64tab w)
    (c1 : Hid (∀ (W : World), TabAt 0 Lib.deBruijn64tab W → Bx W gp 3 #[.int .i64 (p)] → Calls Tryz.prog 89 #[.agg #[.bool aM, .string aS, .int .i64 aE], .agg #[.bool dM, .string dS, .int .i64 dE], .pointer (some ⟨gp, 0, none⟩)] W fun r w' => r = .returned (.agg #[.bool kM, .string kS, .int .i64 kE]) ∧ Below W.heap.size W w'))
    (c2 : Hid (∀ (W : World), TabAt 0 Lib.deBruijn64tab W → Bx W gp 3 #[.int .i64 (p)] → Calls Tryz.prog 89 #[.agg #[.bool aM, .string aS, .int .i64 aE], .agg #[.bool fM, .string fS, .int .i64 fE], .pointer (some ⟨gp, 0, none⟩)] W fun r w' => r = .returned (.agg #[.bool lM, .string lS, .int .i64 lE]) ∧ Below W.heap.size W w'))
    (c3 : Hid (∀ (W : World), TabAt 0 Lib.deBruijn64tab W → Bx W gp 3 #[.int .i64 (p)] → Calls Tryz.prog 89 #[.agg #[.bool bM, .string bS, .int .i64 bE], .agg #[.bool dM, .string dS, .int .i64 dE], .pointer (some ⟨gp, 0, none⟩)] W fun r w' => r = .returned (.agg #[.bool mM, .string mS, .int .i64 mE]) ∧ Below W.heap.size W w'))
    (c4 : Hid (∀ (W : World), TabAt 0 Lib.deBruijn64tab W → Bx W gp 3 #[.int .i64 (p)] → Calls Tryz.prog 89 #[.agg #[.bool bM, .string bS, .int .i64 bE], .agg #[.bool fM, .string fS, .int .i64 fE], .pointer (some ⟨gp, 0, none⟩)] W fun r w' => r = .returned (.agg #[.bool nM, .string nS, .int .i64 nE]) ∧ Below W.heap.size W w'))
    :
    Calls Tryz.prog 76 #[.agg #[.bool aM, .string aS, .int .i64 aE, .bool bM, .string bS, .int .i64 bE], .agg #[.bool dM, .string dS, .int .i64 dE, .bool fM, .string fS, .int .i64 fE], .func (.func 89) #[] #[.pointer (some ⟨gp, 0, none⟩)]] w fun r w' => r = .returned (.agg #[.bool kM, .string kS, .int .i64 kE, .bool lM, .string lS, .int .i64 lE, .bool mM, .string mS, .int .i64 mE, .bool nM, .string nS, .int .i64 nE]) ∧ Below w.heap.size w w' :=
  RetAt.at <| ret_sk ttOk mixed (fun a w => Tryz.call76 a w) Tryz.func76 Tryz.ntmps76 Tryz.results76 _ rfl _ [.reg 25 [], .o 1 5 (.ret (.val (rN kM kS kE))), .o 1 11 (.ret (.val (rN lM lS lE))), .o 1 17 (.ret (.val (rN mM mS mE))), .o 1 23 (.ret (.val (rN nM nS nE)))] (fun W hW hR => (fun (hP : Bx W gp 3 #[.int .i64 (p)]) => (fun (hT : Tab0 W) => ai (rb hT hP Tryz.call89 fun W h hx => c1.out W h hx) <| ai (rb hT hP Tryz.call89 fun W h hx => c2.out W h hx) <| ai (rb hT hP Tryz.call89 fun W h hx => c3.out W h hx) <| ai (rb hT hP Tryz.call89 fun W h hx => c4.out W h hx) <| hR) (tab_keep hT hW)) (hP.later hW)) fun W => by kernel_rfl

set_option maxRecDepth 100000 in
theorem sFourD2 (aM bM dM fM kM lM mM nM : Bool) (aS bS dS fS kS lS mS nS : ByteArray) (aE bE dE fE kE lE mE nE : Int) (p : Int) (gp : Nat) (w : World) (hP : Bx w gp 3 #[.int .i64 (p)]) (hT : TabAt 0 Lib.deBruijn64tab w)
    (c1 : Hid (∀ (W : World), TabAt 0 Lib.deBruijn64tab W → Bx W gp 3 #[.int .i64 (p)] → Calls Tryz.prog 90 #[.agg #[.bool aM, .string aS, .int .i64 aE], .agg #[.bool dM, .string dS, .int .i64 dE], .pointer (some ⟨gp, 0, none⟩)] W fun r w' => r = .returned (.agg #[.bool kM, .string kS, .int .i64 kE]) ∧ Below W.heap.size W w'))
    (c2 : Hid (∀ (W : World), TabAt 0 Lib.deBruijn64tab W → Bx W gp 3 #[.int .i64 (p)] → Calls Tryz.prog 90 #[.agg #[.bool aM, .string aS, .int .i64 aE], .agg #[.bool fM, .string fS, .int .i64 fE], .pointer (some ⟨gp, 0, none⟩)] W fun r w' => r = .returned (.agg #[.bool lM, .string lS, .int .i64 lE]) ∧ Below W.heap.size W w'))
    (c3 : Hid (∀ (W : World), TabAt 0 Lib.deBruijn64tab W → Bx W gp 3 #[.int .i64 (p)] → Calls Tryz.prog 90 #[.agg #[.bool bM, .string bS, .int .i64 bE], .agg #[.bool dM, .string dS, .int .i64 dE], .pointer (some ⟨gp, 0, none⟩)] W fun r w' => r = .returned (.agg #[.bool mM, .string mS, .int .i64 mE]) ∧ Below W.heap.size W w'))
    (c4 : Hid (∀ (W : World), TabAt 0 Lib.deBruijn64tab W → Bx W gp 3 #[.int .i64 (p)] → Calls Tryz.prog 90 #[.agg #[.bool bM, .string bS, .int .i64 bE], .agg #[.bool fM, .string fS, .int .i64 fE], .pointer (some ⟨gp, 0, none⟩)] W fun r w' => r = .returned (.agg #[.bool nM, .string nS, .int .i64 nE]) ∧ Below W.heap.size W w'))
    :
    Calls Tryz.prog 76 #[.agg #[.bool aM, .string aS, .int .i64 aE, .bool bM, .string bS, .int .i64 bE], .agg #[.bool dM, .string dS, .int .i64 dE, .bool fM, .string fS, .int .i64 fE], .func (.func 90) #[] #[.pointer (some ⟨gp, 0, none⟩)]] w fun r w' => r = .returned (.agg #[.bool kM, .string kS, .int .i64 kE, .bool lM, .string lS, .int .i64 lE, .bool mM, .string mS, .int .i64 mE, .bool nM, .string nS, .int .i64 nE]) ∧ Below w.heap.size w w' :=
  RetAt.at <| ret_sk ttOk mixed (fun a w => Tryz.call76 a w) Tryz.func76 Tryz.ntmps76 Tryz.results76 _ rfl _ [.reg 25 [], .o 1 5 (.ret (.val (rN kM kS kE))), .o 1 11 (.ret (.val (rN lM lS lE))), .o 1 17 (.ret (.val (rN mM mS mE))), .o 1 23 (.ret (.val (rN nM nS nE)))] (fun W hW hR => (fun (hP : Bx W gp 3 #[.int .i64 (p)]) => (fun (hT : Tab0 W) => ai (rb hT hP Tryz.call90 fun W h hx => c1.out W h hx) <| ai (rb hT hP Tryz.call90 fun W h hx => c2.out W h hx) <| ai (rb hT hP Tryz.call90 fun W h hx => c3.out W h hx) <| ai (rb hT hP Tryz.call90 fun W h hx => c4.out W h hx) <| hR) (tab_keep hT hW)) (hP.later hW)) fun W => by kernel_rfl

set_option maxRecDepth 100000 in
theorem sDiv_zero (aM bM dM fM : Bool) (aS bS dS fS : ByteArray) (aE bE dE fE : Int) (p : Int) (w : World) (hT : TabAt 0 Lib.deBruijn64tab w)
    (cH : Hid (∀ (W : World), TabAt 0 Lib.deBruijn64tab W → Calls Tryz.prog 37 #[.agg #[.bool dM, .string dS, .int .i64 dE, .bool fM, .string fS, .int .i64 fE], .agg #[.bool false, .string ⟨#[]⟩, .int .i64 0]] W fun r w' => r = .returned (.bool true) ∧ Below W.heap.size W w'))
    :
    Calls Tryz.prog 26 #[.agg #[.bool aM, .string aS, .int .i64 aE, .bool bM, .string bS, .int .i64 bE], .agg #[.bool dM, .string dS, .int .i64 dE, .bool fM, .string fS, .int .i64 fE], .int .i64 (p)] w fun r w' => r = .returned (.tuple #[.agg #[.bool false, .string ⟨#[]⟩, .int .i64 0, .bool false, .string ⟨#[]⟩, .int .i64 0], .int .i64 1]) ∧ Below w.heap.size w w' :=
  RetAt.at <| ret_sk ttOk mixed (fun a w => Tryz.call26 a w) Tryz.func26 Tryz.ntmps26 Tryz.results26 _ rfl _ [.o 1 2 (.ret (.val (.bool true)))] (fun W hW hR => (fun (hT : Tab0 W) => ai (rt hT Tryz.call37 fun W h => cH.out W h) <| hR) (tab_keep hT hW)) fun W => by kernel_rfl

set_option maxRecDepth 100000 in
theorem sDiv_some (aM bM dM fM xM yM kM lM mM nM k'M l'M m'M n'M : Bool) (aS bS dS fS xS yS kS lS mS nS k'S l'S m'S n'S : ByteArray) (aE bE dE fE xE yE kE lE mE nE k'E l'E m'E n'E : Int) (p : Int) (w : World) (hT : TabAt 0 Lib.deBruijn64tab w)
    (cH : Hid (∀ (W : World), TabAt 0 Lib.deBruijn64tab W → Calls Tryz.prog 37 #[.agg #[.bool dM, .string dS, .int .i64 dE, .bool fM, .string fS, .int .i64 fE], .agg #[.bool false, .string ⟨#[]⟩, .int .i64 0]] W fun r w' => r = .returned (.bool false) ∧ Below W.heap.size W w'))
    (c1 : Hid (∀ (g : Nat) (W : World), TabAt 0 Lib.deBruijn64tab W → Bx W g 3 #[.int .i64 (p)] → Calls Tryz.prog 76 #[.agg #[.bool aM, .string aS, .int .i64 aE, .bool bM, .string bS, .int .i64 bE], .agg #[.bool dM, .string dS, .int .i64 dE, .bool fM, .string fS, .int .i64 fE], .func (.func 89) #[] #[.pointer (some ⟨g, 0, none⟩)]] W fun r w' => r = .returned (.agg #[.bool kM, .string kS, .int .i64 kE, .bool lM, .string lS, .int .i64 lE, .bool mM, .string mS, .int .i64 mE, .bool nM, .string nS, .int .i64 nE]) ∧ Below W.heap.size W w'))
    (c2 : Hid (∀ (g : Nat) (W : World), TabAt 0 Lib.deBruijn64tab W → Bx W g 3 #[.int .i64 (p)] → Calls Tryz.prog 76 #[.agg #[.bool aM, .string aS, .int .i64 aE, .bool bM, .string bS, .int .i64 bE], .agg #[.bool dM, .string dS, .int .i64 dE, .bool fM, .string fS, .int .i64 fE], .func (.func 90) #[] #[.pointer (some ⟨g, 0, none⟩)]] W fun r w' => r = .returned (.agg #[.bool k'M, .string k'S, .int .i64 k'E, .bool l'M, .string l'S, .int .i64 l'E, .bool m'M, .string m'S, .int .i64 m'E, .bool n'M, .string n'S, .int .i64 n'E]) ∧ Below W.heap.size W w'))
    (c3 : Hid (∀ (g : Nat) (W : World), TabAt 0 Lib.deBruijn64tab W → Bx W g 91 #[.bool kM, .string kS, .int .i64 kE, .bool lM, .string lS, .int .i64 lE, .bool mM, .string mS, .int .i64 mE, .bool nM, .string nS, .int .i64 nE] → Calls Tryz.prog 91 #[.slice (some ⟨g, 0, none⟩) 4 4] W fun r w' => r = .returned (.agg #[.bool xM, .string xS, .int .i64 xE]) ∧ Below W.heap.size W w'))
    (c4 : Hid (∀ (g : Nat) (W : World), TabAt 0 Lib.deBruijn64tab W → Bx W g 91 #[.bool k'M, .string k'S, .int .i64 k'E, .bool l'M, .string l'S, .int .i64 l'E, .bool m'M, .string m'S, .int .i64 m'E, .bool n'M, .string n'S, .int .i64 n'E] → Calls Tryz.prog 92 #[.slice (some ⟨g, 0, none⟩) 4 4] W fun r w' => r = .returned (.agg #[.bool yM, .string yS, .int .i64 yE]) ∧ Below W.heap.size W w'))
    :
    Calls Tryz.prog 26 #[.agg #[.bool aM, .string aS, .int .i64 aE, .bool bM, .string bS, .int .i64 bE], .agg #[.bool dM, .string dS, .int .i64 dE, .bool fM, .string fS, .int .i64 fE], .int .i64 (p)] w fun r w' => r = .returned (.tuple #[.agg #[.bool xM, .string xS, .int .i64 xE, .bool yM, .string yS, .int .i64 yE], .int .i64 0]) ∧ Below w.heap.size w w' :=
  RetAt.at <| ret_sk ttOk mixed (fun a w => Tryz.call26 a w) Tryz.func26 Tryz.ntmps26 Tryz.results26 _ rfl _ [.o 1 2 (.ret (.val (.bool false))), .o 3 3 (.ret (.agg [.val (.bool kM), .val (.string kS), .val (.int .i64 kE), .val (.bool lM), .val (.string lS), .val (.int .i64 lE), .val (.bool mM), .val (.string mS), .val (.int .i64 mE), .val (.bool nM), .val (.string nS), .val (.int .i64 nE)])), .o 4 3 (.ret (.agg [.val (.bool k'M), .val (.string k'S), .val (.int .i64 k'E), .val (.bool l'M), .val (.string l'S), .val (.int .i64 l'E), .val (.bool m'M), .val (.string m'S), .val (.int .i64 m'E), .val (.bool n'M), .val (.string n'S), .val (.int .i64 n'E)])), .reg 5 [], .o 5 1 (.ret (.val (rN xM xS xE))), .o 5 3 (.ret (.val (rN yM yS yE)))] (fun W hW hR => (fun (hT : Tab0 W) => ai (rt hT Tryz.call37 fun W h => cH.out W h) <| ai (rg1 hT Tryz.call76 fun W g h hx => c1.out g W h hx) <| ai (rg1 hT Tryz.call76 fun W g h hx => c2.out g W h hx) <| ai (rg1 hT Tryz.call91 fun W g h hx => c3.out g W h hx) <| ai (rg1 hT Tryz.call92 fun W g h hx => c4.out g W h hx) <| hR) (tab_keep hT hW)) fun W => by kernel_rfl

end Go.Proofs.YtchfglbkiebfpaaGreatDoor

