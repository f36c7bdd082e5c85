/- The walks and plain laws beneath the statements. -/
import Derived.Test.YtibbhpgpleeglaaGreatDoorPA39
import Derived.Test.YtibbhpgpleeglaaGreatDoorPA29
namespace Go.Proofs.YtibbhpgpleeglaaGreatDoor
open Go Go.RowKit

set_option maxRecDepth 100000 in
set_option maxHeartbeats 2000000 in
theorem column_any (A : Option Addr) (n c : Nat) (ms : Nat → Nat) (bs : Nat → Nat → Bool) (ss : Nat → Nat → ByteArray) (es : Nat → Nat → Int) (q : Nat) (w : World) (hn : n ≤ 1000) (hq : ∀ i, i < n → q < ms i) (hq2 : q ≤ 1000000) (hr : RdM w A n ms bs ss es) :
    Calls Tryz.prog 40 #[.slice A n c, .int .i64 (q : Int)] w fun e w' => (∃ B d, e = .returned (.slice B n d) ∧ n ≤ d ∧ (B = none → n = 0 ∧ d = 0) ∧ RdN w' B n (fun i => bs i q) (fun i => ss i q) (fun i => es i q)) ∧ Below w.heap.size w w' := by
  have HR := Lib.hid hr
  have HQ := Lib.hid hq
  clear hr hq
  go_enter Tryz.func40, Tryz.ntmps40
  go_wp2_with fail
  have hon := OwnK.nil_ w w.heap.size 29 3 (cel3 (fun i => bs i q) (fun i => ss i q) (fun i => es i q))
  go_loopw [5, 10] (fun v i wr => ∃ k : Nat, k ≤ n ∧ i = .int .i64 (k : Nat) ∧ OwnK wr w.heap.size 29 3 v k (cel3 (fun i => bs i q) (fun i => ss i q) (fun i => es i q)) ∧ Below w.heap.size w wr) (fun _ i _ => n - (RowKit.intOf i).toNat)
  case atStart => exact ⟨0, Nat.zero_le _, rfl, hon, Below.refl _ _⟩
  case round =>
    obtain ⟨k, hk, rfl, hown, hB⟩ := hrel
    by_cases hlt : k < n
    · obtain ⟨b, off, rfl, hc⟩ := (HR.out.below hB) (by omega)
      obtain ⟨Ai, ci, _, hAi, g1, hi1⟩ := hc k hlt
      have hqk := HQ.out k hlt
      obtain ⟨b', off', rfl, hc'⟩ := hi1.num (by omega)
      obtain ⟨g2, g3, g4⟩ := hc' q hqk
      have hlti : (k : Int) < (n : Int) := by omega
      obtain ⟨m, hm⟩ : ∃ m, ms k = m := ⟨_, rfl⟩
      rw [hm] at g1 hqk
      have hqi : (q : Int) < (m : Int) := by omega
      have hO := hown.below (b1 wr (.cells #[.bool (bs k q), .string (ss k q), .int .i64 (es k q)] 29))
      have ZR := Bx.new wr 29 #[.bool (bs k q), .string (ss k q), .int .i64 (es k q)]
      have HN := Lib.hid (show ∀ j, j < 1 → ∀ i, i < 3 → (wr.alloc (.cells #[.bool (bs k q), .string (ss k q), .int .i64 (es k q)] 29)).cell? ⟨wr.heap.size, 0 + j * 3 + i, none⟩ = (cel3 (fun j => bs (k + j) q) (fun j => ss (k + j) q) (fun j => es (k + j) q) j)[i]? from fun j hj i hi => by
        have hj' : j = 0 := by omega
        have hi' : i = 0 ∨ i = 1 ∨ i = 2 := by omega
        subst hj'
        rcases hi' with rfl | rfl | rfl <;> simp [ZR.cel, cel3])
      have HO := Lib.hid (And.intro hO (nxtA hB (.cells #[.bool (bs k q), .string (ss k q), .int .i64 (es k q)] 29)))
      have HS2 := Lib.hid (show w.heap.size ≤ (wr.alloc (.cells #[.bool (bs k q), .string (ss k q), .int .i64 (es k q)] 29)).heap.size by have := hB.size; simp; omega)
      have HM2 := Lib.hid (show k + 1 ≤ 9223372036854775807 ∧ (k + 1) * 32 ≤ 140737488355328 by omega)
      clear hc hc' hi1 hO ZR hown hB hm
      go_wp2_with (at_builtin; refine wpList_appendK rfl (.tmp 14) (.tmp 19) _ rfl w.heap.size 29 _ 3 32 Tryz.underlying38 info_Num rfl (by decide) _ k (cel3 (fun i => bs i q) (fun i => ss i q) (fun i => es i q)) rfl HO.out.1 ⟨wr.heap.size, 0, none⟩ 1 1 (cel3 (fun j => bs (k + j) q) (fun j => ss (k + j) q) (fun j => es (k + j) q)) (fun _ => rfl) (fun _ => rfl) (cel3_one _ _ _) rfl rfl HN.out HM2.out.1 HM2.out.2 HS2.out ?_; intro v' w5 ho' hb5)
      have ho2 := ho'.congr (f' := cel3 (fun i => bs i q) (fun i => ss i q) (fun i => es i q)) (fun j hj => by
        split
        · rfl
        · rename_i h
          unfold cel3
          dsimp only
          rw [show k + (j - k) = j by omega])
      exact ⟨⟨k + 1, by omega, by go_num, ho2, belB HO.out.2 hb5 (Nat.le_refl _)⟩, by simp [RowKit.intOf]; omega⟩
    · obtain rfl : k = n := by omega
      have hlti : ¬ (k : Int) < (k : Int) := by omega
      obtain ⟨B, d, rfl, hkd, hrd, _, hno⟩ := OwnK.rd (k := 3) (fun _ => rfl) hown
      go_wp2
      go_ret
      exact ⟨⟨B, d, rfl, hkd, hno, hrd.num⟩, hB⟩
end Go.Proofs.YtibbhpgpleeglaaGreatDoor

namespace Go.Proofs.YtibbhpgpleeglaaGreatDoor
open Go Go.RowKit

theorem dMul2N {b c : Bool} {s t : ByteArray} {e f : Int} {x y : Dyadic} {L T0 : Nat} {g : Nat} {w : World} (n1 : ND b s e x) (n2 : ND c t f y) (d1 : DB L T0 x) (d2 : DB L T0 y) (hLT : L + T0 ≤ 1500000) (hT : TabAt 0 Lib.deBruijn64tab w) (h : Bx w g 29 #[.bool b, .string s, .int .i64 e, .bool c, .string t, .int .i64 f]) :
    Calls Tryz.prog 24 #[.slice (some ⟨g, 0, none⟩) 2 2] w fun r w' => r = .returned (.agg #[.bool (neg (dm (x * y))), .string (mag (dm (x * y))), .int .i64 (de (x * y))]) ∧ Below w.heap.size w w' := by
  have h := dMul_any _ 2 2 _ _ _ (fun j => if j = 0 then x else y) L T0 w (by decide) (fun j => by by_cases h0 : j = 0 <;> simp only [h0, if_true, if_false] <;> assumption) (fun j => by by_cases h0 : j = 0 <;> simp only [h0, if_true, if_false] <;> assumption) (by omega) (rdN2B h) hT
  have e1 : prodD (fun j => if j = 0 then x else y) 2 = x * y := by
    show 1 * (if 0 = 0 then x else y) * (if 1 = 0 then x else y) = x * y
    rw [if_pos rfl, if_neg (by decide)]
    grind
  rw [e1] at h
  exact h
set_option maxRecDepth 100000 in
set_option maxHeartbeats 2000000 in
theorem inner_any (A B : Option Addr) (n c cc : Nat) (bs cs : Nat → Bool) (ss ts : Nat → ByteArray) (es fs : Nat → Int) (xs ys : Nat → Dyadic) (L T0 : Nat) (w : World) (hn : n ≤ 1000) (hx : ∀ j, ND (bs j) (ss j) (es j) (xs j)) (hy : ∀ j, ND (cs j) (ts j) (fs j) (ys j)) (hdx : ∀ j, DB L T0 (xs j)) (hdy : ∀ j, DB L T0 (ys j)) (hLT : L + T0 ≤ 1500000) (hr : RdN w A n bs ss es) (hr' : RdN w B n cs ts fs) (hT : TabAt 0 Lib.deBruijn64tab w) :
    Calls Tryz.prog 39 #[.slice A n c, .slice B n cc] w fun e w' => e = .returned (.agg #[.bool (neg (dm (sumD (fun j => xs j * ys j) n))), .string (mag (dm (sumD (fun j => xs j * ys j) n))), .int .i64 (de (sumD (fun j => xs j * ys j) n))]) ∧ Below w.heap.size w w' := by
  have HR := Lib.hid hr
  have HR' := Lib.hid hr'
  have HX := Lib.hid hx
  have HY := Lib.hid hy
  have HDX := Lib.hid hdx
  have HDY := Lib.hid hdy
  have HT := Lib.hid hT
  clear hr hr' hx hy hdx hdy hT
  go_enter Tryz.func39, Tryz.ntmps39
  have X0 := Bx.new w 29 #[.bool false, .string ⟨#[]⟩, .int .i64 0]
  have hB0 := b1 w (.cells #[.bool false, .string ⟨#[]⟩, .int .i64 0] 29)
  go_wp2_with fail
  have hon := OwnK.nil_ (w.alloc (.cells #[.bool false, .string ⟨#[]⟩, .int .i64 0] 29)) (w.heap.size + 1) 29 3 (cel3 (fun j => neg (dm (xs j * ys j))) (fun j => mag (dm (xs j * ys j))) (fun j => de (xs j * ys j)))
  generalize w.alloc (.cells #[.bool false, .string ⟨#[]⟩, .int .i64 0] 29) = w0 at *
  go_loopw [5, 10] (fun v i wr => ∃ k : Nat, k ≤ n ∧ i = .int .i64 (k : Nat) ∧ OwnK wr (w.heap.size + 1) 29 3 v k (cel3 (fun j => neg (dm (xs j * ys j))) (fun j => mag (dm (xs j * ys j))) (fun j => de (xs j * ys j))) ∧ Bx wr w.heap.size 29 #[.bool false, .string ⟨#[]⟩, .int .i64 0] ∧ Below w.heap.size w wr) (fun _ i _ => n - (RowKit.intOf i).toNat)
  case atStart => exact ⟨0, Nat.zero_le _, rfl, hon, X0, hB0⟩
  case round =>
    obtain ⟨k, hk, rfl, hown, Y0, hB⟩ := hrel
    by_cases hlt : k < n
    · obtain ⟨b, off, rfl, hc⟩ := HR.out (by omega)
      obtain ⟨b', off', rfl, hc'⟩ := HR'.out (by omega)
      obtain ⟨g1, g2, g3⟩ := (⟨cell_later hB (hc k hlt).1, cell_later hB (hc k hlt).2.1, cell_later hB (hc k hlt).2.2⟩ : _ ∧ _ ∧ _)
      have hki : (k : Int) < (n : Int) := by omega
      have hkj : (0 : Int) ≤ (k : Int) := by omega
      have X1 := Bx.new wr 29 #[.bool (bs k), .string (ss k), .int .i64 (es k)]
      have hb1 := b1 wr (.cells #[.bool (bs k), .string (ss k), .int .i64 (es k)] 29)
      have hB1 := nxtA hB (.cells #[.bool (bs k), .string (ss k), .int .i64 (es k)] 29)
      have g4 := cell_later hB1 (hc' k hlt).1
      have g5 := cell_later hB1 (hc' k hlt).2.1
      have g6 := cell_later hB1 (hc' k hlt).2.2
      have HT1 := Lib.hid (tab_keep HT.out hB1)
      clear hc hc' X0 hB0 hon
      go_upto_region 5 with (fail)
      obtain ⟨w1, hw1⟩ : ∃ x, x = wr.alloc (.cells #[.bool (bs k), .string (ss k), .int .i64 (es k)] 29) := ⟨_, rfl⟩
      rw [← hw1] at X1 hb1 hB1 g4 g5 g6 HT1 ⊢
      clear hw1
      refine wp_region_kl [15, 16, 17, 18, 19, 20, 21, 22, 23] [.eq (u5), .eq (.agg #[.bool (bs k), .string (ss k), .int .i64 (es k)]), .eq (.slice (some ⟨b', off', none⟩) n cc), .eq (.int .i64 (k : Nat)), .eq (.pointer (some ⟨b', off' + k * 3, none⟩)), .eq (.agg #[.bool (cs k), .string (ts k), .int .i64 (fs k)]), .sli w1.heap.size 29 2 #[.bool (bs k), .string (ss k), .int .i64 (es k), .bool (cs k), .string (ts k), .int .i64 (fs k)], .eq (.agg #[.bool (neg (dm (xs k * ys k))), .string (mag (dm (xs k * ys k))), .int .i64 (de (xs k * ys k))]), .sli w1.heap.size 29 1 #[.bool (neg (dm (xs k * ys k))), .string (mag (dm (xs k * ys k))), .int .i64 (de (xs k * ys k))]] [0] 28 (by kernel_rfl) (by exact fun _ _ _ _ _ h => h) (by kernel_rfl) (by rfl) ?hop ?hlate ?htail
      case hop =>
        intro A hA
        have hN : A.tmps.size = 28 := by rw [hA]; rfl
        have q5 : A.tmps.getD 5 undef = u5 := by rw [hA]; rfl
        have q7 : A.tmps.getD 7 undef = .pointer (some ⟨wr.heap.size, 0, none⟩) := by rw [hA]; rfl
        have q1 : A.tmps.getD 1 undef = .slice (some ⟨b', off', none⟩) n cc := by rw [hA]; rfl
        have q6 : A.tmps.getD 6 undef = .int .i64 (k : Nat) := by rw [hA]; rfl
        clear hA
        refine ⟨?_, ?_, ?_, ?_, ?_, ?_, ?_, ?_, ?_, trivial⟩
        · refine kok hN fun u W ev ec ef E B hG hf => ?_
          exact k_val _ rfl rfl hG (by simp [go_sem, B 5 rfl rfl q5]) rfl
        · refine kok hN fun u W ev ec ef E B hG hf => ?_
          exact k_val _ rfl rfl hG (by simp [go_sem, B 7 rfl rfl q7, (X1.later hG).cel]) rfl
        · refine kok hN fun u W ev ec ef E B hG hf => ?_
          exact k_val _ rfl rfl hG (by simp [go_sem, B 1 rfl rfl q1]) rfl
        · refine kok hN fun u W ev ec ef E B hG hf => ?_
          exact k_val _ rfl rfl hG (by simp [go_sem, B 6 rfl rfl q6]) rfl
        · refine kok hN fun u W ev ec ef E B hG hf => ?_
          exact k_val _ rfl rfl hG (by simp [go_sem, E 17 2 rfl rfl (hf 2 rfl), E 18 3 rfl rfl (hf 3 rfl), hki, hkj]) rfl
        · refine kok hN fun u W ev ec ef E B hG hf => ?_
          exact k_val _ rfl rfl hG (by simp [go_sem, E 19 4 rfl rfl (hf 4 rfl), cell_later hG g4, cell_later hG g5, cell_later hG g6]) rfl
        · refine kok hN fun u W ev ec ef E B hG hf => ?_
          exact k_new _ _ rfl (by simp [go_sem, E 16 1 rfl rfl (hf 1 rfl), E 20 5 rfl rfl (hf 5 rfl)]) (nxtA hG _) ⟨_, rfl, below_le hG, Bx.new _ _ _⟩ rfl
        · refine kok hN fun u W ev ec ef E B hG hf => ?_
          obtain ⟨g21, f21, hb21, hx21⟩ := hf 6 rfl
          exact k_cl rfl rfl (by simp [go_sem, ef, E 21 6 rfl rfl f21]) (dMul2N (HX.out k) (HY.out k) (HDX.out k) (HDY.out k) hLT (tab_keep HT1.out hG) hx21) hG (fun _ _ => rfl)
        · refine kok hN fun u W ev ec ef E B hG hf => ?_
          exact k_new _ _ rfl (by simp [go_sem, E 22 7 rfl rfl (hf 7 rfl)]) (nxtA hG _) ⟨_, rfl, below_le hG, Bx.new _ _ _⟩ rfl
      case hlate =>
        intro A hA
        have hN : A.tmps.size = 28 := by rw [hA]; rfl
        have q5 : A.tmps.getD 5 undef = u5 := by rw [hA]; rfl
        clear hA
        refine ⟨⟨rfl, ?_⟩, trivial, trivial, trivial, trivial, trivial, trivial, trivial, trivial, trivial⟩
        · intro u W hf
          have e5 := frm_base (ds := [15, 16, 17, 18, 19, 20, 21, 22, 23]) (u := u) (k := 5) (by rw [hN]; decide) rfl q5
          generalize (frm A [15, 16, 17, 18, 19, 20, 21, 22, 23] u).eval = ev at *
          exact ⟨_, rfl, fun w => (by simp [go_sem, e5]), rfl⟩
      case htail =>
      intro u wr2 hG hP hD
      have f15 : u 0 = u5 := hP 0 (by decide)
      obtain ⟨g23, f23, hb23, ZR⟩ := hP 8 (by decide)
      simp only [putAll, Act.put, List.setIfInBounds_toArray, List.set_cons_zero, List.set_cons_succ, List.length_cons, List.length_nil, Nat.reduceAdd, List.drop_succ_cons, List.drop_zero, f15, f23]
      have hO := hown.below (Below.trans hb1 (hG.mono hb1.size))
      have Y2 := (Y0.later hb1).later hG
      have hB3 := nxt hB1 hG
      clear hP hD f15 f23 g4 g5 g6 hB1 Y0 hown hB
      have HO := Lib.hid (And.intro hO (And.intro Y2 hB3))
      have HN := Lib.hid (show ∀ j, j < 1 → ∀ i, i < 3 → wr2.cell? ⟨g23, 0 + j * 3 + i, none⟩ = (cel3 (fun j => neg (dm (xs (k + j) * ys (k + j)))) (fun j => mag (dm (xs (k + j) * ys (k + j)))) (fun j => de (xs (k + j) * ys (k + j))) j)[i]? from fun j hj i hi => by
        have hj' : j = 0 := by omega
        have hi' : i = 0 ∨ i = 1 ∨ i = 2 := by omega
        subst hj'
        rcases hi' with rfl | rfl | rfl <;> simp [ZR.cel, cel3])
      have HS := Lib.hid (show w.heap.size + 1 ≤ wr2.heap.size by have := hO.1; have := Y2.lt; omega)
      have HM := Lib.hid (show k + 1 ≤ 9223372036854775807 ∧ (k + 1) * 32 ≤ 140737488355328 by omega)
      clear hO ZR Y2 hB3
      go_wp2_with (at_builtin; refine wpList_appendK rfl (.tmp 15) (.tmp 23) _ rfl (w.heap.size + 1) 29 _ 3 32 Tryz.underlying38 info_Num rfl (by decide) _ k (cel3 (fun j => neg (dm (xs j * ys j))) (fun j => mag (dm (xs j * ys j))) (fun j => de (xs j * ys j))) rfl HO.out.1 ⟨g23, 0, none⟩ 1 1 (cel3 (fun j => neg (dm (xs (k + j) * ys (k + j)))) (fun j => mag (dm (xs (k + j) * ys (k + j)))) (fun j => de (xs (k + j) * ys (k + j)))) (fun _ => rfl) (fun _ => rfl) (cel3_one _ _ _) rfl rfl HN.out HM.out.1 HM.out.2 HS.out ?_; intro v' w5 ho' hb5)
      have ho2 := ho'.congr (f' := cel3 (fun j => neg (dm (xs j * ys j))) (fun j => mag (dm (xs j * ys j))) (fun j => de (xs j * ys j))) (fun j hj => by
        split
        · rfl
        · rename_i h
          unfold cel3
          dsimp only
          rw [show k + (j - k) = j by omega])
      exact ⟨⟨k + 1, by omega, by go_num, ho2, HO.out.2.1.base hb5 (Nat.lt_succ_self _), belB HO.out.2.2 hb5 (Nat.le_succ _)⟩, by simp [RowKit.intOf]; omega⟩
    · obtain rfl : k = n := by omega
      have hlti : ¬ (k : Int) < (k : Int) := by omega
      obtain ⟨B', d, rfl, hkd, hrd, hba, hno⟩ := OwnK.rd (k := 3) (fun _ => rfl) hown
      have hdb : ∀ j, DB (L + L) (T0 + T0) (xs j * ys j) := fun j => db_mul (HDX.out j) (HDY.out j)
      have cA := Lib.hid (dAdd_any B' k d _ _ _ (fun j => xs j * ys j) (L + L) (T0 + T0) wr (by omega) (fun j => nd_db (hdb j) (by omega)) hdb (by omega) hrd.num (tab_keep HT.out hB))
      obtain ⟨q1, q2, q3, q4, q5, q6⟩ := Y0.three
      have HY0 := Lib.hid (And.intro Y0 hB)
      clear Y0 hB hown hrd hba hno hdb X0 hB0 hon
      go_wp2_with fail
      refine cA.out.mono ?_
      rintro e w6 ⟨rfl, hb⟩
      obtain ⟨Y0, hB⟩ := HY0.out
      replace Y0 := Y0.later hb
      replace hB := nxt hB hb
      clear hb q1 q2 q3 q4 q5 q6 HY0 cA
      obtain ⟨q1, q2, q3, q4, q5, q6⟩ := Y0.three
      have HY0 := Lib.hid (And.intro Y0 hB)
      clear Y0 hB
      go_wp2
      exact bodyPost_ret (v := .agg #[.bool (neg (dm (sumD (fun j => xs j * ys j) k))), .string (mag (dm (sumD (fun j => xs j * ys j) k))), .int .i64 (de (sumD (fun j => xs j * ys j) k))]) (by simp [results, Tryz.results39, go_sem, (HY0.out.1.set3 _ _ _).cel]) rfl ⟨rfl, st3 HY0.out.2 (Nat.le_refl _) _ _ _⟩
end Go.Proofs.YtibbhpgpleeglaaGreatDoor

namespace Go.Proofs.YtibbhpgpleeglaaGreatDoor
open Go Go.RowKit

/-- The product of two tables. -/
def mulM (n : Nat) (xs ys : Nat → Nat → Dyadic) (i q : Nat) : Dyadic := sumD (fun j => xs i j * ys j q) n
set_option maxRecDepth 100000 in
set_option maxHeartbeats 4000000 in
theorem mmul_yes (A B : Option Addr) (n c cc : Nat) (bs cs : Nat → Nat → Bool) (ss ts : Nat → Nat → ByteArray) (es fs : Nat → Nat → Int) (xs ys : Nat → Nat → Dyadic) (L T0 : Nat) (w : World) (hn : n ≤ 8) (hx : ∀ i j, ND (bs i j) (ss i j) (es i j) (xs i j)) (hy : ∀ i j, ND (cs i j) (ts i j) (fs i j) (ys i j)) (hdx : ∀ i j, DB L T0 (xs i j)) (hdy : ∀ i j, DB L T0 (ys i j)) (hLT : L + T0 ≤ 1500000) (hr : RdM w A n (fun _ => n) bs ss es) (hr' : RdM w B n (fun _ => n) cs ts fs) (hT : TabAt 0 Lib.deBruijn64tab w) :
    Calls Tryz.prog 18 #[.slice A n c, .slice B n cc] w fun e w' => (∃ C d, e = .returned (.tuple #[.slice C n d, .int .i64 0]) ∧ RdM w' C n (fun _ => n) (fun i q => neg (dm (mulM n xs ys i q))) (fun i q => mag (dm (mulM n xs ys i q))) (fun i q => de (mulM n xs ys i q))) ∧ Below w.heap.size w w' := by
  have c1 := Lib.hid (fun W h => mcheck_any A n c (fun _ => n) W (by omega) h)
  have c2 := Lib.hid (fun W h => mcheck_any B n cc (fun _ => n) W (by omega) h)
  have HSQ := Lib.hid (show sqB n (fun _ => n) from ⟨hn, fun _ _ => rfl⟩)
  have HR := Lib.hid hr
  have HR' := Lib.hid hr'
  have HX := Lib.hid hx
  have HY := Lib.hid hy
  have HDX := Lib.hid hdx
  have HDY := Lib.hid hdy
  have HT := Lib.hid hT
  clear hr hr' hx hy hdx hdy hT
  go_enter Tryz.func18, Tryz.ntmps18
  go_wp2_with fail
  refine (c1.out _ HR.out.len).mono ?_
  rintro e w1 ⟨h1, _, hB⟩
  obtain rfl := h1 HSQ.out
  clear h1 c1
  go_wp2_with fail
  refine (c2.out _ (HR'.out.below hB).len).mono ?_
  rintro e w2 ⟨h1, _, hb⟩
  obtain rfl := h1 HSQ.out
  replace hB := nxt hB hb
  clear h1 c2 hb
  go_wp2_with fail
  have hon : OwnM w2 w2.heap.size (.slice none 0 0) 0 (fun _ => n) (fun i q => neg (dm (mulM n xs ys i q))) (fun i q => mag (dm (mulM n xs ys i q))) (fun i q => de (mulM n xs ys i q)) := OwnT.nil_ _ _ _ _ _ _
  have HB2 := Lib.hid hB
  obtain ⟨w0, hw0⟩ : ∃ x, x = w2 := ⟨_, rfl⟩
  subst hw0
  go_loopw [6, 28] (fun v i wr => ∃ k : Nat, k ≤ n ∧ i = .int .i64 (k : Nat) ∧ OwnM wr w0.heap.size v k (fun _ => n) (fun i q => neg (dm (mulM n xs ys i q))) (fun i q => mag (dm (mulM n xs ys i q))) (fun i q => de (mulM n xs ys i q)) ∧ Below w0.heap.size w0 wr) (fun _ i _ => n - (RowKit.intOf i).toNat)
  case atStart => exact ⟨0, Nat.zero_le _, rfl, hon, Below.refl _ _⟩
  case round =>
    obtain ⟨k, hk, rfl, hown, hB⟩ := hrel
    by_cases hlt : k < n
    · have hB4 := nxt HB2.out hB
      obtain ⟨b, off, rfl, hc⟩ := (HR.out.below hB4) (by omega)
      obtain ⟨Ai, ci, _, hAi, g1, hi1⟩ := hc k hlt
      have hlti : (k : Int) < (n : Int) := by omega
      have HI := Lib.hid hi1.num
      have HOW := Lib.hid (And.intro hown hB)
      have HB4 := Lib.hid hB4
      clear hc hi1 hown hB hB4 hon
      go_wp2_with fail
      obtain ⟨wo, hwo⟩ : ∃ x, x = wr := ⟨_, rfl⟩
      subst hwo
      have hol := OwnK.nil_ wo wo.heap.size 29 3 (cel3 (fun q => neg (dm (mulM n xs ys k q))) (fun q => mag (dm (mulM n xs ys k q))) (fun q => de (mulM n xs ys k q)))
      go_loopw [9, 34] (fun v i wr => ∃ q : Nat, q ≤ n ∧ i = .int .i64 (q : Nat) ∧ OwnK wr wo.heap.size 29 3 v q (cel3 (fun q => neg (dm (mulM n xs ys k q))) (fun q => mag (dm (mulM n xs ys k q))) (fun q => de (mulM n xs ys k q))) ∧ Below wo.heap.size wo wr) (fun _ i _ => n - (RowKit.intOf i).toNat)
      case atStart => exact ⟨0, Nat.zero_le _, rfl, hol, Below.refl _ _⟩
      case round =>
        obtain ⟨q, hq, rfl, hown, hB⟩ := hrel
        by_cases hlt2 : q < n
        · have hlt2i : (q : Int) < (n : Int) := by omega
          have hBw := nxt HB4.out hB
          have c3 := Lib.hid (column_any B n cc (fun _ => n) cs ts fs q wr (by omega) (fun _ _ => hlt2) (by omega) (HR'.out.below hBw))
          clear hol
          go_wp2_with fail
          refine c3.out.mono ?_
          rintro e w5 ⟨⟨C, d, rfl, hnd, hno, hrc⟩, hb⟩
          replace hown := hown.below hb
          replace hB := nxt hB hb
          have c4 := Lib.hid (inner_any Ai C n ci d (bs k) (fun i => cs i q) (ss k) (fun i => ts i q) (es k) (fun i => fs i q) (xs k) (fun i => ys i q) L T0 w5 (by omega) (HX.out k) (fun j => HY.out j q) (HDX.out k) (fun j => HDY.out j q) hLT (HI.out.below hB) hrc (tab_keep HT.out (nxt HB4.out hB)))
          clear hb c3 hBw hrc
          go_wp2_with fail
          rw [show sumD (fun j => xs k j * ys j q) n = mulM n xs ys k q from rfl] at c4
          refine c4.out.mono ?_
          rintro e w6 ⟨rfl, hb⟩
          replace hown := hown.below hb
          replace hB := nxt hB hb
          clear hb c4
          have hO := hown.below (b1 w6 (.cells #[.bool (neg (dm (mulM n xs ys k q))), .string (mag (dm (mulM n xs ys k q))), .int .i64 (de (mulM n xs ys k q))] 29))
          have ZR := Bx.new w6 29 #[.bool (neg (dm (mulM n xs ys k q))), .string (mag (dm (mulM n xs ys k q))), .int .i64 (de (mulM n xs ys k q))]
          have HN := Lib.hid (show ∀ j, j < 1 → ∀ i, i < 3 → (w6.alloc (.cells #[.bool (neg (dm (mulM n xs ys k q))), .string (mag (dm (mulM n xs ys k q))), .int .i64 (de (mulM n xs ys k q))] 29)).cell? ⟨w6.heap.size, 0 + j * 3 + i, none⟩ = ((cel3 (fun j => neg (dm (mulM n xs ys k (q + j)))) (fun j => mag (dm (mulM n xs ys k (q + j)))) (fun j => de (mulM n xs ys k (q + j)))) j)[i]? from fun j hj i hi => by
            have hj' : j = 0 := by omega
            have hi' : i = 0 ∨ i = 1 ∨ i = 2 := by omega
            subst hj'
            rcases hi' with rfl | rfl | rfl <;> simp [ZR.cel, cel3])
          have HO := Lib.hid (And.intro hO (nxtA hB (.cells #[.bool (neg (dm (mulM n xs ys k q))), .string (mag (dm (mulM n xs ys k q))), .int .i64 (de (mulM n xs ys k q))] 29)))
          have HS2 := Lib.hid (show wo.heap.size ≤ (w6.alloc (.cells #[.bool (neg (dm (mulM n xs ys k q))), .string (mag (dm (mulM n xs ys k q))), .int .i64 (de (mulM n xs ys k q))] 29)).heap.size by have := hB.size; simp; omega)
          have HM2 := Lib.hid (show q + 1 ≤ 9223372036854775807 ∧ (q + 1) * 32 ≤ 140737488355328 by omega)
          clear hO ZR hown hB
          go_wp2_with (at_builtin; refine wpList_appendK rfl (.tmp 37) (.tmp 43) _ rfl wo.heap.size 29 _ 3 32 Tryz.underlying38 info_Num rfl (by decide) _ q (cel3 (fun q => neg (dm (mulM n xs ys k q))) (fun q => mag (dm (mulM n xs ys k q))) (fun q => de (mulM n xs ys k q))) rfl HO.out.1 ⟨w6.heap.size, 0, none⟩ 1 1 (cel3 (fun j => neg (dm (mulM n xs ys k (q + j)))) (fun j => mag (dm (mulM n xs ys k (q + j)))) (fun j => de (mulM n xs ys k (q + j)))) (fun _ => rfl) (fun _ => rfl) (cel3_one _ _ _) rfl rfl HN.out HM2.out.1 HM2.out.2 HS2.out ?_; intro v' w7 ho' hb5)
          have ho2 := ho'.congr (f' := (cel3 (fun q => neg (dm (mulM n xs ys k q))) (fun q => mag (dm (mulM n xs ys k q))) (fun q => de (mulM n xs ys k q)))) (fun j hj => by
            split
            · rfl
            · rename_i h
              unfold cel3
              dsimp only
              rw [show q + (j - q) = j by omega])
          exact ⟨⟨q + 1, by omega, by go_num, ho2, belB HO.out.2 hb5 (Nat.le_refl _)⟩, by simp [RowKit.intOf]; omega⟩
        · obtain rfl : q = n := by omega
          have hlt2i : ¬ (q : Int) < (q : Int) := by omega
          obtain ⟨C, d, rfl, hnc, hrd, _, hno⟩ := OwnK.rd (k := 3) (fun _ => rfl) hown
          have hvl := OwnT.lt HOW.out.1
          have hap := hown.apart (u := _) (fun g hg => (hvl g hg).2) rfl
          have hown5 := HOW.out.1.below hB
          have hown6 := hown5.below (b1 wr (.cells #[.slice C q d] 38))
          have hown6' : OwnT (wr.alloc (.cells #[.slice C q d] 38)) w0.heap.size 38 3 u6 k (fun _ => q) (fun i => cel3 (fun j => neg (dm (mulM q xs ys i j))) (fun j => mag (dm (mulM q xs ys i j))) (fun j => de (mulM q xs ys i j))) := hown6
          have hrd6 := hrd.below (cel3_len _ _ _) (b1 wr (.cells #[.slice C q d] 38))
          have Z := (Bx.new wr 38 #[.slice C q d]).cel 0
          have hap6 : ∀ a, C = some a → a.block < (wr.alloc (.cells #[.slice C q d] 38)).heap.size ∧ _ := fun a ha => ⟨Nat.lt_of_lt_of_le (hap a ha).1 (by simp), (hap a ha).2⟩
          have hB7 := nxt HOW.out.2 hB
          have hsz6 : w0.heap.size ≤ (wr.alloc (.cells #[.slice C q d] 38)).heap.size := by have := hB7.size; simp; omega
          have h63 : k + 1 ≤ 9223372036854775807 := by omega
          have hby : (k + 1) * 24 ≤ 140737488355328 := by omega
          have HB7 := Lib.hid (nxtA hB7 (.cells #[.slice C q d] 38))
          clear hown hown5 hrd hap hvl hB hB7 hol HOW
          go_wp2_with (at_builtin; refine wpList_appendT rfl (.tmp 46) (.tmp 48) _ rfl w0.heap.size 38 (.slice none 0 0) 3 24 Tryz.underlying22 info_Nums rfl u6 k (fun _ => q) (fun i => cel3 (fun j => neg (dm (mulM q xs ys i j))) (fun j => mag (dm (mulM q xs ys i j))) (fun j => de (mulM q xs ys i j))) (fun i j => cel3_len _ _ _ j) rfl hown6' ⟨wr.heap.size, 0, none⟩ rfl rfl C d Z hnc hno hrd6 hap6 h63 hby hsz6 ?_; intro v2 w7 ho2 hb7)
          have hB8 := belB HB7.out hb7 (Nat.le_refl _)
          exact ⟨⟨k + 1, by omega, by go_num, ho2, hB8⟩, by simp [RowKit.intOf]; omega⟩
    · obtain rfl : k = n := by omega
      have hlti : ¬ (k : Int) < (k : Int) := by omega
      obtain ⟨C, d, rfl, _, hrd, _⟩ := OwnT.rd hown
      go_wp2
      go_ret2
      exact ⟨⟨C, ⟨d, rfl⟩, hrd⟩, nxt HB2.out hB⟩
set_option maxRecDepth 100000 in
set_option maxHeartbeats 2000000 in
theorem mmul_no (A B : Option Addr) (n m c cc : Nat) (ms ns : Nat → Nat) (w : World) (hn : n ≤ 4611686018427387904) (hm : m ≤ 4611686018427387904) (h : ¬ (sqB n ms ∧ sqB m ns ∧ n = m)) (hr : RdL w A n ms) (hr' : RdL w B m ns) :
    Calls Tryz.prog 18 #[.slice A n c, .slice B m cc] w fun e w' => e = .returned (.tuple #[.slice none 0 0, .int .i64 1]) ∧ Below w.heap.size w w' := by
  have c1 := Lib.hid (fun W h => mcheck_any A n c ms W hn h)
  have c2 := Lib.hid (fun W h => mcheck_any B m cc ns W hm h)
  have HR := Lib.hid hr
  have HR' := Lib.hid hr'
  have HH := Lib.hid h
  clear hr hr' h
  go_enter Tryz.func18, Tryz.ntmps18
  go_wp2_with fail
  refine (c1.out _ HR.out).mono ?_
  rintro e w1 ⟨h1, h1', hB⟩
  clear c1
  by_cases s1 : sqB n ms
  · obtain rfl := h1 s1
    clear h1 h1'
    go_wp2_with fail
    refine (c2.out _ (HR'.out.below hB)).mono ?_
    rintro e w2 ⟨h1, h1', hb⟩
    replace hB := nxt hB hb
    clear hb c2
    by_cases s2 : sqB m ns
    · obtain rfl := h1 s2
      have hne : ¬ n = m := fun e => HH.out ⟨s1, s2, e⟩
      have hz : ((n : Int) != (m : Int)) = true := by simp; omega
      clear h1 h1' s1 s2 hne
      go_wp2_with fail
      go_ret2
      exact ⟨rfl, hB⟩
    · obtain rfl := h1' s2
      clear h1 h1' s1 s2
      go_wp2_with fail
      go_ret2
      exact ⟨rfl, hB⟩
  · obtain rfl := h1' s1
    clear h1 h1' s1 c2
    go_wp2_with fail
    go_ret2
    exact ⟨rfl, hB⟩
end Go.Proofs.YtibbhpgpleeglaaGreatDoor

namespace Go.Proofs.YtibbhpgpleeglaaGreatDoor
open Go Go.RowKit

/-- A table and numbers. -/
def appM (n : Nat) (xs : Nat → Nat → Dyadic) (ys : Nat → Dyadic) (i : Nat) : Dyadic := sumD (fun j => xs i j * ys j) n
set_option maxRecDepth 100000 in
set_option maxHeartbeats 4000000 in
theorem mapply_yes (A B : Option Addr) (n c cc : Nat) (bs : Nat → Nat → Bool) (cs : Nat → Bool) (ss : Nat → Nat → ByteArray) (ts : Nat → ByteArray) (es : Nat → Nat → Int) (fs : Nat → Int) (xs : Nat → Nat → Dyadic) (ys : Nat → Dyadic) (L T0 : Nat) (w : World) (hn : n ≤ 8) (hx : ∀ i j, ND (bs i j) (ss i j) (es i j) (xs i j)) (hy : ∀ j, ND (cs j) (ts j) (fs j) (ys j)) (hdx : ∀ i j, DB L T0 (xs i j)) (hdy : ∀ j, DB L T0 (ys j)) (hLT : L + T0 ≤ 1500000) (hr : RdM w A n (fun _ => n) bs ss es) (hr' : RdN w B n cs ts fs) (hT : TabAt 0 Lib.deBruijn64tab w) :
    Calls Tryz.prog 19 #[.slice A n c, .slice B n cc] w fun e w' => (∃ C d, e = .returned (.tuple #[.slice C n d, .int .i64 0]) ∧ n ≤ d ∧ (C = none → n = 0 ∧ d = 0) ∧ RdN w' C n (fun i => neg (dm (appM n xs ys i))) (fun i => mag (dm (appM n xs ys i))) (fun i => de (appM n xs ys i))) ∧ Below w.heap.size w w' := by
  have c1 := Lib.hid (fun W h => mcheck_any A n c (fun _ => n) W (by omega) h)
  have HSQ := Lib.hid (show sqB n (fun _ => n) from ⟨hn, fun _ _ => rfl⟩)
  have HR := Lib.hid hr
  have HR' := Lib.hid hr'
  have HX := Lib.hid hx
  have HY := Lib.hid hy
  have HDX := Lib.hid hdx
  have HDY := Lib.hid hdy
  have HT := Lib.hid hT
  clear hr hr' hx hy hdx hdy hT
  go_enter Tryz.func19, Tryz.ntmps19
  go_wp2_with fail
  refine (c1.out _ HR.out.len).mono ?_
  rintro e w0 ⟨h1, _, hB⟩
  obtain rfl := h1 HSQ.out
  clear h1 c1
  go_wp2_with fail
  have hon := OwnK.nil_ w0 w0.heap.size 29 3 (cel3 (fun i => neg (dm (appM n xs ys i))) (fun i => mag (dm (appM n xs ys i))) (fun i => de (appM n xs ys i)))
  have HB2 := Lib.hid hB
  go_loopw [6, 21] (fun v i wr => ∃ k : Nat, k ≤ n ∧ i = .int .i64 (k : Nat) ∧ OwnK wr w0.heap.size 29 3 v k (cel3 (fun i => neg (dm (appM n xs ys i))) (fun i => mag (dm (appM n xs ys i))) (fun i => de (appM n xs ys i))) ∧ Below w0.heap.size w0 wr) (fun _ i _ => n - (RowKit.intOf i).toNat)
  case atStart => exact ⟨0, Nat.zero_le _, rfl, hon, Below.refl _ _⟩
  case round =>
    obtain ⟨k, hk, rfl, hown, hB⟩ := hrel
    by_cases hlt : k < n
    · have hB4 := nxt HB2.out hB
      obtain ⟨b, off, rfl, hc⟩ := (HR.out.below hB4) (by omega)
      obtain ⟨Ai, ci, _, hAi, g1, hi1⟩ := hc k hlt
      have hlti : (k : Int) < (n : Int) := by omega
      have c4 := Lib.hid (inner_any Ai B n ci cc (bs k) cs (ss k) ts (es k) fs (xs k) ys L T0 wr (by omega) (HX.out k) HY.out (HDX.out k) HDY.out hLT hi1.num (HR'.out.below hB4) (tab_keep HT.out hB4))
      clear hc hi1 hB4 hon
      rw [show sumD (fun j => xs k j * ys j) n = appM n xs ys k from rfl] at c4
      go_wp2_with fail
      refine c4.out.mono ?_
      rintro e w6 ⟨rfl, hb⟩
      replace hown := hown.below hb
      replace hB := nxt hB hb
      clear hb c4
      have hO := hown.below (b1 w6 (.cells #[.bool (neg (dm (appM n xs ys k))), .string (mag (dm (appM n xs ys k))), .int .i64 (de (appM n xs ys k))] 29))
      have ZR := Bx.new w6 29 #[.bool (neg (dm (appM n xs ys k))), .string (mag (dm (appM n xs ys k))), .int .i64 (de (appM n xs ys k))]
      have HN := Lib.hid (show ∀ j, j < 1 → ∀ i, i < 3 → (w6.alloc (.cells #[.bool (neg (dm (appM n xs ys k))), .string (mag (dm (appM n xs ys k))), .int .i64 (de (appM n xs ys k))] 29)).cell? ⟨w6.heap.size, 0 + j * 3 + i, none⟩ = ((cel3 (fun j => neg (dm (appM n xs ys (k + j)))) (fun j => mag (dm (appM n xs ys (k + j)))) (fun j => de (appM n xs ys (k + j)))) j)[i]? from fun j hj i hi => by
        have hj' : j = 0 := by omega
        have hi' : i = 0 ∨ i = 1 ∨ i = 2 := by omega
        subst hj'
        rcases hi' with rfl | rfl | rfl <;> simp [ZR.cel, cel3])
      have HO := Lib.hid (And.intro hO (nxtA hB (.cells #[.bool (neg (dm (appM n xs ys k))), .string (mag (dm (appM n xs ys k))), .int .i64 (de (appM n xs ys k))] 29)))
      have HS2 := Lib.hid (show w0.heap.size ≤ (w6.alloc (.cells #[.bool (neg (dm (appM n xs ys k))), .string (mag (dm (appM n xs ys k))), .int .i64 (de (appM n xs ys k))] 29)).heap.size by have := hB.size; simp; omega)
      have HM2 := Lib.hid (show k + 1 ≤ 9223372036854775807 ∧ (k + 1) * 32 ≤ 140737488355328 by omega)
      clear hO ZR hown hB
      go_wp2_with (at_builtin; refine wpList_appendK rfl (.tmp 25) (.tmp 29) _ rfl w0.heap.size 29 _ 3 32 Tryz.underlying38 info_Num rfl (by decide) _ k (cel3 (fun i => neg (dm (appM n xs ys i))) (fun i => mag (dm (appM n xs ys i))) (fun i => de (appM n xs ys i))) rfl HO.out.1 ⟨w6.heap.size, 0, none⟩ 1 1 (cel3 (fun j => neg (dm (appM n xs ys (k + j)))) (fun j => mag (dm (appM n xs ys (k + j)))) (fun j => de (appM n xs ys (k + j)))) (fun _ => rfl) (fun _ => rfl) (cel3_one _ _ _) rfl rfl HN.out HM2.out.1 HM2.out.2 HS2.out ?_; intro v' w7 ho' hb5)
      have ho2 := ho'.congr (f' := (cel3 (fun i => neg (dm (appM n xs ys i))) (fun i => mag (dm (appM n xs ys i))) (fun i => de (appM n xs ys i)))) (fun j hj => by
        split
        · rfl
        · rename_i h
          unfold cel3
          dsimp only
          rw [show k + (j - k) = j by omega])
      exact ⟨⟨k + 1, by omega, by go_num, ho2, belB HO.out.2 hb5 (Nat.le_refl _)⟩, by simp [RowKit.intOf]; omega⟩
    · obtain rfl : k = n := by omega
      have hlti : ¬ (k : Int) < (k : Int) := by omega
      obtain ⟨C, d, rfl, hkd, hrd, _, hno⟩ := OwnK.rd (k := 3) (fun _ => rfl) hown
      go_wp2
      go_ret2
      exact ⟨⟨C, d, rfl, hkd, hno, hrd.num⟩, nxt HB2.out hB⟩
set_option maxRecDepth 100000 in
set_option maxHeartbeats 2000000 in
theorem mapply_no (A B : Option Addr) (n m c cc : Nat) (ms : Nat → Nat) (w : World) (hn : n ≤ 4611686018427387904) (h : ¬ (sqB n ms ∧ n = m)) (hr : RdL w A n ms) :
    Calls Tryz.prog 19 #[.slice A n c, .slice B m cc] w fun e w' => e = .returned (.tuple #[.slice none 0 0, .int .i64 1]) ∧ Below w.heap.size w w' := by
  have c1 := Lib.hid (fun W h => mcheck_any A n c ms W hn h)
  have HR := Lib.hid hr
  have HH := Lib.hid h
  clear hr h
  go_enter Tryz.func19, Tryz.ntmps19
  go_wp2_with fail
  refine (c1.out _ HR.out).mono ?_
  rintro e w1 ⟨h1, h1', hB⟩
  clear c1
  by_cases s1 : sqB n ms
  · obtain rfl := h1 s1
    have hne : ¬ n = m := fun e => HH.out ⟨s1, e⟩
    have hz : ((m : Int) != (n : Int)) = true := by simp; omega
    clear h1 h1' s1 hne
    go_wp2_with fail
    go_ret2
    exact ⟨rfl, hB⟩
  · obtain rfl := h1' s1
    clear h1 h1' s1
    go_wp2_with fail
    go_ret2
    exact ⟨rfl, hB⟩
end Go.Proofs.YtibbhpgpleeglaaGreatDoor

