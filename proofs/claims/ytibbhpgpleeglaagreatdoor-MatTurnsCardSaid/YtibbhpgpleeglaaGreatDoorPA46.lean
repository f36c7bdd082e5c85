/- The walks and plain laws beneath the statements. -/
import Derived.Test.YtibbhpgpleeglaaGreatDoorPA38
import Derived.Test.YtibbhpgpleeglaaGreatDoorPA41
import Derived.Test.YtibbhpgpleeglaaGreatDoorPA45
namespace Go.Proofs.YtibbhpgpleeglaaGreatDoor
open Go Go.RowKit

/-- A row of whole numbers, as dyadic ones. -/
def RdVI (w : World) (A : Option Addr) (n : Nat) (v : Nat → Int) : Prop := RdN w A n (fun j => neg (dm (dy (v j) 0))) (fun j => mag (dm (dy (v j) 0))) (fun j => de (dy (v j) 0))
def XI (M : Nat → Nat → Int) (i j : Nat) : Dyadic := dy (M i j) 0
def RdMI (w : World) (A : Option Addr) (n : Nat) (M : Nat → Nat → Int) : Prop := RdM w A n (fun _ => n) (fun i j => neg (dm (XI M i j))) (fun i j => mag (dm (XI M i j))) (fun i j => de (XI M i j))
theorem RdVI.below {w w' : World} {A : Option Addr} {n : Nat} {v : Nat → Int} (h : RdVI w A n v) (hb : Below w.heap.size w w') : RdVI w' A n v := RdN.below h hb
theorem RdM.congr {w : World} {A : Option Addr} {n : Nat} {ms ms' : Nat → Nat} {bs bs' : Nat → Nat → Bool} {ss ss' : Nat → Nat → ByteArray} {es es' : Nat → Nat → Int} (h : RdM w A n ms bs ss es) (hm : ∀ i, i < n → ms i = ms' i) (hv : ∀ i j, i < n → j < ms i → bs i j = bs' i j ∧ ss i j = ss' i j ∧ es i j = es' i j) : RdM w A n ms' bs' ss' es' := fun h0 => by
  obtain ⟨b, off, e, hc⟩ := h h0
  refine ⟨b, off, e, fun i hi => ?_⟩
  obtain ⟨Ai, ci, h1, h2, h3, h4⟩ := hc i hi
  rw [hm i hi] at h1 h2 h3 h4
  refine ⟨Ai, ci, h1, h2, h3, fun h5 => ?_⟩
  obtain ⟨b', off', e', hc'⟩ := h4 h5
  refine ⟨b', off', e', fun j hj q hq => ?_⟩
  obtain ⟨e1, e2, e3⟩ := hv i j hi (by rw [hm i hi]; exact hj)
  have e4 : cel3 (bs i) (ss i) (es i) j = cel3 (bs' i) (ss' i) (es' i) j := by unfold cel3; rw [e1, e2, e3]
  exact (hc' j hj q hq).trans (congrArg (fun l : List Value => l[q]?) e4)
theorem RdM.same {w : World} {A : Option Addr} {n : Nat} {xs ys : Nat → Nat → Dyadic} (h : RdM w A n (fun _ => n) (fun i q => neg (dm (xs i q))) (fun i q => mag (dm (xs i q))) (fun i q => de (xs i q))) (he : ∀ i j, i < n → j < n → xs i j = ys i j) : RdM w A n (fun _ => n) (fun i q => neg (dm (ys i q))) (fun i q => mag (dm (ys i q))) (fun i q => de (ys i q)) :=
  h.congr (fun _ _ => rfl) fun i j hi hj => by rw [he i j hi hj]; exact ⟨rfl, rfl, rfl⟩
theorem RdN.same {w : World} {A : Option Addr} {n : Nat} {xs ys : Nat → Dyadic} (h : RdN w A n (fun q => neg (dm (xs q))) (fun q => mag (dm (xs q))) (fun q => de (xs q))) (he : ∀ j, j < n → xs j = ys j) : RdN w A n (fun q => neg (dm (ys q))) (fun q => mag (dm (ys q))) (fun q => de (ys q)) := fun h0 => by
  obtain ⟨b, off, e, hc⟩ := h h0
  exact ⟨b, off, e, fun j hj => by
    have h1 := hc j hj
    have h2 := he j hj
    dsimp only at h1 ⊢
    rw [← h2]
    exact h1⟩

set_option maxRecDepth 100000 in
set_option maxHeartbeats 1000000 in
theorem lrow_any (A : Option Addr) (n c : Nat) (v : Nat → Int) (w : World) (hn : n ≤ 1000) (hv : ∀ j, -9223372036854775808 ≤ v j ∧ v j ≤ 9223372036854775807) (hr : Rd w A n (fun j => .int .i64 (v j))) :
    Calls Tryz.prog 25 #[.slice A n c] w fun e w' => (∃ B d, e = .returned (.slice B n d) ∧ n ≤ d ∧ (B = none → n = 0 ∧ d = 0) ∧ RdVI w' B n v) ∧ Below w.heap.size w w' := by
  have HR := Lib.hid hr
  have HV := Lib.hid hv
  clear hr hv
  go_enter Tryz.func25, Tryz.ntmps25
  go_wp2_with fail
  have hon := OwnK.nil_ w w.heap.size 29 3 (cel3 (fun j => neg (dm ((dy (v j) 0)))) (fun j => mag (dm ((dy (v j) 0)))) (fun j => de ((dy (v j) 0))))
  go_loopw [3, 4] (fun u i wr => ∃ k : Nat, k ≤ n ∧ i = .int .i64 (k : Nat) ∧ OwnK wr w.heap.size 29 3 u k (cel3 (fun j => neg (dm ((dy (v j) 0)))) (fun j => mag (dm ((dy (v j) 0)))) (fun j => de ((dy (v j) 0)))) ∧ Below w.heap.size w wr) (fun _ i _ => n - (RowKit.intOf i).toNat)
  case atStart => exact ⟨0, Nat.zero_le _, rfl, hon, Below.refl _ _⟩
  case round =>
    clear hon
    obtain ⟨k, hk, rfl, hown, hB⟩ := hrel
    by_cases hlt : k < n
    · have hki : (k : Int) < (n : Int) := by omega
      have hkj : (0 : Int) ≤ (k : Int) := by omega
      obtain ⟨b, off, rfl, hc⟩ := HR.out (by omega)
      have g1 := cell_later hB (hc k hlt)
      have cO := Lib.hid (rdOf_any (v k) wr (HV.out k).1 (HV.out k).2)
      have HKB := Lib.hid (And.intro hown hB)
      clear hc hown hB
      go_wp2_with fail
      refine cO.out.mono ?_
      rintro e w6 ⟨rfl, hb⟩
      obtain ⟨hown, hB⟩ := HKB.out
      replace hown := hown.below hb
      replace hB := nxt hB hb
      clear hb cO HKB g1
      have hO := hown.below (b1 w6 (.cells #[.bool (neg (dm ((dy (v k) 0)))), .string (mag (dm ((dy (v k) 0)))), .int .i64 (de ((dy (v k) 0)))] 29))
      have ZR := Bx.new w6 29 #[.bool (neg (dm ((dy (v k) 0)))), .string (mag (dm ((dy (v k) 0)))), .int .i64 (de ((dy (v k) 0)))]
      have HN := Lib.hid (show ∀ j, j < 1 → ∀ i, i < 3 → (w6.alloc (.cells #[.bool (neg (dm ((dy (v k) 0)))), .string (mag (dm ((dy (v k) 0)))), .int .i64 (de ((dy (v k) 0)))] 29)).cell? ⟨w6.heap.size, 0 + j * 3 + i, none⟩ = ((cel3 (fun j => neg (dm ((dy (v (k + j)) 0)))) (fun j => mag (dm ((dy (v (k + j)) 0)))) (fun j => de ((dy (v (k + j)) 0)))) j)[i]? from fun j hj i hi => by
        have hj' : j = 0 := by omega
        have hi' : i = 0 ∨ i = 1 ∨ i = 2 := by omega
        subst hj'
        rcases hi' with rfl | rfl | rfl <;> simp [ZR.cel, cel3])
      have HO := Lib.hid (And.intro hO (nxtA hB (.cells #[.bool (neg (dm ((dy (v k) 0)))), .string (mag (dm ((dy (v k) 0)))), .int .i64 (de ((dy (v k) 0)))] 29)))
      have HS2 := Lib.hid (show w.heap.size ≤ (w6.alloc (.cells #[.bool (neg (dm ((dy (v k) 0)))), .string (mag (dm ((dy (v k) 0)))), .int .i64 (de ((dy (v k) 0)))] 29)).heap.size by have := hB.size; simp; omega)
      have HM2 := Lib.hid (show k + 1 ≤ 9223372036854775807 ∧ (k + 1) * 32 ≤ 140737488355328 by omega)
      clear hO ZR hown hB
      go_wp2_with (at_builtin; refine wpList_appendK rfl (.tmp 11) (.tmp 17) _ rfl w.heap.size 29 _ 3 32 Tryz.underlying38 info_Num rfl (by decide) _ k (cel3 (fun j => neg (dm ((dy (v j) 0)))) (fun j => mag (dm ((dy (v j) 0)))) (fun j => de ((dy (v j) 0)))) rfl HO.out.1 ⟨w6.heap.size, 0, none⟩ 1 1 (cel3 (fun j => neg (dm ((dy (v (k + j)) 0)))) (fun j => mag (dm ((dy (v (k + j)) 0)))) (fun j => de ((dy (v (k + j)) 0)))) (fun _ => rfl) (fun _ => rfl) (cel3_one _ _ _) rfl rfl HN.out HM2.out.1 HM2.out.2 HS2.out ?_; intro v' w17 ho' hb5)
      have ho2 := ho'.congr (f' := (cel3 (fun j => neg (dm ((dy (v j) 0)))) (fun j => mag (dm ((dy (v j) 0)))) (fun j => de ((dy (v j) 0))))) (fun j hj => by
        split
        · rfl
        · rename_i h
          unfold cel3
          dsimp only
          rw [show k + (j - k) = j by omega])
      exact ⟨⟨k + 1, by omega, by go_num, ho2, belB HO.out.2 hb5 (Nat.le_refl _)⟩, by simp [RowKit.intOf]; omega⟩
    · obtain rfl : k = n := by omega
      have hki : ¬ (k : Int) < (k : Int) := by omega
      obtain ⟨B, d, rfl, hkd, hrd, _, hno⟩ := OwnK.rd (k := 3) (fun _ => rfl) hown
      go_wp2
      go_ret
      exact ⟨⟨B, d, rfl, hkd, hno, hrd.num⟩, hB⟩
def v2 (a b : Int) (j : Nat) : Int := if j = 0 then a else b
def mk2 (a b c d : Int) (i j : Nat) : Int := if i = 0 then v2 a b j else v2 c d j
def sm (x : Int) : Prop := -100 ≤ x ∧ x ≤ 100
theorem sm_v2 {a b : Int} (ha : sm a) (hb : sm b) (j : Nat) : sm (v2 a b j) := by unfold v2; split <;> assumption
theorem sm_mk2 {a b c d : Int} (ha : sm a) (hb : sm b) (hc : sm c) (hd : sm d) (i j : Nat) : sm (mk2 a b c d i j) := by unfold mk2; split <;> exact sm_v2 ‹_› ‹_› j
theorem db_sm {x : Int} (h : sm x) : DB 0 8 (dy x 0) := ⟨x, by simp, by have := h.1; have := h.2; omega⟩
/-- Two rows of a table. -/
def RowP (w : World) (n : Nat) (v : Nat → Int) (u : Value) : Prop := ∃ B d, u = .slice B n d ∧ n ≤ d ∧ (B = none → n = 0 ∧ d = 0) ∧ RdVI w B n v
theorem RowP.below {w w' : World} {n : Nat} {v : Nat → Int} {u : Value} (h : RowP w n v u) (hb : Below w.heap.size w w') : RowP w' n v u := by
  obtain ⟨B, d, h1, h2, h3, h4⟩ := h
  exact ⟨B, d, h1, h2, h3, h4.below hb⟩
theorem row2 (a b : Int) (g : Nat) (W : World) (ha : sm a) (hb : sm b) (h : Bx W g 2 #[.int .i64 a, .int .i64 b]) :
    Calls Tryz.prog 25 #[.slice (some ⟨g, 0, none⟩) 2 2] W fun e w' => (∃ u, e = .returned u ∧ RowP w' 2 (v2 a b) u) ∧ Below W.heap.size W w' :=
  (lrow_any (some ⟨g, 0, none⟩) 2 2 (v2 a b) W (by decide) (fun j => by have := sm_v2 ha hb j; unfold sm at this; omega) (fun _ => ⟨g, 0, rfl, fun j hj => by
    rcases (by omega : j = 0 ∨ j = 1) with rfl | rfl
    · exact h.cel 0
    · exact h.cel 1⟩)).mono fun e w' ⟨⟨B, d, h1, h2, h3, h4⟩, hb⟩ => ⟨⟨_, h1, B, d, rfl, h2, h3, h4⟩, hb⟩
theorem row1 (a : Int) (g : Nat) (W : World) (ha : sm a) (h : Bx W g 2 #[.int .i64 a]) :
    Calls Tryz.prog 25 #[.slice (some ⟨g, 0, none⟩) 1 1] W fun e w' => (∃ u, e = .returned u ∧ RowP w' 1 (v2 a a) u) ∧ Below W.heap.size W w' :=
  (lrow_any (some ⟨g, 0, none⟩) 1 1 (v2 a a) W (by decide) (fun j => by have := sm_v2 ha ha j; unfold sm at this; omega) (fun _ => ⟨g, 0, rfl, fun j hj => by
    obtain rfl : j = 0 := by omega
    exact h.cel 0⟩)).mono fun e w' ⟨⟨B, d, h1, h2, h3, h4⟩, hb⟩ => ⟨⟨_, h1, B, d, rfl, h2, h3, h4⟩, hb⟩
theorem tab2 {w : World} {g : Nat} {u1 u2 : Value} {a b c d : Int} (h : Bx w g 38 #[u1, u2]) (h1 : RowP w 2 (v2 a b) u1) (h2 : RowP w 2 (v2 c d) u2) : RdMI w (some ⟨g, 0, none⟩) 2 (mk2 a b c d) := fun _ => by
  obtain ⟨B1, d1, rfl, e1, e2, e3⟩ := h1
  obtain ⟨B2, d2, rfl, f1, f2, f3⟩ := h2
  refine ⟨g, 0, rfl, fun i hi => ?_⟩
  rcases (by omega : i = 0 ∨ i = 1) with rfl | rfl
  · exact ⟨B1, d1, e1, e2, h.cel 0, e3.cel⟩
  · exact ⟨B2, d2, f1, f2, h.cel 1, f3.cel⟩
theorem tab1 {w : World} {g : Nat} {u1 : Value} {a : Int} (h : Bx w g 38 #[u1]) (h1 : RowP w 1 (v2 a a) u1) : RdMI w (some ⟨g, 0, none⟩) 1 (mk2 a a a a) := fun _ => by
  obtain ⟨B1, d1, rfl, e1, e2, e3⟩ := h1
  refine ⟨g, 0, rfl, fun i hi => ?_⟩
  obtain rfl : i = 0 := by omega
  exact ⟨B1, d1, e1, e2, h.cel 0, e3.cel⟩
theorem tabL {w : World} {g : Nat} {u1 u2 : Value} {a b c : Int} (h : Bx w g 38 #[u1, u2]) (h1 : RowP w 2 (v2 a b) u1) (h2 : RowP w 1 (v2 c c) u2) : RdL w (some ⟨g, 0, none⟩) 2 (fun i => if i = 0 then 2 else 1) := fun _ => by
  obtain ⟨B1, d1, rfl, _⟩ := h1
  obtain ⟨B2, d2, rfl, _⟩ := h2
  refine ⟨g, 0, rfl, fun i hi => ?_⟩
  rcases (by omega : i = 0 ∨ i = 1) with rfl | rfl
  · exact ⟨B1, d1, h.cel 0⟩
  · exact ⟨B2, d2, h.cel 1⟩
theorem nd_XI {M : Nat → Nat → Int} (h : ∀ i j, sm (M i j)) (i j : Nat) : ND (neg (dm (XI M i j))) (mag (dm (XI M i j))) (de (XI M i j)) (XI M i j) := nd_db (db_sm (h i j)) (by decide)
theorem detMI (M : Nat → Nat → Int) (hs : ∀ i j, sm (M i j)) (n : Nat) (hn : n ≤ 4) (A : Option Addr) (c : Nat) (W : World) (hr : RdMI W A n M) (hT : TabAt 0 Lib.deBruijn64tab W) (z : Int) (hz : detL n (XI M) = dy z 0) :
    Calls Tryz.prog 10 #[.slice A n c] W fun r w' => r = .returned (.tuple #[.agg #[.bool (neg (dm (dy z 0))), .string (mag (dm (dy z 0))), .int .i64 (de (dy z 0))], .int .i64 0]) ∧ Below W.heap.size W w' := by
  have h := mdet_any 0 8 (by decide) n hn A c _ _ _ (XI M) W (nd_XI hs) (fun i j => db_sm (hs i j)) hr hT
  rwa [hz] at h
/-- A slice that reads as a table. -/
def TabP (w : World) (n : Nat) (M : Nat → Nat → Int) (u : Value) : Prop := ∃ B d, u = .slice B n d ∧ RdMI w B n M
theorem TabP.below {w w' : World} {n : Nat} {M : Nat → Nat → Int} {u : Value} (h : TabP w n M u) (hb : Below w.heap.size w w') : TabP w' n M u := by
  obtain ⟨B, d, h1, h2⟩ := h
  exact ⟨B, d, h1, RdM.below h2 hb⟩
theorem adjMI (M M' : Nat → Nat → Int) (hs : ∀ i j, sm (M i j)) (n : Nat) (hn : n ≤ 4) (A : Option Addr) (c : Nat) (W : World) (hr : RdMI W A n M) (hT : TabAt 0 Lib.deBruijn64tab W) (hz : ∀ i j, i < n → j < n → adjL n (XI M) i j = XI M' i j) :
    Calls Tryz.prog 11 #[.slice A n c] W fun r w' => (∃ B d, r = .returned (.tuple #[.slice B n d, .int .i64 0]) ∧ RdMI w' B n M') ∧ Below W.heap.size W w' :=
  (madj_any 0 8 (by decide) n hn A c _ _ _ (XI M) W (nd_XI hs) (fun i j => db_sm (hs i j)) hr hT).mono fun e w' ⟨⟨B, d, h1, h2⟩, hb⟩ => ⟨⟨B, d, h1, RdM.same h2 hz⟩, hb⟩
theorem sameMI (M : Nat → Nat → Int) (n : Nat) (hn : n ≤ 1000) (A B : Option Addr) (c d : Nat) (W : World) (h1 : RdMI W A n M) (h2 : RdMI W B n M) :
    Calls Tryz.prog 14 #[.slice A n c, .slice B n d] W fun e w' => e = .returned (.bool true) ∧ Below W.heap.size W w' := msame_any A B n c d (fun _ => n) _ _ _ W hn (fun _ _ => hn) h1 h2
theorem ofK (z : Int) (W : World) (hz : sm z) : Calls Tryz.prog 26 #[.int .i64 z] W fun r w' => r = .returned (.agg #[.bool (neg (dm (dy z 0))), .string (mag (dm (dy z 0))), .int .i64 (de (dy z 0))]) ∧ Below W.heap.size W w' := rdOf_any z W (by unfold sm at hz; omega) (by unfold sm at hz; omega)
def yh (j : Nat) : Dyadic := if j = 0 then dy 1 0 else dy 1 (-1)
theorem half_rd {w : World} {g : Nat} (h : Bx w g 29 #[.bool (neg (dm (dy 1 0))), .string (mag (dm (dy 1 0))), .int .i64 (de (dy 1 0)), .bool (neg (dm (dy 1 (-1)))), .string (mag (dm (dy 1 (-1)))), .int .i64 (de (dy 1 (-1)))]) : RdN w (some ⟨g, 0, none⟩) 2 (fun j => neg (dm (yh j))) (fun j => mag (dm (yh j))) (fun j => de (yh j)) := fun _ => ⟨g, 0, rfl, fun j hj => by
  rcases (by omega : j = 0 ∨ j = 1) with rfl | rfl
  · exact ⟨h.cel 0, h.cel 1, h.cel 2⟩
  · exact ⟨h.cel 3, h.cel 4, h.cel 5⟩⟩
theorem db_yh (j : Nat) : DB 8 8 (yh j) := by
  unfold yh
  split
  · exact db_raw (S := 1) (by decide) (by decide) (by decide)
  · exact db_raw (S := 1) (by decide) (by decide) (by decide)
theorem applyK (A B : Option Addr) (c d : Nat) (W : World) (hr : RdMI W A 2 (mk2 1 2 3 4)) (hr' : RdN W B 2 (fun j => neg (dm (yh j))) (fun j => mag (dm (yh j))) (fun j => de (yh j))) (hT : TabAt 0 Lib.deBruijn64tab W) :
    Calls Tryz.prog 19 #[.slice A 2 c, .slice B 2 d] W fun e w' => (∃ C d, e = .returned (.tuple #[.slice C 2 d, .int .i64 0]) ∧ RdVI w' C 2 (v2 2 5)) ∧ Below W.heap.size W w' := by
  have hs : ∀ i j, sm (mk2 1 2 3 4 i j) := sm_mk2 (by unfold sm; decide) (by unfold sm; decide) (by unfold sm; decide) (by unfold sm; decide)
  refine (mapply_yes A B 2 c d _ _ _ _ _ _ (XI (mk2 1 2 3 4)) yh 8 8 W (by decide) (nd_XI hs) (fun j => nd_db (db_yh j) (by decide)) (fun i j => db_up (db_sm (hs i j)) (by decide) (by decide)) db_yh (by decide) hr hr' hT).mono fun e w' ⟨⟨C, d, h1, _, _, h2⟩, hb⟩ => ⟨⟨C, d, h1, RdN.same (ys := fun j => dy (v2 2 5 j) 0) h2 fun j hj => ?_⟩, hb⟩
  rcases (by omega : j = 0 ∨ j = 1) with rfl | rfl <;> kernel_rfl
theorem shiftK (W : World) : Calls Tryz.prog 27 #[.agg #[.bool (neg (dm (dy 1 0))), .string (mag (dm (dy 1 0))), .int .i64 (de (dy 1 0))], .int .i64 (-1)] W fun r w' => r = .returned (.agg #[.bool (neg (dm (dy 1 (-1)))), .string (mag (dm (dy 1 (-1)))), .int .i64 (de (dy 1 (-1)))]) ∧ Below W.heap.size W w' := by
  have c := rdShift_any (mag (dm (dy 1 0))) (neg (dm (dy 1 0))) (de (dy 1 0)) (-1) W (by decide) (by decide) (by decide)
  rw [ival_mk] at c
  exact c
end Go.Proofs.YtibbhpgpleeglaaGreatDoor

namespace Go.Proofs.YtibbhpgpleeglaaGreatDoor
open Go Go.RowKit

set_option maxRecDepth 100000 in
set_option maxHeartbeats 4000000 in
theorem awakeM (w : World) (hT : TabAt 0 Lib.deBruijn64tab w) : Calls Tryz.prog 8 #[] w fun r w' => r = .returned (.bool true) ∧ Below w.heap.size w w' := by
  have HT := Lib.hid hT
  clear hT
  have hB := Below.refl w.heap.size w
  go_enter Tryz.func8, Tryz.ntmps8
  have hbb := b1 w (.cells #[.int .i64 1, .int .i64 2] 2)
  replace hB := nxt hB hbb
  have Z1 := Bx.new w 2 #[.int .i64 1, .int .i64 2]
  clear hbb
  have HP := Lib.hid (And.intro Z1 hB)
  clear Z1 hB
  go_wp2_with fail
  obtain ⟨Z1, hB⟩ := HP.out
  clear HP
  generalize w.alloc (.cells #[.int .i64 1, .int .i64 2] 2) = w1 at *
  refine (row2 1 2 w.heap.size w1 (by unfold sm; decide) (by unfold sm; decide) Z1).mono ?_
  rintro e w2 ⟨⟨u1_, rfl, r1⟩, hbb⟩
  replace Z1 := Z1.later hbb
  replace hB := nxt hB hbb
  clear hbb
  obtain ⟨B1, d1, rfl, x1, y1, z1⟩ := r1
  have R1 : RowP w2 2 (v2 1 2) (.slice B1 2 d1) := ⟨B1, d1, rfl, x1, y1, z1⟩
  clear x1 y1 z1
  clear Z1
  have hbb := b1 w2 (.cells #[.int .i64 3, .int .i64 4] 2)
  replace R1 := R1.below hbb
  replace hB := nxt hB hbb
  have Z2 := Bx.new w2 2 #[.int .i64 3, .int .i64 4]
  clear hbb
  have HP := Lib.hid (And.intro R1 (And.intro Z2 hB))
  clear R1 Z2 hB
  go_wp2_with fail
  obtain ⟨R1, Z2, hB⟩ := HP.out
  clear HP
  generalize w2.alloc (.cells #[.int .i64 3, .int .i64 4] 2) = w3 at *
  generalize w2.heap.size = g3 at *
  refine (row2 3 4 g3 w3 (by unfold sm; decide) (by unfold sm; decide) Z2).mono ?_
  rintro e w4 ⟨⟨u2_, rfl, r2⟩, hbb⟩
  replace R1 := R1.below hbb
  replace Z2 := Z2.later hbb
  replace hB := nxt hB hbb
  clear hbb
  obtain ⟨B2, d2, rfl, x2, y2, z2⟩ := r2
  have R2 : RowP w4 2 (v2 3 4) (.slice B2 2 d2) := ⟨B2, d2, rfl, x2, y2, z2⟩
  clear x2 y2 z2
  clear Z2
  have hbb := b1 w4 (.cells #[.slice B1 2 d1, .slice B2 2 d2] 38)
  replace R1 := R1.below hbb
  replace R2 := R2.below hbb
  replace hB := nxt hB hbb
  have ZM := Bx.new w4 38 #[.slice B1 2 d1, .slice B2 2 d2]
  clear hbb
  have TM := tab2 ZM R1 R2
  have HP := Lib.hid (And.intro R1 (And.intro R2 (And.intro ZM (And.intro TM hB))))
  clear R1 R2 ZM TM hB
  go_wp2_with fail
  obtain ⟨R1, R2, ZM, TM, hB⟩ := HP.out
  clear HP
  generalize w4.alloc (.cells #[.slice B1 2 d1, .slice B2 2 d2] 38) = w5 at *
  generalize w4.heap.size = g5 at *
  clear ZM R1 R2
  refine (detMI (mk2 1 2 3 4) (sm_mk2 (by unfold sm; decide) (by unfold sm; decide) (by unfold sm; decide) (by unfold sm; decide)) 2 (by decide) (some ⟨g5, 0, none⟩) 2 w5 TM (tab_keep HT.out hB) (-2) (by kernel_rfl)).mono ?_
  rintro e w6 ⟨rfl, hbb⟩
  replace TM := RdM.below TM hbb
  replace hB := nxt hB hbb
  clear hbb
  have hbb := b1 w6 (.cells #[.bool (neg (dm (dy (-2) 0))), .string (mag (dm (dy (-2) 0))), .int .i64 (de (dy (-2) 0))] 29)
  replace TM := RdM.below TM hbb
  replace hB := nxt hB hbb
  have X2 := Bx.new w6 29 #[.bool (neg (dm (dy (-2) 0))), .string (mag (dm (dy (-2) 0))), .int .i64 (de (dy (-2) 0))]
  clear hbb
  have HP := Lib.hid (And.intro TM (And.intro X2 hB))
  clear TM X2 hB
  go_wp2_with fail
  obtain ⟨TM, X2, hB⟩ := HP.out
  clear HP
  generalize w6.alloc (.cells #[.bool (neg (dm (dy (-2) 0))), .string (mag (dm (dy (-2) 0))), .int .i64 (de (dy (-2) 0))] 29) = w7 at *
  generalize w6.heap.size = g7 at *
  refine (detMI (mk2 0 0 0 0) (sm_mk2 (by unfold sm; decide) (by unfold sm; decide) (by unfold sm; decide) (by unfold sm; decide)) 0 (by decide) none 0 w7 (fun h => absurd h (by decide)) (tab_keep HT.out hB) 1 (by kernel_rfl)).mono ?_
  rintro e w8 ⟨rfl, hbb⟩
  replace TM := RdM.below TM hbb
  replace X2 := X2.later hbb
  replace hB := nxt hB hbb
  clear hbb
  have hbb := b1 w8 (.cells #[.bool (neg (dm (dy 1 0))), .string (mag (dm (dy 1 0))), .int .i64 (de (dy 1 0))] 29)
  replace TM := RdM.below TM hbb
  replace X2 := X2.later hbb
  replace hB := nxt hB hbb
  have X4 := Bx.new w8 29 #[.bool (neg (dm (dy 1 0))), .string (mag (dm (dy 1 0))), .int .i64 (de (dy 1 0))]
  clear hbb
  have HP := Lib.hid (And.intro TM (And.intro X2 (And.intro X4 hB)))
  clear TM X2 X4 hB
  go_wp2_with fail
  obtain ⟨TM, X2, X4, hB⟩ := HP.out
  clear HP
  generalize w8.alloc (.cells #[.bool (neg (dm (dy 1 0))), .string (mag (dm (dy 1 0))), .int .i64 (de (dy 1 0))] 29) = w9 at *
  generalize w8.heap.size = g9 at *
  refine (adjMI (mk2 1 2 3 4) (mk2 4 (-2) (-3) 1) (sm_mk2 (by unfold sm; decide) (by unfold sm; decide) (by unfold sm; decide) (by unfold sm; decide)) 2 (by decide) (some ⟨g5, 0, none⟩) 2 w9 TM (tab_keep HT.out hB) (fun i j hi hj => by rcases (by omega : i = 0 ∨ i = 1) with rfl | rfl <;> rcases (by omega : j = 0 ∨ j = 1) with rfl | rfl <;> kernel_rfl)).mono ?_
  rintro e w10 ⟨⟨C6, c6, rfl, T6⟩, hbb⟩
  replace TM := RdM.below TM hbb
  replace X2 := X2.later hbb
  replace X4 := X4.later hbb
  replace hB := nxt hB hbb
  clear hbb
  have hbb := b1 w10 (.cells #[.int .i64 7] 2)
  replace TM := RdM.below TM hbb
  replace X2 := X2.later hbb
  replace X4 := X4.later hbb
  replace T6 := RdM.below T6 hbb
  replace hB := nxt hB hbb
  have Z3 := Bx.new w10 2 #[.int .i64 7]
  clear hbb
  have HP := Lib.hid (And.intro TM (And.intro X2 (And.intro X4 (And.intro T6 (And.intro Z3 hB)))))
  clear TM X2 X4 T6 Z3 hB
  go_wp2_with fail
  obtain ⟨TM, X2, X4, T6, Z3, hB⟩ := HP.out
  clear HP
  generalize w10.alloc (.cells #[.int .i64 7] 2) = w11 at *
  generalize w10.heap.size = g11 at *
  refine (row1 7 g11 w11 (by unfold sm; decide) Z3).mono ?_
  rintro e w12 ⟨⟨u3_, rfl, r3⟩, hbb⟩
  replace TM := RdM.below TM hbb
  replace X2 := X2.later hbb
  replace X4 := X4.later hbb
  replace T6 := RdM.below T6 hbb
  replace Z3 := Z3.later hbb
  replace hB := nxt hB hbb
  clear hbb
  obtain ⟨B3, d3, rfl, x3, y3, z3⟩ := r3
  have R3 : RowP w12 1 (v2 7 7) (.slice B3 1 d3) := ⟨B3, d3, rfl, x3, y3, z3⟩
  clear x3 y3 z3
  clear Z3
  have hbb := b1 w12 (.cells #[.slice B3 1 d3] 38)
  replace TM := RdM.below TM hbb
  replace X2 := X2.later hbb
  replace X4 := X4.later hbb
  replace T6 := RdM.below T6 hbb
  replace R3 := R3.below hbb
  replace hB := nxt hB hbb
  have ZD := Bx.new w12 38 #[.slice B3 1 d3]
  clear hbb
  have TD := tab1 ZD R3
  have HP := Lib.hid (And.intro TM (And.intro X2 (And.intro X4 (And.intro T6 (And.intro R3 (And.intro ZD (And.intro TD hB)))))))
  clear TM X2 X4 T6 R3 ZD TD hB
  go_wp2_with fail
  obtain ⟨TM, X2, X4, T6, R3, ZD, TD, hB⟩ := HP.out
  clear HP
  generalize w12.alloc (.cells #[.slice B3 1 d3] 38) = w13 at *
  generalize w12.heap.size = g13 at *
  clear ZD R3
  refine (adjMI (mk2 7 7 7 7) (mk2 1 1 1 1) (sm_mk2 (by unfold sm; decide) (by unfold sm; decide) (by unfold sm; decide) (by unfold sm; decide)) 1 (by decide) (some ⟨g13, 0, none⟩) 1 w13 TD (tab_keep HT.out hB) (fun i j hi hj => by obtain rfl : i = 0 := (by omega); obtain rfl : j = 0 := (by omega); kernel_rfl)).mono ?_
  rintro e w14 ⟨⟨C8, c8, rfl, T8⟩, hbb⟩
  replace TM := RdM.below TM hbb
  replace X2 := X2.later hbb
  replace X4 := X4.later hbb
  replace T6 := RdM.below T6 hbb
  replace TD := RdM.below TD hbb
  replace hB := nxt hB hbb
  clear hbb
  clear TD
  have HP := Lib.hid (And.intro TM (And.intro X2 (And.intro X4 (And.intro T6 (And.intro T8 hB)))))
  clear TM X2 X4 T6 T8 hB
  go_wp2_with fail
  obtain ⟨TM, X2, X4, T6, T8, hB⟩ := HP.out
  clear HP
  refine (ofK 1 w14 (by unfold sm; decide)).mono ?_
  rintro e w15 ⟨rfl, hbb⟩
  replace TM := RdM.below TM hbb
  replace X2 := X2.later hbb
  replace X4 := X4.later hbb
  replace T6 := RdM.below T6 hbb
  replace T8 := RdM.below T8 hbb
  replace hB := nxt hB hbb
  clear hbb
  have HP := Lib.hid (And.intro TM (And.intro X2 (And.intro X4 (And.intro T6 (And.intro T8 hB)))))
  clear TM X2 X4 T6 T8 hB
  go_wp2_with fail
  obtain ⟨TM, X2, X4, T6, T8, hB⟩ := HP.out
  clear HP
  refine (ofK 1 w15 (by unfold sm; decide)).mono ?_
  rintro e w16 ⟨rfl, hbb⟩
  replace TM := RdM.below TM hbb
  replace X2 := X2.later hbb
  replace X4 := X4.later hbb
  replace T6 := RdM.below T6 hbb
  replace T8 := RdM.below T8 hbb
  replace hB := nxt hB hbb
  clear hbb
  have HP := Lib.hid (And.intro TM (And.intro X2 (And.intro X4 (And.intro T6 (And.intro T8 hB)))))
  clear TM X2 X4 T6 T8 hB
  go_wp2_with fail
  obtain ⟨TM, X2, X4, T6, T8, hB⟩ := HP.out
  clear HP
  refine (shiftK w16).mono ?_
  rintro e w17 ⟨rfl, hbb⟩
  replace TM := RdM.below TM hbb
  replace X2 := X2.later hbb
  replace X4 := X4.later hbb
  replace T6 := RdM.below T6 hbb
  replace T8 := RdM.below T8 hbb
  replace hB := nxt hB hbb
  clear hbb
  have hbb := b1 w17 (.cells #[.bool (neg (dm (dy 1 0))), .string (mag (dm (dy 1 0))), .int .i64 (de (dy 1 0)), .bool (neg (dm (dy 1 (-1)))), .string (mag (dm (dy 1 (-1)))), .int .i64 (de (dy 1 (-1)))] 29)
  replace TM := RdM.below TM hbb
  replace X2 := X2.later hbb
  replace X4 := X4.later hbb
  replace T6 := RdM.below T6 hbb
  replace T8 := RdM.below T8 hbb
  replace hB := nxt hB hbb
  have ZH := Bx.new w17 29 #[.bool (neg (dm (dy 1 0))), .string (mag (dm (dy 1 0))), .int .i64 (de (dy 1 0)), .bool (neg (dm (dy 1 (-1)))), .string (mag (dm (dy 1 (-1)))), .int .i64 (de (dy 1 (-1)))]
  clear hbb
  have HP := Lib.hid (And.intro TM (And.intro X2 (And.intro X4 (And.intro T6 (And.intro T8 (And.intro ZH hB))))))
  clear TM X2 X4 T6 T8 ZH hB
  go_wp2_with fail
  obtain ⟨TM, X2, X4, T6, T8, ZH, hB⟩ := HP.out
  clear HP
  generalize w17.alloc (.cells #[.bool (neg (dm (dy 1 0))), .string (mag (dm (dy 1 0))), .int .i64 (de (dy 1 0)), .bool (neg (dm (dy 1 (-1)))), .string (mag (dm (dy 1 (-1)))), .int .i64 (de (dy 1 (-1)))] 29) = w18 at *
  generalize w17.heap.size = g18 at *
  have YH := half_rd ZH
  clear ZH
  refine (applyK (some ⟨g5, 0, none⟩) (some ⟨g18, 0, none⟩) 2 2 w18 TM YH (tab_keep HT.out hB)).mono ?_
  rintro e w19 ⟨⟨C10, c10, rfl, T10⟩, hbb⟩
  replace TM := RdM.below TM hbb
  replace X2 := X2.later hbb
  replace X4 := X4.later hbb
  replace T6 := RdM.below T6 hbb
  replace T8 := RdM.below T8 hbb
  replace YH := RdN.below YH hbb
  replace hB := nxt hB hbb
  clear hbb
  clear YH TM
  have hbb := b1 w19 (.cells #[.int .i64 1, .int .i64 2] 2)
  replace X2 := X2.later hbb
  replace X4 := X4.later hbb
  replace T6 := RdM.below T6 hbb
  replace T8 := RdM.below T8 hbb
  replace T10 := RdVI.below T10 hbb
  replace hB := nxt hB hbb
  have Z4 := Bx.new w19 2 #[.int .i64 1, .int .i64 2]
  clear hbb
  have HP := Lib.hid (And.intro X2 (And.intro X4 (And.intro T6 (And.intro T8 (And.intro T10 (And.intro Z4 hB))))))
  clear X2 X4 T6 T8 T10 Z4 hB
  go_wp2_with fail
  obtain ⟨X2, X4, T6, T8, T10, Z4, hB⟩ := HP.out
  clear HP
  generalize w19.alloc (.cells #[.int .i64 1, .int .i64 2] 2) = w20 at *
  generalize w19.heap.size = g20 at *
  refine (row2 1 2 g20 w20 (by unfold sm; decide) (by unfold sm; decide) Z4).mono ?_
  rintro e w21 ⟨⟨u4_, rfl, r4⟩, hbb⟩
  replace X2 := X2.later hbb
  replace X4 := X4.later hbb
  replace T6 := RdM.below T6 hbb
  replace T8 := RdM.below T8 hbb
  replace T10 := RdVI.below T10 hbb
  replace Z4 := Z4.later hbb
  replace hB := nxt hB hbb
  clear hbb
  obtain ⟨B4, d4, rfl, x4, y4, z4⟩ := r4
  have R4 : RowP w21 2 (v2 1 2) (.slice B4 2 d4) := ⟨B4, d4, rfl, x4, y4, z4⟩
  clear x4 y4 z4
  clear Z4
  have hbb := b1 w21 (.cells #[.int .i64 3] 2)
  replace X2 := X2.later hbb
  replace X4 := X4.later hbb
  replace T6 := RdM.below T6 hbb
  replace T8 := RdM.below T8 hbb
  replace T10 := RdVI.below T10 hbb
  replace R4 := R4.below hbb
  replace hB := nxt hB hbb
  have Z5 := Bx.new w21 2 #[.int .i64 3]
  clear hbb
  have HP := Lib.hid (And.intro X2 (And.intro X4 (And.intro T6 (And.intro T8 (And.intro T10 (And.intro R4 (And.intro Z5 hB)))))))
  clear X2 X4 T6 T8 T10 R4 Z5 hB
  go_wp2_with fail
  obtain ⟨X2, X4, T6, T8, T10, R4, Z5, hB⟩ := HP.out
  clear HP
  generalize w21.alloc (.cells #[.int .i64 3] 2) = w22 at *
  generalize w21.heap.size = g22 at *
  refine (row1 3 g22 w22 (by unfold sm; decide) Z5).mono ?_
  rintro e w23 ⟨⟨u5_, rfl, r5⟩, hbb⟩
  replace X2 := X2.later hbb
  replace X4 := X4.later hbb
  replace T6 := RdM.below T6 hbb
  replace T8 := RdM.below T8 hbb
  replace T10 := RdVI.below T10 hbb
  replace R4 := R4.below hbb
  replace Z5 := Z5.later hbb
  replace hB := nxt hB hbb
  clear hbb
  obtain ⟨B5, d5, rfl, x5, y5, z5⟩ := r5
  have R5 : RowP w23 1 (v2 3 3) (.slice B5 1 d5) := ⟨B5, d5, rfl, x5, y5, z5⟩
  clear x5 y5 z5
  clear Z5
  have hbb := b1 w23 (.cells #[.slice B4 2 d4, .slice B5 1 d5] 38)
  replace X2 := X2.later hbb
  replace X4 := X4.later hbb
  replace T6 := RdM.below T6 hbb
  replace T8 := RdM.below T8 hbb
  replace T10 := RdVI.below T10 hbb
  replace R4 := R4.below hbb
  replace R5 := R5.below hbb
  replace hB := nxt hB hbb
  have ZL := Bx.new w23 38 #[.slice B4 2 d4, .slice B5 1 d5]
  clear hbb
  have HP := Lib.hid (And.intro X2 (And.intro X4 (And.intro T6 (And.intro T8 (And.intro T10 (And.intro R4 (And.intro R5 (And.intro ZL hB))))))))
  clear X2 X4 T6 T8 T10 R4 R5 ZL hB
  go_wp2_with fail
  obtain ⟨X2, X4, T6, T8, T10, R4, R5, ZL, hB⟩ := HP.out
  clear HP
  generalize w23.alloc (.cells #[.slice B4 2 d4, .slice B5 1 d5] 38) = w24 at *
  generalize w23.heap.size = g24 at *
  have TL := tabL ZL R4 R5
  clear ZL R4 R5
  refine (mdet_no 2 (some ⟨g24, 0, none⟩) 2 (fun i => if i = 0 then 2 else 1) w24 (by decide) (fun h => absurd (h.2 1 (by decide)) (by decide)) TL).mono ?_
  rintro e w25 ⟨rfl, hbb⟩
  replace X2 := X2.later hbb
  replace X4 := X4.later hbb
  replace T6 := RdM.below T6 hbb
  replace T8 := RdM.below T8 hbb
  replace T10 := RdVI.below T10 hbb
  replace hB := nxt hB hbb
  clear hbb
  clear TL
  have hbb := b1 w25 (.cells #[.bool false, .string ⟨#[]⟩, .int .i64 0] 29)
  replace X2 := X2.later hbb
  replace X4 := X4.later hbb
  replace T6 := RdM.below T6 hbb
  replace T8 := RdM.below T8 hbb
  replace T10 := RdVI.below T10 hbb
  replace hB := nxt hB hbb
  clear hbb
  have HP := Lib.hid (And.intro X2 (And.intro X4 (And.intro T6 (And.intro T8 (And.intro T10 hB)))))
  clear X2 X4 T6 T8 T10 hB
  go_upto_region 8 with (fail)
  obtain ⟨X2, X4, T6, T8, T10, hB⟩ := HP.out
  clear HP
  generalize w25.alloc (.cells #[.bool false, .string ⟨#[]⟩, .int .i64 0] 29) = w26 at *
  have HB := Lib.hid hB
  clear hB
  refine wp_region_k [58, 59, 60, 61, 62, 63, 64, 65, 66, 67, 68, 69, 70, 71, 72, 73, 74, 75, 76, 77, 78, 79, 80, 81, 82, 83, 84, 85, 86, 87, 88, 89, 90, 91, 92, 93, 94, 95, 96, 97, 98, 99, 100, 101, 102, 103, 104, 105, 106, 107, 108, 109, 110, 111, 0] [.eq (.agg #[.bool (neg (dm (dy (-2) 0))), .string (mag (dm (dy (-2) 0))), .int .i64 (de (dy (-2) 0))]), .eq (.agg #[.bool (neg (dm (dy (-2) 0))), .string (mag (dm (dy (-2) 0))), .int .i64 (de (dy (-2) 0))]), .eq (.bool true), .eq (.bool true), .eq (.int .i64 0), .eq (.bool true), .eq (.bool true), .eq (.bool true), .eq (.agg #[.bool (neg (dm (dy 1 0))), .string (mag (dm (dy 1 0))), .int .i64 (de (dy 1 0))]), .eq (.agg #[.bool (neg (dm (dy 1 0))), .string (mag (dm (dy 1 0))), .int .i64 (de (dy 1 0))]), .eq (.bool true), .eq (.bool true), .eq (.bool true), .eq (.int .i64 0), .eq (.bool true), .eq (.bool true), .eq (.bool true), .eq (.slice C6 2 c6), .sli w26.heap.size 2 2 #[.int .i64 4, .int .i64 (-2)], .prd (fun v W => RowP W 2 (v2 4 (-2)) v) (fun v w w' hb h => RowP.below h hb), .sli w26.heap.size 2 2 #[.int .i64 (-3), .int .i64 1], .prd (fun v W => RowP W 2 (v2 (-3) 1) v) (fun v w w' hb h => RowP.below h hb), .prd (fun v W => ∃ g, v = .slice (some ⟨g, 0, none⟩) 2 2 ∧ RdMI W (some ⟨g, 0, none⟩) 2 (mk2 4 (-2) (-3) 1)) (fun v w w' hb ⟨g, e, h⟩ => ⟨g, e, RdM.below h hb⟩), .eq (.bool true), .eq (.bool true), .eq (.bool true), .eq (.int .i64 0), .eq (.bool true), .eq (.bool true), .eq (.bool true), .eq (.slice C8 1 c8), .sli w26.heap.size 2 1 #[.int .i64 1], .prd (fun v W => RowP W 1 (v2 1 1) v) (fun v w w' hb h => RowP.below h hb), .prd (fun v W => ∃ g, v = .slice (some ⟨g, 0, none⟩) 1 1 ∧ RdMI W (some ⟨g, 0, none⟩) 1 (mk2 1 1 1 1)) (fun v w w' hb ⟨g, e, h⟩ => ⟨g, e, RdM.below h hb⟩), .eq (.bool true), .eq (.bool true), .eq (.bool true), .eq (.int .i64 0), .eq (.bool true), .eq (.bool true), .eq (.bool true), .eq (.slice C10 2 c10), .sli w26.heap.size 2 2 #[.int .i64 2, .int .i64 5], .prd (fun v W => RowP W 2 (v2 2 5) v) (fun v w w' hb h => RowP.below h hb), .eq (.bool true), .eq (.bool true), .eq (.bool true), .eq (.int .i64 0), .eq (.bool true), .eq (.bool true), .eq (.bool true), .eq (.int .i64 1), .eq (.bool true), .eq (.bool true), .eq (.bool true)] 112 (by kernel_rfl) (by exact fun _ _ _ _ _ h => h) (by kernel_rfl) (by rfl) ?hop ?htail
  case hop =>
    intro A hA
    have hN : A.tmps.size = 112 := by rw [hA]; rfl
    have q2 : A.tmps.getD 2 undef = .pointer (some ⟨g7, 0, none⟩) := by rw [hA]; rfl
    have q3 : A.tmps.getD 3 undef = .int .i64 0 := by rw [hA]; rfl
    have q4 : A.tmps.getD 4 undef = .pointer (some ⟨g9, 0, none⟩) := by rw [hA]; rfl
    have q5 : A.tmps.getD 5 undef = .int .i64 0 := by rw [hA]; rfl
    have q6 : A.tmps.getD 6 undef = .slice C6 2 c6 := by rw [hA]; rfl
    have q7 : A.tmps.getD 7 undef = .int .i64 0 := by rw [hA]; rfl
    have q8 : A.tmps.getD 8 undef = .slice C8 1 c8 := by rw [hA]; rfl
    have q9 : A.tmps.getD 9 undef = .int .i64 0 := by rw [hA]; rfl
    have q10 : A.tmps.getD 10 undef = .slice C10 2 c10 := by rw [hA]; rfl
    have q11 : A.tmps.getD 11 undef = .int .i64 0 := by rw [hA]; rfl
    have q13 : A.tmps.getD 13 undef = .int .i64 1 := by rw [hA]; rfl
    clear hA
    refine ⟨?_, ?_, ?_, ?_, ?_, ?_, ?_, ?_, ?_, ?_, ?_, ?_, ?_, ?_, ?_, ?_, ?_, ?_, ?_, ?_, ?_, ?_, ?_, ?_, ?_, ?_, ?_, ?_, ?_, ?_, ?_, ?_, ?_, ?_, ?_, ?_, ?_, ?_, ?_, ?_, ?_, ?_, ?_, ?_, ?_, ?_, ?_, ?_, ?_, ?_, ?_, ?_, ?_, ?_, ?_, trivial⟩
    · refine kok hN fun u W ev ec ef E B hG hf => ?_
      exact k_val _ rfl rfl hG (by simp [go_sem, B 2 rfl rfl q2, (X2.later hG).cel]) rfl
    · refine kok hN fun u W ev ec ef E B hG hf => ?_
      exact k_cl rfl rfl (by simp [go_sem, ec, ef]) (ofK (-2) W (by unfold sm; decide)) hG (fun _ _ => rfl)
    · refine kok hN fun u W ev ec ef E B hG hf => ?_
      exact k_val _ rfl rfl hG (by simp [go_sem, E 58 0 rfl rfl (hf 0 rfl), E 59 1 rfl rfl (hf 1 rfl)]) rfl
    · refine kok hN fun u W ev ec ef E B hG hf => ?_
      exact k_val _ rfl rfl hG (by simp [go_sem, E 60 2 rfl rfl (hf 2 rfl)]) rfl
    · refine kok hN fun u W ev ec ef E B hG hf => ?_
      exact k_val _ ⟨_, hf 3 rfl, rfl⟩ rfl hG (by simp [go_sem, B 3 rfl rfl q3]) rfl
    · refine kok hN fun u W ev ec ef E B hG hf => ?_
      exact k_val _ ⟨_, hf 3 rfl, rfl⟩ rfl hG (by simp [go_sem, ec, E 62 4 rfl rfl (hf 4 rfl)]) rfl
    · refine kok hN fun u W ev ec ef E B hG hf => ?_
      exact k_val _ rfl rfl hG (by simp [go_sem, E 61 3 rfl rfl (hf 3 rfl), E 63 5 rfl rfl (hf 5 rfl)]) rfl
    · refine kok hN fun u W ev ec ef E B hG hf => ?_
      exact k_val _ rfl rfl hG (by simp [go_sem, E 64 6 rfl rfl (hf 6 rfl)]) rfl
    · refine kok hN fun u W ev ec ef E B hG hf => ?_
      exact k_val _ ⟨_, hf 7 rfl, rfl⟩ rfl hG (by simp [go_sem, B 4 rfl rfl q4, (X4.later hG).cel]) rfl
    · refine kok hN fun u W ev ec ef E B hG hf => ?_
      exact k_cl ⟨_, hf 7 rfl, rfl⟩ rfl (by simp [go_sem, ec, ef]) (ofK 1 W (by unfold sm; decide)) hG (fun _ _ => rfl)
    · refine kok hN fun u W ev ec ef E B hG hf => ?_
      exact k_val _ ⟨_, hf 7 rfl, rfl⟩ rfl hG (by simp [go_sem, E 66 8 rfl rfl (hf 8 rfl), E 67 9 rfl rfl (hf 9 rfl)]) rfl
    · refine kok hN fun u W ev ec ef E B hG hf => ?_
      exact k_val _ rfl rfl hG (by simp [go_sem, E 65 7 rfl rfl (hf 7 rfl), E 68 10 rfl rfl (hf 10 rfl)]) rfl
    · refine kok hN fun u W ev ec ef E B hG hf => ?_
      exact k_val _ rfl rfl hG (by simp [go_sem, E 69 11 rfl rfl (hf 11 rfl)]) rfl
    · refine kok hN fun u W ev ec ef E B hG hf => ?_
      exact k_val _ ⟨_, hf 12 rfl, rfl⟩ rfl hG (by simp [go_sem, B 5 rfl rfl q5]) rfl
    · refine kok hN fun u W ev ec ef E B hG hf => ?_
      exact k_val _ ⟨_, hf 12 rfl, rfl⟩ rfl hG (by simp [go_sem, ec, E 71 13 rfl rfl (hf 13 rfl)]) rfl
    · refine kok hN fun u W ev ec ef E B hG hf => ?_
      exact k_val _ rfl rfl hG (by simp [go_sem, E 70 12 rfl rfl (hf 12 rfl), E 72 14 rfl rfl (hf 14 rfl)]) rfl
    · refine kok hN fun u W ev ec ef E B hG hf => ?_
      exact k_val _ rfl rfl hG (by simp [go_sem, E 73 15 rfl rfl (hf 15 rfl)]) rfl
    · refine kok hN fun u W ev ec ef E B hG hf => ?_
      exact k_val _ ⟨_, hf 16 rfl, rfl⟩ rfl hG (by simp [go_sem, B 6 rfl rfl q6]) rfl
    · refine kok hN fun u W ev ec ef E B hG hf => ?_
      exact k_new _ _ ⟨_, hf 16 rfl, rfl⟩ (by simp [go_sem, ec]) (nxtA hG _) ⟨_, rfl, below_le hG, Bx.new _ _ _⟩ rfl
    · refine kok hN fun u W ev ec ef E B hG hf => ?_
      obtain ⟨g76, f76, hb76, hx76⟩ := hf 18 rfl
      exact k_cp ⟨_, hf 16 rfl, rfl⟩ rfl (by simp [go_sem, ef, E 76 18 rfl rfl f76]) (row2 4 (-2) g76 W (by unfold sm; decide) (by unfold sm; decide) hx76) hG (fun _ _ h => h)
    · refine kok hN fun u W ev ec ef E B hG hf => ?_
      exact k_new _ _ ⟨_, hf 16 rfl, rfl⟩ (by simp [go_sem, ec]) (nxtA hG _) ⟨_, rfl, below_le hG, Bx.new _ _ _⟩ rfl
    · refine kok hN fun u W ev ec ef E B hG hf => ?_
      obtain ⟨g78, f78, hb78, hx78⟩ := hf 20 rfl
      exact k_cp ⟨_, hf 16 rfl, rfl⟩ rfl (by simp [go_sem, ef, E 78 20 rfl rfl f78]) (row2 (-3) 1 g78 W (by unfold sm; decide) (by unfold sm; decide) hx78) hG (fun _ _ h => h)
    · refine kok hN fun u W ev ec ef E B hG hf => ?_
      obtain ⟨B77, d77, f77, x77, y77, z77⟩ := hf 19 rfl
      obtain ⟨B79, d79, f79, x79, y79, z79⟩ := hf 21 rfl
      have X80 := Bx.new W 38 #[.slice B77 2 d77, .slice B79 2 d79]
      exact k_new _ _ ⟨_, hf 16 rfl, rfl⟩ (by simp [go_sem, E 77 19 rfl rfl f77, E 79 21 rfl rfl f79]) (nxtA hG _) ⟨_, rfl, tab2 X80 (RowP.below ⟨B77, d77, rfl, x77, y77, z77⟩ (b1 W _)) (RowP.below ⟨B79, d79, rfl, x79, y79, z79⟩ (b1 W _))⟩ rfl
    · refine kok hN fun u W ev ec ef E B hG hf => ?_
      obtain ⟨g80, f80, h80⟩ := hf 22 rfl
      exact k_cl ⟨_, hf 16 rfl, rfl⟩ rfl (by simp [go_sem, ef, E 75 17 rfl rfl (hf 17 rfl), E 80 22 rfl rfl f80]) (sameMI _ 2 (by decide) C6 (some ⟨g80, 0, none⟩) c6 2 W (RdM.below T6 hG) h80) hG (fun _ _ => rfl)
    · refine kok hN fun u W ev ec ef E B hG hf => ?_
      exact k_val _ rfl rfl hG (by simp [go_sem, E 74 16 rfl rfl (hf 16 rfl), E 81 23 rfl rfl (hf 23 rfl)]) rfl
    · refine kok hN fun u W ev ec ef E B hG hf => ?_
      exact k_val _ rfl rfl hG (by simp [go_sem, E 82 24 rfl rfl (hf 24 rfl)]) rfl
    · refine kok hN fun u W ev ec ef E B hG hf => ?_
      exact k_val _ ⟨_, hf 25 rfl, rfl⟩ rfl hG (by simp [go_sem, B 7 rfl rfl q7]) rfl
    · refine kok hN fun u W ev ec ef E B hG hf => ?_
      exact k_val _ ⟨_, hf 25 rfl, rfl⟩ rfl hG (by simp [go_sem, ec, E 84 26 rfl rfl (hf 26 rfl)]) rfl
    · refine kok hN fun u W ev ec ef E B hG hf => ?_
      exact k_val _ rfl rfl hG (by simp [go_sem, E 83 25 rfl rfl (hf 25 rfl), E 85 27 rfl rfl (hf 27 rfl)]) rfl
    · refine kok hN fun u W ev ec ef E B hG hf => ?_
      exact k_val _ rfl rfl hG (by simp [go_sem, E 86 28 rfl rfl (hf 28 rfl)]) rfl
    · refine kok hN fun u W ev ec ef E B hG hf => ?_
      exact k_val _ ⟨_, hf 29 rfl, rfl⟩ rfl hG (by simp [go_sem, B 8 rfl rfl q8]) rfl
    · refine kok hN fun u W ev ec ef E B hG hf => ?_
      exact k_new _ _ ⟨_, hf 29 rfl, rfl⟩ (by simp [go_sem, ec]) (nxtA hG _) ⟨_, rfl, below_le hG, Bx.new _ _ _⟩ rfl
    · refine kok hN fun u W ev ec ef E B hG hf => ?_
      obtain ⟨g89, f89, hb89, hx89⟩ := hf 31 rfl
      exact k_cp ⟨_, hf 29 rfl, rfl⟩ rfl (by simp [go_sem, ef, E 89 31 rfl rfl f89]) (row1 1 g89 W (by unfold sm; decide) hx89) hG (fun _ _ h => h)
    · refine kok hN fun u W ev ec ef E B hG hf => ?_
      obtain ⟨B90, d90, f90, x90, y90, z90⟩ := hf 32 rfl
      have X91 := Bx.new W 38 #[.slice B90 1 d90]
      exact k_new _ _ ⟨_, hf 29 rfl, rfl⟩ (by simp [go_sem, E 90 32 rfl rfl f90]) (nxtA hG _) ⟨_, rfl, tab1 X91 (RowP.below ⟨B90, d90, rfl, x90, y90, z90⟩ (b1 W _))⟩ rfl
    · refine kok hN fun u W ev ec ef E B hG hf => ?_
      obtain ⟨g91, f91, h91⟩ := hf 33 rfl
      exact k_cl ⟨_, hf 29 rfl, rfl⟩ rfl (by simp [go_sem, ef, E 88 30 rfl rfl (hf 30 rfl), E 91 33 rfl rfl f91]) (sameMI _ 1 (by decide) C8 (some ⟨g91, 0, none⟩) c8 1 W (RdM.below T8 hG) h91) hG (fun _ _ => rfl)
    · refine kok hN fun u W ev ec ef E B hG hf => ?_
      exact k_val _ rfl rfl hG (by simp [go_sem, E 87 29 rfl rfl (hf 29 rfl), E 92 34 rfl rfl (hf 34 rfl)]) rfl
    · refine kok hN fun u W ev ec ef E B hG hf => ?_
      exact k_val _ rfl rfl hG (by simp [go_sem, E 93 35 rfl rfl (hf 35 rfl)]) rfl
    · refine kok hN fun u W ev ec ef E B hG hf => ?_
      exact k_val _ ⟨_, hf 36 rfl, rfl⟩ rfl hG (by simp [go_sem, B 9 rfl rfl q9]) rfl
    · refine kok hN fun u W ev ec ef E B hG hf => ?_
      exact k_val _ ⟨_, hf 36 rfl, rfl⟩ rfl hG (by simp [go_sem, ec, E 95 37 rfl rfl (hf 37 rfl)]) rfl
    · refine kok hN fun u W ev ec ef E B hG hf => ?_
      exact k_val _ rfl rfl hG (by simp [go_sem, E 94 36 rfl rfl (hf 36 rfl), E 96 38 rfl rfl (hf 38 rfl)]) rfl
    · refine kok hN fun u W ev ec ef E B hG hf => ?_
      exact k_val _ rfl rfl hG (by simp [go_sem, E 97 39 rfl rfl (hf 39 rfl)]) rfl
    · refine kok hN fun u W ev ec ef E B hG hf => ?_
      exact k_val _ ⟨_, hf 40 rfl, rfl⟩ rfl hG (by simp [go_sem, B 10 rfl rfl q10]) rfl
    · refine kok hN fun u W ev ec ef E B hG hf => ?_
      exact k_new _ _ ⟨_, hf 40 rfl, rfl⟩ (by simp [go_sem, ec]) (nxtA hG _) ⟨_, rfl, below_le hG, Bx.new _ _ _⟩ rfl
    · refine kok hN fun u W ev ec ef E B hG hf => ?_
      obtain ⟨g100, f100, hb100, hx100⟩ := hf 42 rfl
      exact k_cp ⟨_, hf 40 rfl, rfl⟩ rfl (by simp [go_sem, ef, E 100 42 rfl rfl f100]) (row2 2 5 g100 W (by unfold sm; decide) (by unfold sm; decide) hx100) hG (fun _ _ h => h)
    · refine kok hN fun u W ev ec ef E B hG hf => ?_
      obtain ⟨B101, d101, f101, x101, y101, z101⟩ := hf 43 rfl
      exact k_cl ⟨_, hf 40 rfl, rfl⟩ rfl (by simp [go_sem, ef, E 99 41 rfl rfl (hf 41 rfl), E 101 43 rfl rfl f101]) (mrow_any C10 B101 2 c10 d101 _ _ _ W (by decide) (RdVI.below T10 hG) z101) hG (fun _ _ => rfl)
    · refine kok hN fun u W ev ec ef E B hG hf => ?_
      exact k_val _ rfl rfl hG (by simp [go_sem, E 98 40 rfl rfl (hf 40 rfl), E 102 44 rfl rfl (hf 44 rfl)]) rfl
    · refine kok hN fun u W ev ec ef E B hG hf => ?_
      exact k_val _ rfl rfl hG (by simp [go_sem, E 103 45 rfl rfl (hf 45 rfl)]) rfl
    · refine kok hN fun u W ev ec ef E B hG hf => ?_
      exact k_val _ ⟨_, hf 46 rfl, rfl⟩ rfl hG (by simp [go_sem, B 11 rfl rfl q11]) rfl
    · refine kok hN fun u W ev ec ef E B hG hf => ?_
      exact k_val _ ⟨_, hf 46 rfl, rfl⟩ rfl hG (by simp [go_sem, ec, E 105 47 rfl rfl (hf 47 rfl)]) rfl
    · refine kok hN fun u W ev ec ef E B hG hf => ?_
      exact k_val _ rfl rfl hG (by simp [go_sem, E 104 46 rfl rfl (hf 46 rfl), E 106 48 rfl rfl (hf 48 rfl)]) rfl
    · refine kok hN fun u W ev ec ef E B hG hf => ?_
      exact k_val _ rfl rfl hG (by simp [go_sem, E 107 49 rfl rfl (hf 49 rfl)]) rfl
    · refine kok hN fun u W ev ec ef E B hG hf => ?_
      exact k_val _ ⟨_, hf 50 rfl, rfl⟩ rfl hG (by simp [go_sem, B 13 rfl rfl q13]) rfl
    · refine kok hN fun u W ev ec ef E B hG hf => ?_
      exact k_val _ ⟨_, hf 50 rfl, rfl⟩ rfl hG (by simp [go_sem, ec, E 109 51 rfl rfl (hf 51 rfl)]) rfl
    · refine kok hN fun u W ev ec ef E B hG hf => ?_
      exact k_val _ rfl rfl hG (by simp [go_sem, E 108 50 rfl rfl (hf 50 rfl), E 110 52 rfl rfl (hf 52 rfl)]) rfl
    · refine kok hN fun u W ev ec ef E B hG hf => ?_
      exact k_val _ rfl rfl hG (by simp [go_sem, E 111 53 rfl rfl (hf 53 rfl)]) rfl
  case htail =>
  intro u w99 hG hP _
  have f0 : u 54 = .bool true := hP 54 (by decide)
  simp only [putAll, Act.put, List.setIfInBounds_toArray, List.set_cons_zero, List.set_cons_succ, List.length_cons, List.length_nil, Nat.reduceAdd, List.drop_succ_cons, List.drop_zero, f0]
  have hB := nxt HB.out hG
  clear hP hG f0 HB
  go_wp2
  go_ret
  exact ⟨rfl, hB⟩
end Go.Proofs.YtibbhpgpleeglaaGreatDoor

