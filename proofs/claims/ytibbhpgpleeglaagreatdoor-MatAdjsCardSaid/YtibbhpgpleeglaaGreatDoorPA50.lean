/- The walks and plain laws beneath the statements. -/
import Derived.Test.YtibbhpgpleeglaaGreatDoorPA47
import Derived.Test.YtibbhpgpleeglaaGreatDoorPA37
namespace Go.Proofs.YtibbhpgpleeglaaGreatDoor
open Go Go.RowKit

/-- A number in each place of the diagonal, and noughts around. -/
def dgD (Z : Dyadic) (i j : Nat) : Dyadic := if i = j then Z else 0
theorem cel3_0 (j : Nat) : [Value.bool false, .string ⟨#[]⟩, .int .i64 0] = cel3 (fun _ => neg (dm 0)) (fun _ => mag (dm 0)) (fun _ => de 0) j := by kernel_rfl
/-- A row of noughts, in one place a number. -/
theorem diag_row {w : World} {base g n c k : Nat} {e : TypeId} {zd : Dyadic} (h : OwnK w base e 3 (.slice (some ⟨g, 0, none⟩) n c) n (fun _ => [.bool false, .string ⟨#[]⟩, .int .i64 0])) (hk : k < n) :
    OwnK (((w.setCell ⟨g, k * 3, none⟩ (.bool (neg (dm zd)))).setCell ⟨g, k * 3 + 1, none⟩ (.string (mag (dm zd)))).setCell ⟨g, k * 3 + 2, none⟩ (.int .i64 (de zd))) base e 3 (.slice (some ⟨g, 0, none⟩) n c) n (cel3 (fun j => neg (dm (dgD zd k j))) (fun j => mag (dm (dgD zd k j))) (fun j => de (dgD zd k j))) := by
  obtain ⟨G, hC, hnc, hcm, hbg, hG⟩ := OwnK.cel (k := 3) (fun _ => rfl) h
  refine Cel.own (fun _ => rfl) (by decide) (((hC.set_ (k * 3) _).set_ (k * 3 + 1) _).set_ (k * 3 + 2) _) hnc hcm hbg fun j hj i hi => ?_
  have h0 := hG j hj i hi
  by_cases e : j = k
  · subst e
    rcases (by omega : i = 0 ∨ i = 1 ∨ i = 2) with rfl | rfl | rfl <;> simp [cel3, dgD]
  · have e' : ¬ k = j := fun h => e h.symm
    rw [if_neg (by omega), if_neg (by omega), if_neg (by omega), ← h0]
    unfold cel3 dgD
    dsimp only
    rw [if_neg e']
    exact congrArg (fun l : List Value => l[i]?) (cel3_0 j).symm

set_option maxRecDepth 100000 in
set_option maxHeartbeats 2000000 in
theorem diag_any (n : Nat) (zd : Dyadic) (w : World) (hn : n ≤ 8) :
    Calls Tryz.prog 23 #[.int .i64 (n : Nat), .agg #[.bool (neg (dm (zd))), .string (mag (dm (zd))), .int .i64 (de (zd))]] w fun e w' => (∃ C d, e = .returned (.slice C n d) ∧ RdM w' C n (fun _ => n) (fun i q => neg (dm (dgD zd i q))) (fun i q => mag (dm (dgD zd i q))) (fun i q => de (dgD zd i q))) ∧ Below w.heap.size w w' := by
  have X3 := Bx.new w 29 #[.bool (neg (dm (zd))), .string (mag (dm (zd))), .int .i64 (de (zd))]
  have hB0 := b1 w (.cells #[.bool (neg (dm (zd))), .string (mag (dm (zd))), .int .i64 (de (zd))] 29)
  go_enter Tryz.func23, Tryz.ntmps23
  go_wp2_with fail
  generalize w.alloc (.cells #[.bool (neg (dm (zd))), .string (mag (dm (zd))), .int .i64 (de (zd))] 29) = w0 at *
  have HX := Lib.hid (And.intro X3 hB0)
  clear X3 hB0
  have hon : OwnM w0 w0.heap.size (.slice none 0 0) 0 (fun _ => n) (fun i q => neg (dm (dgD zd i q))) (fun i q => mag (dm (dgD zd i q))) (fun i q => de (dgD zd i q)) := OwnT.nil_ _ _ _ _ _ _
  go_loopw [5, 6] (fun v i wr => ∃ k : Nat, k ≤ n ∧ i = .int .i64 (k : Nat) ∧ OwnM wr w0.heap.size v k (fun _ => n) (fun i q => neg (dm (dgD zd i q))) (fun i q => mag (dm (dgD zd i q))) (fun i q => de (dgD zd i q)) ∧ Below w0.heap.size w0 wr) (fun _ i _ => n - (RowKit.intOf i).toNat)
  case atStart => exact ⟨0, Nat.zero_le _, rfl, hon, Below.refl _ _⟩
  case round =>
    clear hon
    obtain ⟨k, hk, rfl, hown, hB⟩ := hrel
    by_cases hlt : k < n
    · have hki : (k : Int) < (n : Int) := by omega
      have hkj : (0 : Int) ≤ (k : Int) := by omega
      have HOW := Lib.hid (And.intro hown hB)
      clear hown hB
      have b2 : 32 * n ≤ 281474976710656 := by omega
      have b3 : n ≤ 9223372036854775807 := by omega
      go_upto_region 7 with (at_make; refine wpList_make_K rfl (.tmp 13) (.tmp 13) _ rfl wr.heap.size 29 (.agg #[.bool false, .string ⟨#[]⟩, .int .i64 0]) 3 32 Tryz.underlying38 info_Num rfl (by decide) .i64 .i64 n rfl rfl b2 b3 (Nat.le_refl _) ?_; intro w5 ho hb5; replace ho : OwnK w5 wr.heap.size 29 3 (.slice (some ⟨wr.heap.size, 0, none⟩) n n) n (fun _ => [.bool false, .string ⟨#[]⟩, .int .i64 0]) := ho; obtain ⟨G, hC, _, _, _, _⟩ := OwnK.cel (k := 3) (fun _ => rfl) ho; have r1 := hC.cell (i := k * 3) (by omega); have r2 := hC.cell (i := k * 3 + 1) (by omega); have r3 := hC.cell (i := k * 3 + 2) (by omega); have f1 := hC.frozen (k * 3); have f2 := hC.frozen (k * 3 + 1); have f3 := hC.frozen (k * 3 + 2); obtain ⟨p1, p2, p3, _, _, _⟩ := (HX.out.1.later (nxt HOW.out.2 hb5)).three; have HOR := Lib.hid (And.intro ho hb5); clear hC ho hb5)
      have hown : OwnK (((w5.setCell ⟨wr.heap.size, k * 3, none⟩ (.bool (neg (dm (zd))))).setCell ⟨wr.heap.size, k * 3 + 1, none⟩ (.string (mag (dm (zd))))).setCell ⟨wr.heap.size, k * 3 + 2, none⟩ (.int .i64 (de (zd)))) wr.heap.size 29 3 (.slice (some ⟨wr.heap.size, 0, none⟩) n n) n (cel3 (fun j => neg (dm (dgD zd k j))) (fun j => mag (dm (dgD zd k j))) (fun j => de (dgD zd k j))) := diag_row HOR.out.1 hlt
      have hB : Below wr.heap.size wr (((w5.setCell ⟨wr.heap.size, k * 3, none⟩ (.bool (neg (dm (zd))))).setCell ⟨wr.heap.size, k * 3 + 1, none⟩ (.string (mag (dm (zd))))).setCell ⟨wr.heap.size, k * 3 + 2, none⟩ (.int .i64 (de (zd)))) := ((HOR.out.2.setCell (Nat.le_refl _) _).setCell (Nat.le_refl _) _).setCell (Nat.le_refl _) _
      generalize (((w5.setCell ⟨wr.heap.size, k * 3, none⟩ (.bool (neg (dm (zd))))).setCell ⟨wr.heap.size, k * 3 + 1, none⟩ (.string (mag (dm (zd))))).setCell ⟨wr.heap.size, k * 3 + 2, none⟩ (.int .i64 (de (zd)))) = w6 at *
      clear HOR r1 r2 r3 f1 f2 f3 p1 p2 p3 b2 b3
      obtain ⟨wo, hwo⟩ : ∃ x, x = wr := ⟨_, rfl⟩
      subst hwo
      obtain ⟨vv, hvv⟩ : ∃ x, x = Value.slice (some ⟨wo.heap.size, 0, none⟩) n n := ⟨_, rfl⟩
      obtain ⟨_, _, e0, hnc, hrd, _, hno⟩ := OwnK.rd (k := 3) (fun _ => rfl) hown
      injection e0 with e1 _ e2
      subst e1 e2
      have hvl := OwnT.lt HOW.out.1
      have hap := hown.apart (u := u5) (fun g hg => (hvl g hg).2) rfl
      have hown5 := HOW.out.1.below hB
      have hown6 := hown5.below (b1 w6 (.cells #[.slice (some ⟨wo.heap.size, 0, none⟩) n n] 38))
      have hown6' : OwnT (w6.alloc (.cells #[.slice (some ⟨wo.heap.size, 0, none⟩) n n] 38)) w0.heap.size 38 3 u5 k (fun _ => n) (fun i => cel3 (fun j => neg (dm (dgD zd i j))) (fun j => mag (dm (dgD zd i j))) (fun j => de (dgD zd i j))) := hown6
      have hrd6 := hrd.below (cel3_len _ _ _) (b1 w6 (.cells #[.slice (some ⟨wo.heap.size, 0, none⟩) n n] 38))
      have Z := (Bx.new w6 38 #[.slice (some ⟨wo.heap.size, 0, none⟩) n n]).cel 0
      have hap6 : ∀ a, (some ⟨wo.heap.size, 0, none⟩ : Option Addr) = some a → a.block < (w6.alloc (.cells #[.slice (some ⟨wo.heap.size, 0, none⟩) n n] 38)).heap.size ∧ _ := fun a ha => ⟨Nat.lt_of_lt_of_le (hap a ha).1 (by simp), (hap a ha).2⟩
      have hB7 := nxt HOW.out.2 hB
      have hsz6 : w0.heap.size ≤ (w6.alloc (.cells #[.slice (some ⟨wo.heap.size, 0, none⟩) n n] 38)).heap.size := by have := hB7.size; simp; omega
      have h63 : k + 1 ≤ 9223372036854775807 := by omega
      have hby : (k + 1) * 24 ≤ 140737488355328 := by omega
      have HB7 := Lib.hid (nxtA hB7 (.cells #[.slice (some ⟨wo.heap.size, 0, none⟩) n n] 38))
      clear hown hown5 hown6 hrd hap hvl hB hB7 HOW
      go_wp2_with (at_builtin; refine wpList_appendT rfl (.tmp 19) (.tmp 21) _ rfl w0.heap.size 38 (.slice none 0 0) 3 24 Tryz.underlying22 info_Nums rfl u5 k (fun _ => n) (fun i => cel3 (fun j => neg (dm (dgD zd i j))) (fun j => mag (dm (dgD zd i j))) (fun j => de (dgD zd i j))) (fun i j => cel3_len _ _ _ j) rfl hown6' ⟨w6.heap.size, 0, none⟩ rfl rfl (some ⟨wo.heap.size, 0, none⟩) n Z hnc hno hrd6 hap6 h63 hby hsz6 ?_; intro v2 w7 ho2 hb7)
      have hB8 := belB HB7.out hb7 (Nat.le_refl _)
      exact ⟨⟨k + 1, by omega, by go_num, ho2, hB8⟩, by simp [RowKit.intOf]; omega⟩
    · obtain rfl : k = n := by omega
      have hki : ¬ (k : Int) < (k : Int) := by omega
      obtain ⟨C, d, rfl, _, hrd, _⟩ := OwnT.rd hown
      go_wp2
      go_ret
      exact ⟨⟨C, ⟨d, rfl⟩, hrd⟩, nxt HX.out.2 hB⟩
theorem db_adj {n : Nat} (hn : n ≤ 4) {xs : Nat → Nat → Dyadic} (h : ∀ i j, DB 60 124 (xs i j)) (i q : Nat) : DB 240 529 (adjL n xs i q) := by
  have h1 := db_alt (i + q) (db_det (n - 1) (wot q i xs) (by omega) (fun _ _ => h _ _))
  refine db_up h1 ?_ ?_ <;> omega
theorem db_dt {n : Nat} (hn : n ≤ 4) {xs : Nat → Nat → Dyadic} (h : ∀ i j, DB 60 124 (xs i j)) : DB 240 529 (detL n xs) := by
  refine db_up (db_det n xs (by omega) h) ?_ ?_ <;> omega
theorem db_mm {n : Nat} (hn : n ≤ 4) {xs ys : Nat → Nat → Dyadic} (h : ∀ i j, DB 60 124 (xs i j)) (h2 : ∀ i j, DB 60 124 (ys i j)) (i q : Nat) : DB 120 252 (mulM n xs ys i q) := by
  have h1 : DB (60 + 60) (124 + 124 + n) (sumD (fun j => xs i j * ys j q) n) := db_sum (fun j => db_mul (h i j) (h2 j q)) n
  refine db_up h1 ?_ ?_ <;> omega
set_option maxRecDepth 100000 in
set_option maxHeartbeats 4000000 in
theorem matAdjs_x (TA UB : Option Addr) (n c m d : Nat) (ms ns : Nat → Nat) (ba bb : Nat → Nat → Bool) (sa sb : Nat → Nat → ByteArray) (ea eb : Nat → Nat → Int) (w : World) (hn : n ≤ 9223372036854775807) (hm : m ≤ 9223372036854775807) (hms : ∀ i, i < n → ms i ≤ 9223372036854775807) (hns : ∀ i, i < m → ns i ≤ 9223372036854775807)
    (RA : RdM w TA n ms ba sa ea) (RB : RdM w UB m ns bb sb eb) (hca : ∀ i j, ¬ (i < n ∧ j < ms i) → sa i j = ⟨#[]⟩ ∧ ea i j = 0) (hcb : ∀ i j, ¬ (i < m ∧ j < ns i) → sb i j = ⟨#[]⟩ ∧ eb i j = 0) (hT : TabAt 0 Lib.deBruijn64tab w) :
    Calls Tryz.prog 6 #[.slice TA n c, .slice UB m d] w fun r w' => r = .returned (.bool true) ∧ Below w.heap.size w w' := by
  have HCA := Lib.hid hca
  have HCB := Lib.hid hcb
  have HT := Lib.hid hT
  have HMS := Lib.hid hms
  have HNS := Lib.hid hns
  clear hca hcb hT hms hns
  have hB := Below.refl w.heap.size w
  go_enter Tryz.func6, Tryz.ntmps6
  have HP := Lib.hid (And.intro RA (And.intro RB hB))
  clear RA RB hB
  go_wp2_with fail
  obtain ⟨RA, RB, hB⟩ := HP.out
  clear HP
  refine (great_any TA n c ms ba sa ea w hn HMS.out RA).mono ?_
  rintro e w1 ⟨hg1, hg2, hbb⟩
  replace RA := RdM.below RA hbb
  replace RB := RdM.below RB hbb
  replace hB := nxt hB hbb
  clear hbb
  by_cases hg : gOK n ms sa ea
  · obtain rfl := hg1 hg
    have HGA := Lib.hid hg
    clear hg1 hg2 hg
    have HP := Lib.hid (And.intro RA (And.intro RB hB))
    clear RA RB hB
    go_wp2_with fail
    obtain ⟨RA, RB, hB⟩ := HP.out
    clear HP
    refine (great_any UB m d ns bb sb eb w1 hm HNS.out RB).mono ?_
    rintro e w2 ⟨hg1, hg2, hbb⟩
    replace RA := RdM.below RA hbb
    replace RB := RdM.below RB hbb
    replace hB := nxt hB hbb
    clear hbb
    by_cases hg : gOK m ns sb eb
    · obtain rfl := hg1 hg
      have HGB := Lib.hid hg
      clear hg1 hg2 hg
      have hn20 : n ≤ 20 := HGA.out.2.1
      have hm20 : m ≤ 20 := HGB.out.2.1
      have HOA := Lib.hid (HGA.out.all HCA.out)
      have HOB := Lib.hid (HGB.out.all HCB.out)
      by_cases h0 : sqB n ms
      · have S1 := Lib.hid h0
        have hn4 : n ≤ 4 := HGA.out.four h0
        clear h0
        replace RA := RA.sq S1.out
        have HP := Lib.hid (And.intro RA (And.intro RB hB))
        clear RA RB hB
        go_wp2_with fail
        obtain ⟨RA, RB, hB⟩ := HP.out
        clear HP
        refine (mdet_any 60 124 (by decide) n hn4 TA c ba sa ea (xsM ba sa ea) w2 (fun i j => nd_ok (HOA.out i j)) (fun i j => db_ok (HOA.out i j)) RA (tab_keep HT.out hB)).mono ?_
        rintro e w3 ⟨rfl, hbb⟩
        replace RA := RdM.below RA hbb
        replace RB := RdM.below RB hbb
        replace hB := nxt hB hbb
        clear hbb
        have hbb := b1 w3 (.cells #[.bool (neg (dm (detL n (xsM ba sa ea)))), .string (mag (dm (detL n (xsM ba sa ea)))), .int .i64 (de (detL n (xsM ba sa ea)))] 29)
        replace RA := RdM.below RA hbb
        replace RB := RdM.below RB hbb
        replace hB := nxt hB hbb
        have X5 := Bx.new w3 29 #[.bool (neg (dm (detL n (xsM ba sa ea)))), .string (mag (dm (detL n (xsM ba sa ea)))), .int .i64 (de (detL n (xsM ba sa ea)))]
        clear hbb
        have HP := Lib.hid (And.intro RA (And.intro RB (And.intro X5 hB)))
        clear RA RB X5 hB
        go_wp2_with fail
        obtain ⟨RA, RB, X5, hB⟩ := HP.out
        clear HP
        generalize w3.alloc (.cells #[.bool (neg (dm (detL n (xsM ba sa ea)))), .string (mag (dm (detL n (xsM ba sa ea)))), .int .i64 (de (detL n (xsM ba sa ea)))] 29) = w4 at *
        generalize w3.heap.size = g4 at *
        refine (madj_any 60 124 (by decide) n hn4 TA c ba sa ea (xsM ba sa ea) w4 (fun i j => nd_ok (HOA.out i j)) (fun i j => db_ok (HOA.out i j)) RA (tab_keep HT.out hB)).mono ?_
        rintro e w5 ⟨⟨J, dJ, rfl, RJ⟩, hbb⟩
        replace RA := RdM.below RA hbb
        replace RB := RdM.below RB hbb
        replace X5 := X5.later hbb
        replace hB := nxt hB hbb
        clear hbb
        have HP := Lib.hid (And.intro RA (And.intro RB (And.intro X5 (And.intro RJ hB))))
        clear RA RB X5 RJ hB
        go_wp2_with fail
        obtain ⟨RA, RB, X5, RJ, hB⟩ := HP.out
        clear HP
        refine (mmul_yes TA J n c dJ ba _ sa _ ea _ (xsM ba sa ea) (adjL n (xsM ba sa ea)) 240 529 w5 (by omega) (fun i j => nd_ok (HOA.out i j)) (fun i j => nd_db (db_adj hn4 (fun i j => db_ok (HOA.out i j)) i j) (by decide)) (fun i j => db_up (db_ok (HOA.out i j)) (by decide) (by decide)) (db_adj hn4 (fun i j => db_ok (HOA.out i j))) (by decide) RA RJ (tab_keep HT.out hB)).mono ?_
        rintro e w6 ⟨⟨P, dP, rfl, RP⟩, hbb⟩
        replace RA := RdM.below RA hbb
        replace RB := RdM.below RB hbb
        replace X5 := X5.later hbb
        replace RJ := RdM.below RJ hbb
        replace hB := nxt hB hbb
        clear hbb
        have HP := Lib.hid (And.intro RA (And.intro RB (And.intro X5 (And.intro RJ (And.intro RP hB)))))
        clear RA RB X5 RJ RP hB
        go_wp2_with fail
        obtain ⟨RA, RB, X5, RJ, RP, hB⟩ := HP.out
        clear HP
        refine (mmul_yes J TA n dJ c _ ba _ sa _ ea (adjL n (xsM ba sa ea)) (xsM ba sa ea) 240 529 w6 (by omega) (fun i j => nd_db (db_adj hn4 (fun i j => db_ok (HOA.out i j)) i j) (by decide)) (fun i j => nd_ok (HOA.out i j)) (db_adj hn4 (fun i j => db_ok (HOA.out i j))) (fun i j => db_up (db_ok (HOA.out i j)) (by decide) (by decide)) (by decide) RJ RA (tab_keep HT.out hB)).mono ?_
        rintro e w7 ⟨⟨Q, dQ, rfl, RQ⟩, hbb⟩
        replace RA := RdM.below RA hbb
        replace RB := RdM.below RB hbb
        replace X5 := X5.later hbb
        replace RJ := RdM.below RJ hbb
        replace RP := RdM.below RP hbb
        replace hB := nxt hB hbb
        clear hbb
        replace RP := RdM.same (ys := (dgD (detL n (xsM ba sa ea)))) RP (fun i q hi hq => adj_right n hn4 (xsM ba sa ea) i q hi hq)
        replace RQ := RdM.same (ys := (dgD (detL n (xsM ba sa ea)))) RQ (fun i q hi hq => adj_left n hn4 (xsM ba sa ea) i q hi hq)
        obtain ⟨p1, p2, p3, _, _, _⟩ := X5.three
        have HP := Lib.hid (And.intro RA (And.intro RB (And.intro X5 (And.intro RJ (And.intro RP (And.intro RQ hB))))))
        clear RA RB X5 RJ RP RQ hB
        go_wp2_with fail
        obtain ⟨RA, RB, X5, RJ, RP, RQ, hB⟩ := HP.out
        clear HP
        refine (diag_any n (detL n (xsM ba sa ea)) w7 (by omega)).mono ?_
        rintro e w8 ⟨⟨D, dD, rfl, RD⟩, hbb⟩
        replace RA := RdM.below RA hbb
        replace RB := RdM.below RB hbb
        replace X5 := X5.later hbb
        replace RJ := RdM.below RJ hbb
        replace RP := RdM.below RP hbb
        replace RQ := RdM.below RQ hbb
        replace hB := nxt hB hbb
        clear hbb
        clear p1 p2 p3
        have HP := Lib.hid (And.intro RA (And.intro RB (And.intro X5 (And.intro RJ (And.intro RP (And.intro RQ (And.intro RD hB)))))))
        clear RA RB X5 RJ RP RQ RD hB
        go_wp2_with fail
        obtain ⟨RA, RB, X5, RJ, RP, RQ, RD, hB⟩ := HP.out
        clear HP
        refine (msame_any P D n dP dD (fun _ => n) _ _ _ w8 (by omega) (fun _ _ => by omega) RP RD).mono ?_
        rintro e w9 ⟨rfl, hbb⟩
        replace RA := RdM.below RA hbb
        replace RB := RdM.below RB hbb
        replace X5 := X5.later hbb
        replace RJ := RdM.below RJ hbb
        replace RP := RdM.below RP hbb
        replace RQ := RdM.below RQ hbb
        replace RD := RdM.below RD hbb
        replace hB := nxt hB hbb
        clear hbb
        have HP := Lib.hid (And.intro RA (And.intro RB (And.intro X5 (And.intro RJ (And.intro RP (And.intro RQ (And.intro RD hB)))))))
        clear RA RB X5 RJ RP RQ RD hB
        go_wp2_with fail
        obtain ⟨RA, RB, X5, RJ, RP, RQ, RD, hB⟩ := HP.out
        clear HP
        refine (msame_any Q D n dQ dD (fun _ => n) _ _ _ w9 (by omega) (fun _ _ => by omega) RQ RD).mono ?_
        rintro e w10 ⟨rfl, hbb⟩
        replace RA := RdM.below RA hbb
        replace RB := RdM.below RB hbb
        replace X5 := X5.later hbb
        replace RJ := RdM.below RJ hbb
        replace RP := RdM.below RP hbb
        replace RQ := RdM.below RQ hbb
        replace RD := RdM.below RD hbb
        replace hB := nxt hB hbb
        clear hbb
        clear RP RQ RD RJ
        by_cases h0 : sqB m ns
        · have S2 := Lib.hid h0
          have hm4 : m ≤ 4 := HGB.out.four h0
          clear h0
          replace RB := RB.sq S2.out
          by_cases h0 : n = m
          · have E2 := Lib.hid h0
            obtain rfl := h0
            have hq : ((n : Int) != (n : Int)) = false := by simp
            have HP := Lib.hid (And.intro RA (And.intro RB (And.intro X5 hB)))
            clear RA RB X5 hB
            go_wp2_with fail
            obtain ⟨RA, RB, X5, hB⟩ := HP.out
            clear HP
            refine (mdet_any 60 124 (by decide) n hn4 UB d bb sb eb (xsM bb sb eb) w10 (fun i j => nd_ok (HOB.out i j)) (fun i j => db_ok (HOB.out i j)) RB (tab_keep HT.out hB)).mono ?_
            rintro e w11 ⟨rfl, hbb⟩
            replace RA := RdM.below RA hbb
            replace RB := RdM.below RB hbb
            replace X5 := X5.later hbb
            replace hB := nxt hB hbb
            clear hbb
            have hbb := b1 w11 (.cells #[.bool (neg (dm (detL n (xsM bb sb eb)))), .string (mag (dm (detL n (xsM bb sb eb)))), .int .i64 (de (detL n (xsM bb sb eb)))] 29)
            replace RA := RdM.below RA hbb
            replace RB := RdM.below RB hbb
            replace X5 := X5.later hbb
            replace hB := nxt hB hbb
            have X14 := Bx.new w11 29 #[.bool (neg (dm (detL n (xsM bb sb eb)))), .string (mag (dm (detL n (xsM bb sb eb)))), .int .i64 (de (detL n (xsM bb sb eb)))]
            clear hbb
            have HP := Lib.hid (And.intro RA (And.intro RB (And.intro X5 (And.intro X14 hB))))
            clear RA RB X5 X14 hB
            go_wp2_with fail
            obtain ⟨RA, RB, X5, X14, hB⟩ := HP.out
            clear HP
            generalize w11.alloc (.cells #[.bool (neg (dm (detL n (xsM bb sb eb)))), .string (mag (dm (detL n (xsM bb sb eb)))), .int .i64 (de (detL n (xsM bb sb eb)))] 29) = w12 at *
            generalize w11.heap.size = g12 at *
            refine (mmul_yes TA UB n c d ba bb sa sb ea eb (xsM ba sa ea) (xsM bb sb eb) 60 124 w12 (by omega) (fun i j => nd_ok (HOA.out i j)) (fun i j => nd_ok (HOB.out i j)) (fun i j => db_ok (HOA.out i j)) (fun i j => db_ok (HOB.out i j)) (by decide) RA RB (tab_keep HT.out hB)).mono ?_
            rintro e w13 ⟨⟨M, dM, rfl, RM⟩, hbb⟩
            replace RA := RdM.below RA hbb
            replace RB := RdM.below RB hbb
            replace X5 := X5.later hbb
            replace X14 := X14.later hbb
            replace hB := nxt hB hbb
            clear hbb
            have HP := Lib.hid (And.intro RA (And.intro RB (And.intro X5 (And.intro X14 (And.intro RM hB)))))
            clear RA RB X5 X14 RM hB
            go_wp2_with fail
            obtain ⟨RA, RB, X5, X14, RM, hB⟩ := HP.out
            clear HP
            refine (mdet_any 120 252 (by decide) n hn4 M dM _ _ _ (mulM n (xsM ba sa ea) (xsM bb sb eb)) w13 (fun i j => nd_db (db_mm hn4 (fun i j => db_ok (HOA.out i j)) (fun i j => db_ok (HOB.out i j)) i j) (by decide)) (db_mm hn4 (fun i j => db_ok (HOA.out i j)) (fun i j => db_ok (HOB.out i j))) RM (tab_keep HT.out hB)).mono ?_
            rintro e w14 ⟨rfl, hbb⟩
            replace RA := RdM.below RA hbb
            replace RB := RdM.below RB hbb
            replace X5 := X5.later hbb
            replace X14 := X14.later hbb
            replace RM := RdM.below RM hbb
            replace hB := nxt hB hbb
            clear hbb
            clear RM RA RB
            rw [show detL n (mulM n (xsM ba sa ea) (xsM bb sb eb)) = detL n (xsM ba sa ea) * detL n (xsM bb sb eb) from det_mul n hn4 (xsM ba sa ea) (xsM bb sb eb)]
            have hbb := b1 w14 (.cells #[.bool (neg (dm ((detL n (xsM ba sa ea) * detL n (xsM bb sb eb))))), .string (mag (dm ((detL n (xsM ba sa ea) * detL n (xsM bb sb eb))))), .int .i64 (de ((detL n (xsM ba sa ea) * detL n (xsM bb sb eb))))] 29)
            replace X5 := X5.later hbb
            replace X14 := X14.later hbb
            replace hB := nxt hB hbb
            have X18 := Bx.new w14 29 #[.bool (neg (dm ((detL n (xsM ba sa ea) * detL n (xsM bb sb eb))))), .string (mag (dm ((detL n (xsM ba sa ea) * detL n (xsM bb sb eb))))), .int .i64 (de ((detL n (xsM ba sa ea) * detL n (xsM bb sb eb))))]
            clear hbb
            have HP := Lib.hid (And.intro X5 (And.intro X14 (And.intro X18 hB)))
            clear X5 X14 X18 hB
            go_upto_region 19 with (fail)
            obtain ⟨X5, X14, X18, hB⟩ := HP.out
            clear HP
            generalize w14.alloc (.cells #[.bool (neg (dm ((detL n (xsM ba sa ea) * detL n (xsM bb sb eb))))), .string (mag (dm ((detL n (xsM ba sa ea) * detL n (xsM bb sb eb))))), .int .i64 (de ((detL n (xsM ba sa ea) * detL n (xsM bb sb eb))))] 29) = w15 at *
            generalize w14.heap.size = g15 at *
            have HBB := Lib.hid hB
            clear hB
            refine wp_region_k [103, 104, 105, 106, 107, 108, 109, 110, 111, 112, 113, 114, 115, 116, 117, 118, 119, 4] [.eq (.int .i64 0), .eq (.bool true), .eq (.bool true), .eq (.int .i64 0), .eq (.bool true), .eq (.bool true), .eq (.bool true), .eq (.agg #[.bool (neg (dm ((detL n (xsM ba sa ea) * detL n (xsM bb sb eb))))), .string (mag (dm ((detL n (xsM ba sa ea) * detL n (xsM bb sb eb))))), .int .i64 (de ((detL n (xsM ba sa ea) * detL n (xsM bb sb eb))))]), .eq (.agg #[.bool (neg (dm (detL n (xsM ba sa ea)))), .string (mag (dm (detL n (xsM ba sa ea)))), .int .i64 (de (detL n (xsM ba sa ea)))]), .eq (.agg #[.bool (neg (dm (detL n (xsM bb sb eb)))), .string (mag (dm (detL n (xsM bb sb eb)))), .int .i64 (de (detL n (xsM bb sb eb)))]), .sli w15.heap.size 29 2 #[.bool (neg (dm (detL n (xsM ba sa ea)))), .string (mag (dm (detL n (xsM ba sa ea)))), .int .i64 (de (detL n (xsM ba sa ea))), .bool (neg (dm (detL n (xsM bb sb eb)))), .string (mag (dm (detL n (xsM bb sb eb)))), .int .i64 (de (detL n (xsM bb sb eb)))], .eq (.agg #[.bool (neg (dm ((detL n (xsM ba sa ea) * detL n (xsM bb sb eb))))), .string (mag (dm ((detL n (xsM ba sa ea) * detL n (xsM bb sb eb))))), .int .i64 (de ((detL n (xsM ba sa ea) * detL n (xsM bb sb eb))))]), .eq (.bool true), .eq (.bool true), .eq (.bool true), .eq (.bool true), .eq (.bool true), .eq (.bool true)] 120 (by kernel_rfl) (by exact fun _ _ _ _ _ h => h) (by kernel_rfl) (by rfl) ?hop ?htail
            case hop =>
              intro A hA
              have hN : A.tmps.size = 120 := by rw [hA]; rfl
              have q17 : A.tmps.getD 17 undef = .int .i64 0 := by rw [hA]; rfl
              have q19 : A.tmps.getD 19 undef = .int .i64 0 := by rw [hA]; rfl
              have q18 : A.tmps.getD 18 undef = .pointer (some ⟨g15, 0, none⟩) := by rw [hA]; rfl
              have q5 : A.tmps.getD 5 undef = .pointer (some ⟨g4, 0, none⟩) := by rw [hA]; rfl
              have q14 : A.tmps.getD 14 undef = .pointer (some ⟨g12, 0, none⟩) := by rw [hA]; rfl
              clear hA
              refine ⟨?_, ?_, ?_, ?_, ?_, ?_, ?_, ?_, ?_, ?_, ?_, ?_, ?_, ?_, ?_, ?_, ?_, ?_, trivial⟩
              · refine kok hN fun u W ev ec ef E B hG hf => ?_
                exact k_val _ rfl rfl hG (by simp [go_sem, B 17 rfl rfl q17]) rfl
              · refine kok hN fun u W ev ec ef E B hG hf => ?_
                exact k_val _ rfl rfl hG (by simp [go_sem, ec, E 103 0 rfl rfl (hf 0 rfl)]) rfl
              · refine kok hN fun u W ev ec ef E B hG hf => ?_
                exact k_val _ rfl rfl hG (by simp [go_sem, E 104 1 rfl rfl (hf 1 rfl)]) rfl
              · refine kok hN fun u W ev ec ef E B hG hf => ?_
                exact k_val _ ⟨_, hf 2 rfl, rfl⟩ rfl hG (by simp [go_sem, B 19 rfl rfl q19]) rfl
              · refine kok hN fun u W ev ec ef E B hG hf => ?_
                exact k_val _ ⟨_, hf 2 rfl, rfl⟩ rfl hG (by simp [go_sem, ec, E 106 3 rfl rfl (hf 3 rfl)]) rfl
              · refine kok hN fun u W ev ec ef E B hG hf => ?_
                exact k_val _ rfl rfl hG (by simp [go_sem, E 105 2 rfl rfl (hf 2 rfl), E 107 4 rfl rfl (hf 4 rfl)]) rfl
              · refine kok hN fun u W ev ec ef E B hG hf => ?_
                exact k_val _ rfl rfl hG (by simp [go_sem, E 108 5 rfl rfl (hf 5 rfl)]) rfl
              · refine kok hN fun u W ev ec ef E B hG hf => ?_
                exact k_val _ ⟨_, hf 6 rfl, rfl⟩ rfl hG (by simp [go_sem, B 18 rfl rfl q18, (X18.later hG).cel]) rfl
              · refine kok hN fun u W ev ec ef E B hG hf => ?_
                exact k_val _ ⟨_, hf 6 rfl, rfl⟩ rfl hG (by simp [go_sem, B 5 rfl rfl q5, (X5.later hG).cel]) rfl
              · refine kok hN fun u W ev ec ef E B hG hf => ?_
                exact k_val _ ⟨_, hf 6 rfl, rfl⟩ rfl hG (by simp [go_sem, B 14 rfl rfl q14, (X14.later hG).cel]) rfl
              · refine kok hN fun u W ev ec ef E B hG hf => ?_
                exact k_new _ _ ⟨_, hf 6 rfl, rfl⟩ (by simp [go_sem, E 111 8 rfl rfl (hf 8 rfl), E 112 9 rfl rfl (hf 9 rfl)]) (nxtA hG _) ⟨_, rfl, below_le hG, Bx.new _ _ _⟩ rfl
              · refine kok hN fun u W ev ec ef E B hG hf => ?_
                obtain ⟨g113, f113, hb113, hx113⟩ := hf 10 rfl
                exact k_cl ⟨_, hf 6 rfl, rfl⟩ rfl (by simp [go_sem, ef, E 113 10 rfl rfl f113]) (dMul2N (nd_db (db_dt hn4 (fun i j => db_ok (HOA.out i j))) (by decide)) (nd_db (db_dt hn4 (fun i j => db_ok (HOB.out i j))) (by decide)) (db_dt hn4 (fun i j => db_ok (HOA.out i j))) (db_dt hn4 (fun i j => db_ok (HOB.out i j))) (by decide) (tab_keep HT.out (nxt HBB.out hG)) hx113) hG (fun _ _ => rfl)
              · refine kok hN fun u W ev ec ef E B hG hf => ?_
                exact k_val _ ⟨_, hf 6 rfl, rfl⟩ rfl hG (by simp [go_sem, E 110 7 rfl rfl (hf 7 rfl), E 114 11 rfl rfl (hf 11 rfl)]) rfl
              · refine kok hN fun u W ev ec ef E B hG hf => ?_
                exact k_val _ rfl rfl hG (by simp [go_sem, E 109 6 rfl rfl (hf 6 rfl), E 115 12 rfl rfl (hf 12 rfl)]) rfl
              · refine kok hN fun u W ev ec ef E B hG hf => ?_
                exact k_val _ rfl rfl hG (by simp [go_sem, E 116 13 rfl rfl (hf 13 rfl)]) rfl
              · refine kok hN fun u W ev ec ef E B hG hf => ?_
                exact k_cl ⟨_, hf 14 rfl, rfl⟩ rfl (by simp [go_sem, ef]) (awakeM W (tab_keep HT.out (nxt HBB.out hG))) hG (fun _ _ => rfl)
              · refine kok hN fun u W ev ec ef E B hG hf => ?_
                exact k_val _ rfl rfl hG (by simp [go_sem, E 117 14 rfl rfl (hf 14 rfl), E 118 15 rfl rfl (hf 15 rfl)]) rfl
              · refine kok hN fun u W ev ec ef E B hG hf => ?_
                exact k_val _ rfl rfl hG (by simp [go_sem, E 119 16 rfl rfl (hf 16 rfl)]) rfl
            case htail =>
            intro u w99 hG hP _
            have f0 : u 17 = .bool true := hP 17 (by decide)
            simp only [putAll, Act.put, List.setIfInBounds_toArray, List.set_cons_zero, List.set_cons_succ, List.length_cons, List.length_nil, Nat.reduceAdd, List.drop_succ_cons, List.drop_zero, f0]
            have hB := nxt HBB.out hG
            clear hP hG f0 HBB X5 X14 X18
            go_wp2
            go_ret
            exact ⟨rfl, hB⟩
          · have E2 := Lib.hid h0
            have hq : ((n : Int) != (m : Int)) = true := by simp; omega
            have hqq : ¬ (n : Int) = (m : Int) := by omega
            clear h0
            have HP := Lib.hid (And.intro RA (And.intro RB (And.intro X5 hB)))
            clear RA RB X5 hB
            go_wp2_with fail
            obtain ⟨RA, RB, X5, hB⟩ := HP.out
            clear HP
            refine (mdet_any 60 124 (by decide) m hm4 UB d bb sb eb (xsM bb sb eb) w10 (fun i j => nd_ok (HOB.out i j)) (fun i j => db_ok (HOB.out i j)) RB (tab_keep HT.out hB)).mono ?_
            rintro e w11 ⟨rfl, hbb⟩
            replace RA := RdM.below RA hbb
            replace RB := RdM.below RB hbb
            replace X5 := X5.later hbb
            replace hB := nxt hB hbb
            clear hbb
            have hbb := b1 w11 (.cells #[.bool (neg (dm (detL m (xsM bb sb eb)))), .string (mag (dm (detL m (xsM bb sb eb)))), .int .i64 (de (detL m (xsM bb sb eb)))] 29)
            replace RA := RdM.below RA hbb
            replace RB := RdM.below RB hbb
            replace X5 := X5.later hbb
            replace hB := nxt hB hbb
            have X14 := Bx.new w11 29 #[.bool (neg (dm (detL m (xsM bb sb eb)))), .string (mag (dm (detL m (xsM bb sb eb)))), .int .i64 (de (detL m (xsM bb sb eb)))]
            clear hbb
            have HP := Lib.hid (And.intro RA (And.intro RB (And.intro X5 (And.intro X14 hB))))
            clear RA RB X5 X14 hB
            go_wp2_with fail
            obtain ⟨RA, RB, X5, X14, hB⟩ := HP.out
            clear HP
            generalize w11.alloc (.cells #[.bool (neg (dm (detL m (xsM bb sb eb)))), .string (mag (dm (detL m (xsM bb sb eb)))), .int .i64 (de (detL m (xsM bb sb eb)))] 29) = w12 at *
            generalize w11.heap.size = g12 at *
            clear X14
            refine (awakeM _ (tab_keep HT.out hB)).mono ?_
            rintro e w13 ⟨rfl, hbb⟩
            replace RA := RdM.below RA hbb
            replace RB := RdM.below RB hbb
            replace X5 := X5.later hbb
            replace hB := nxt hB hbb
            clear hbb
            have HP := Lib.hid (And.intro RA (And.intro RB (And.intro X5 hB)))
            clear RA RB X5 hB
            go_wp2
            go_ret
            obtain ⟨RA, RB, X5, hB⟩ := HP.out
            clear HP
            exact ⟨rfl, hB⟩
        · have S2 := Lib.hid h0
          clear h0
          have HP := Lib.hid (And.intro RA (And.intro RB (And.intro X5 hB)))
          clear RA RB X5 hB
          go_wp2_with fail
          obtain ⟨RA, RB, X5, hB⟩ := HP.out
          clear HP
          refine (mdet_no m UB d ns w10 (by omega) S2.out RB.len).mono ?_
          rintro e w11 ⟨rfl, hbb⟩
          replace RA := RdM.below RA hbb
          replace RB := RdM.below RB hbb
          replace X5 := X5.later hbb
          replace hB := nxt hB hbb
          clear hbb
          have hbb := b1 w11 (.cells #[.bool false, .string ⟨#[]⟩, .int .i64 0] 29)
          replace RA := RdM.below RA hbb
          replace RB := RdM.below RB hbb
          replace X5 := X5.later hbb
          replace hB := nxt hB hbb
          have X14 := Bx.new w11 29 #[.bool false, .string ⟨#[]⟩, .int .i64 0]
          clear hbb
          have HP := Lib.hid (And.intro RA (And.intro RB (And.intro X5 (And.intro X14 hB))))
          clear RA RB X5 X14 hB
          go_wp2_with fail
          obtain ⟨RA, RB, X5, X14, hB⟩ := HP.out
          clear HP
          generalize w11.alloc (.cells #[.bool false, .string ⟨#[]⟩, .int .i64 0] 29) = w12 at *
          generalize w11.heap.size = g12 at *
          clear X14
          refine (awakeM _ (tab_keep HT.out hB)).mono ?_
          rintro e w13 ⟨rfl, hbb⟩
          replace RA := RdM.below RA hbb
          replace RB := RdM.below RB hbb
          replace X5 := X5.later hbb
          replace hB := nxt hB hbb
          clear hbb
          have HP := Lib.hid (And.intro RA (And.intro RB (And.intro X5 hB)))
          clear RA RB X5 hB
          go_wp2
          go_ret
          obtain ⟨RA, RB, X5, hB⟩ := HP.out
          clear HP
          exact ⟨rfl, hB⟩
      · have S1 := Lib.hid h0
        clear h0
        have HP := Lib.hid (And.intro RA (And.intro RB hB))
        clear RA RB hB
        go_wp2_with fail
        obtain ⟨RA, RB, hB⟩ := HP.out
        clear HP
        refine (mdet_no n TA c ms w2 (by omega) S1.out RA.len).mono ?_
        rintro e w3 ⟨rfl, hbb⟩
        replace RA := RdM.below RA hbb
        replace RB := RdM.below RB hbb
        replace hB := nxt hB hbb
        clear hbb
        have hbb := b1 w3 (.cells #[.bool false, .string ⟨#[]⟩, .int .i64 0] 29)
        replace RA := RdM.below RA hbb
        replace RB := RdM.below RB hbb
        replace hB := nxt hB hbb
        have X5 := Bx.new w3 29 #[.bool false, .string ⟨#[]⟩, .int .i64 0]
        clear hbb
        have HP := Lib.hid (And.intro RA (And.intro RB (And.intro X5 hB)))
        clear RA RB X5 hB
        go_wp2_with fail
        obtain ⟨RA, RB, X5, hB⟩ := HP.out
        clear HP
        generalize w3.alloc (.cells #[.bool false, .string ⟨#[]⟩, .int .i64 0] 29) = w4 at *
        generalize w3.heap.size = g4 at *
        clear X5
        refine (madj_no n TA c ms w4 (by omega) S1.out RA.len).mono ?_
        rintro e w5 ⟨rfl, hbb⟩
        replace RA := RdM.below RA hbb
        replace RB := RdM.below RB hbb
        replace hB := nxt hB hbb
        clear hbb
        have HP := Lib.hid (And.intro RA (And.intro RB hB))
        clear RA RB hB
        go_wp2_with fail
        obtain ⟨RA, RB, hB⟩ := HP.out
        clear HP
        refine (awakeM _ (tab_keep HT.out hB)).mono ?_
        rintro e w6 ⟨rfl, hbb⟩
        replace RA := RdM.below RA hbb
        replace RB := RdM.below RB hbb
        replace hB := nxt hB hbb
        clear hbb
        have HP := Lib.hid (And.intro RA (And.intro RB hB))
        clear RA RB hB
        go_wp2
        go_ret
        obtain ⟨RA, RB, hB⟩ := HP.out
        clear HP
        exact ⟨rfl, hB⟩
    · obtain rfl := hg2 hg
      clear hg1 hg2 hg
      have HP := Lib.hid (And.intro RA (And.intro RB hB))
      clear RA RB hB
      go_wp2_with fail
      obtain ⟨RA, RB, hB⟩ := HP.out
      clear HP
      refine (awakeM _ (tab_keep HT.out hB)).mono ?_
      rintro e w3 ⟨rfl, hbb⟩
      replace RA := RdM.below RA hbb
      replace RB := RdM.below RB hbb
      replace hB := nxt hB hbb
      clear hbb
      have HP := Lib.hid (And.intro RA (And.intro RB hB))
      clear RA RB hB
      go_wp2
      go_ret
      obtain ⟨RA, RB, hB⟩ := HP.out
      clear HP
      exact ⟨rfl, hB⟩
  · obtain rfl := hg2 hg
    clear hg1 hg2 hg
    have HP := Lib.hid (And.intro RA (And.intro RB hB))
    clear RA RB hB
    go_wp2_with fail
    obtain ⟨RA, RB, hB⟩ := HP.out
    clear HP
    refine (awakeM _ (tab_keep HT.out hB)).mono ?_
    rintro e w2 ⟨rfl, hbb⟩
    replace RA := RdM.below RA hbb
    replace RB := RdM.below RB hbb
    replace hB := nxt hB hbb
    clear hbb
    have HP := Lib.hid (And.intro RA (And.intro RB hB))
    clear RA RB hB
    go_wp2
    go_ret
    obtain ⟨RA, RB, hB⟩ := HP.out
    clear HP
    exact ⟨rfl, hB⟩
theorem matAdjs_any (A B : Option Addr) (n c m d : Nat) (ms ns : Nat → Nat) (ba bb : Nat → Nat → Bool) (sa sb : Nat → Nat → ByteArray) (ea eb : Nat → Nat → Int) (w : World) (hn : n ≤ c) (hc : c ≤ maxLen) (hm : m ≤ d) (hd : d ≤ maxLen) (hms : ∀ i, i < n → ms i ≤ maxLen) (hns : ∀ i, i < m → ns i ≤ maxLen)
    (hA : RdM w A n ms ba sa ea) (hBB : RdM w B m ns bb sb eb) (hT : TabAt 0 Lib.deBruijn64tab w) :
    Calls Tryz.prog 6 #[.slice A n c, .slice B m d] w fun r w' => r = .returned (.bool true) ∧ Below w.heap.size w w' := by
  obtain ⟨_, _, _, h1, h2⟩ := hA.clean
  obtain ⟨_, _, _, h3, h4⟩ := hBB.clean
  unfold maxLen at hc hd hms hns
  exact matAdjs_x A B n c m d ms ns _ _ _ _ _ _ w (by omega) (by omega) (fun i hi => Nat.le_trans (hms i hi) (by decide)) (fun i hi => Nat.le_trans (hns i hi) (by decide)) h1 h3 h2 h4 hT
end Go.Proofs.YtibbhpgpleeglaaGreatDoor

