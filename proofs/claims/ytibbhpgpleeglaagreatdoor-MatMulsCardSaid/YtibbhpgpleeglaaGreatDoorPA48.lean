/- The walks and plain laws beneath the statements. -/
import Derived.Test.YtibbhpgpleeglaaGreatDoorPA47
namespace Go.Proofs.YtibbhpgpleeglaaGreatDoor
open Go Go.RowKit

theorem tabRow {w : World} {g : Nat} {X : Option Addr} {n c : Nat} {bs : Nat → Bool} {ss : Nat → ByteArray} {es : Nat → Int} (h : Bx w g 38 #[.slice X n c]) (hnc : n ≤ c) (hX : X = none → n = 0 ∧ c = 0) (hr : RdN w X n bs ss es) : RdM w (some ⟨g, 0, none⟩) 1 (fun _ => n) (fun _ => bs) (fun _ => ss) (fun _ => es) := fun _ => by
  refine ⟨g, 0, rfl, fun i hi => ?_⟩
  obtain rfl : i = 0 := by omega
  exact ⟨X, c, hnc, hX, h.cel 0, hr.cel⟩
theorem RdN.clean {w : World} {A : Option Addr} {n : Nat} {bs : Nat → Bool} {ss : Nat → ByteArray} {es : Nat → Int} (h : RdN w A n bs ss es) :
    ∃ bs' ss' es', RdN w A n bs' ss' es' ∧ ∀ j, ¬ j < n → ss' j = ⟨#[]⟩ ∧ es' j = 0 := by
  refine ⟨fun j => if j < n then bs j else false, fun j => if j < n then ss j else ⟨#[]⟩, fun j => if j < n then es j else 0, fun h0 => ?_, fun j hn => ⟨if_neg hn, if_neg hn⟩⟩
  obtain ⟨b, off, e, hc⟩ := h h0
  refine ⟨b, off, e, fun j hj => ?_⟩
  dsimp only
  rw [if_pos hj, if_pos hj, if_pos hj]
  exact hc j hj
theorem ok_row {n : Nat} {ss : Nat → ByteArray} {es : Nat → Int} (hg : gOK 1 (fun _ => n) (fun _ => ss) (fun _ => es)) (hc : ∀ j, ¬ j < n → ss j = ⟨#[]⟩ ∧ es j = 0) (j : Nat) : okM (ss j) (es j) := by
  by_cases h : j < n
  · exact (hg.2.2 0 (by decide)).2 j h
  · obtain ⟨h1, h2⟩ := hc j h
    rw [h1, h2]
    exact ⟨by decide, by decide, by decide⟩
set_option maxRecDepth 100000 in
set_option maxHeartbeats 4000000 in
theorem matMuls_x (TA UB VX : Option Addr) (n c m d nx cx : Nat) (ms ns : Nat → Nat) (ba bb : Nat → Nat → Bool) (sa sb : Nat → Nat → ByteArray) (ea eb : Nat → Nat → Int) (bx : Nat → Bool) (sx : Nat → ByteArray) (ex : Nat → Int) (w : World) (hn : n ≤ 9223372036854775807) (hm : m ≤ 9223372036854775807) (hms : ∀ i, i < n → ms i ≤ 9223372036854775807) (hns : ∀ i, i < m → ns i ≤ 9223372036854775807) (hnx : nx ≤ cx) (hcx : cx ≤ 9223372036854775807) (hX : VX = none → nx = 0 ∧ cx = 0)
    (RA : RdM w TA n ms ba sa ea) (RB : RdM w UB m ns bb sb eb) (RX : RdN w VX nx bx sx ex) (hca : ∀ i j, ¬ (i < n ∧ j < ms i) → sa i j = ⟨#[]⟩ ∧ ea i j = 0) (hcb : ∀ i j, ¬ (i < m ∧ j < ns i) → sb i j = ⟨#[]⟩ ∧ eb i j = 0) (hcx0 : ∀ j, ¬ j < nx → sx j = ⟨#[]⟩ ∧ ex j = 0) (hT : TabAt 0 Lib.deBruijn64tab w) :
    Calls Tryz.prog 5 #[.slice TA n c, .slice UB m d, .slice VX nx cx] w fun r w' => r = .returned (.bool true) ∧ Below w.heap.size w w' := by
  have HCA := Lib.hid hca
  have HCB := Lib.hid hcb
  have HCX := Lib.hid hcx0
  have HT := Lib.hid hT
  have HMS := Lib.hid hms
  have HNS := Lib.hid hns
  have HX := Lib.hid hX
  have HNX := Lib.hid hnx
  clear hca hcb hcx0 hT hms hns hX hnx
  have hB := Below.refl w.heap.size w
  go_enter Tryz.func5, Tryz.ntmps5
  have HP := Lib.hid (And.intro RA (And.intro RB (And.intro RX hB)))
  clear RA RB RX hB
  go_wp2_with fail
  obtain ⟨RA, RB, RX, hB⟩ := HP.out
  clear HP
  refine (great_any TA n c ms ba sa ea w hn HMS.out RA).mono ?_
  rintro e w1 ⟨hg1, hg2, hbb⟩
  replace RA := RdM.below RA hbb
  replace RB := RdM.below RB hbb
  replace RX := RdN.below RX hbb
  replace hB := nxt hB hbb
  clear hbb
  by_cases hg : gOK n ms sa ea
  · obtain rfl := hg1 hg
    have HGA := Lib.hid hg
    clear hg1 hg2 hg
    have HP := Lib.hid (And.intro RA (And.intro RB (And.intro RX hB)))
    clear RA RB RX hB
    go_wp2_with fail
    obtain ⟨RA, RB, RX, hB⟩ := HP.out
    clear HP
    refine (great_any UB m d ns bb sb eb w1 hm HNS.out RB).mono ?_
    rintro e w2 ⟨hg1, hg2, hbb⟩
    replace RA := RdM.below RA hbb
    replace RB := RdM.below RB hbb
    replace RX := RdN.below RX hbb
    replace hB := nxt hB hbb
    clear hbb
    by_cases hg : gOK m ns sb eb
    · obtain rfl := hg1 hg
      have HGB := Lib.hid hg
      clear hg1 hg2 hg
      have hbb := b1 w2 (.cells #[.slice VX nx cx] 38)
      replace RA := RdM.below RA hbb
      replace RB := RdM.below RB hbb
      replace RX := RdN.below RX hbb
      replace hB := nxt hB hbb
      have ZX := Bx.new w2 38 #[.slice VX nx cx]
      clear hbb
      have HP := Lib.hid (And.intro RA (And.intro RB (And.intro RX (And.intro ZX hB))))
      clear RA RB RX ZX hB
      go_wp2_with fail
      obtain ⟨RA, RB, RX, ZX, hB⟩ := HP.out
      clear HP
      generalize w2.alloc (.cells #[.slice VX nx cx] 38) = w3 at *
      generalize w2.heap.size = g3 at *
      have RT := tabRow ZX HNX.out HX.out RX
      clear ZX
      refine (great_any (some ⟨g3, 0, none⟩) 1 1 (fun _ => nx) (fun _ => bx) (fun _ => sx) (fun _ => ex) w3 (by decide) (fun _ _ => by have := HNX.out; omega) RT).mono ?_
      rintro e w4 ⟨hg1, hg2, hbb⟩
      replace RA := RdM.below RA hbb
      replace RB := RdM.below RB hbb
      replace RX := RdN.below RX hbb
      replace RT := RdM.below RT hbb
      replace hB := nxt hB hbb
      clear hbb
      clear RT
      by_cases hg : gOK 1 (fun _ => nx) (fun _ => sx) (fun _ => ex)
      · obtain rfl := hg1 hg
        have hn20 : n ≤ 20 := HGA.out.2.1
        have hm20 : m ≤ 20 := HGB.out.2.1
        have hx20 : nx ≤ 20 := (hg.2.2 0 (by decide)).1
        have HOX := Lib.hid (ok_row hg HCX.out)
        have HOA := Lib.hid (HGA.out.all HCA.out)
        have HOB := Lib.hid (HGB.out.all HCB.out)
        clear hg1 hg2 hg
        have HP := Lib.hid (And.intro RA (And.intro RB (And.intro RX hB)))
        clear RA RB RX hB
        go_wp2_with fail
        obtain ⟨RA, RB, RX, hB⟩ := HP.out
        clear HP
        refine (mown_any TA n c ms ba sa ea w4 (by omega) (fun i hi => by have := (HGA.out.2.2 i hi).1; omega) RA).mono ?_
        rintro e w5 ⟨⟨U, du, rfl, RU⟩, hbb⟩
        replace RA := RdM.below RA hbb
        replace RB := RdM.below RB hbb
        replace RX := RdN.below RX hbb
        replace hB := nxt hB hbb
        clear hbb
        have HP := Lib.hid (And.intro RA (And.intro RB (And.intro RX (And.intro RU hB))))
        clear RA RB RX RU hB
        go_wp2_with fail
        obtain ⟨RA, RB, RX, RU, hB⟩ := HP.out
        clear HP
        refine (mown_any UB m d ns bb sb eb w5 (by omega) (fun i hi => by have := (HGB.out.2.2 i hi).1; omega) RB).mono ?_
        rintro e w6 ⟨⟨V, dv, rfl, RV⟩, hbb⟩
        replace RA := RdM.below RA hbb
        replace RB := RdM.below RB hbb
        replace RX := RdN.below RX hbb
        replace RU := RdM.below RU hbb
        replace hB := nxt hB hbb
        clear hbb
        have hAL := b1 w6 (.cells #[] 29)
        have ho := own_new0 w6 29 3 w6.heap.size (Nat.le_refl _) (cel3 bx sx ex)
        have hr1 : RdK (w6.alloc (.cells #[] 29)) VX nx 3 (cel3 bx sx ex) := RX.cel.below (cel3_len _ _ _) hAL
        have hsz : w6.heap.size ≤ (w6.alloc (.cells #[] 29)).heap.size := by simp
        have hXX := HX.out
        have h63 : nx ≤ 9223372036854775807 := by omega
        have hby : nx * 32 ≤ 140737488355328 := by omega
        have HP := Lib.hid (And.intro RA (And.intro RB (And.intro RX (And.intro RU (And.intro RV hB)))))
        clear RA RB RX RU RV hB
        go_wp2_with (at_builtin; refine wpList_appendRow rfl (.tmp 30) (.tmp 31) _ rfl w6.heap.size 29 _ 3 32 Tryz.underlying38 info_Num rfl (by decide) _ rfl (cel3 bx sx ex) (fun _ => rfl) ho VX nx cx (cel3_one _ _ _) rfl hXX hr1 h63 hby hsz ?_; intro v' w7 ho' hb5; obtain ⟨Y, cy, rfl, hny, hrd, hba, hno⟩ := OwnK.rd (k := 3) (fun _ => rfl) ho')
        obtain ⟨RA, RB, RX, RU, RV, hB⟩ := HP.out
        clear HP
        have hbb : Below w6.heap.size w6 w7 := belB hAL hb5 (Nat.le_refl _)
        replace RA := RdM.below RA hbb
        replace RB := RdM.below RB hbb
        replace RX := RdN.below RX hbb
        replace RU := RdM.below RU hbb
        replace RV := RdM.below RV hbb
        replace hB := nxt hB hbb
        have RY : RdN w7 Y nx bx sx ex := hrd.num
        clear hbb ho ho' hb5 hr1 hsz hXX h63 hby hAL hrd hba hno hny
        by_cases h0 : sqB n ms
        · have S1 := Lib.hid h0
          have hn4 : n ≤ 4 := HGA.out.four h0
          clear h0
          by_cases h0 : n = nx
          · have E1 := Lib.hid h0
            obtain rfl := h0
            have hp : ((n : Int) != (n : Int)) = false := by simp
            by_cases h0 : sqB m ns
            · have S2 := Lib.hid h0
              clear h0
              by_cases h0 : n = m
              · have E2 := Lib.hid h0
                obtain rfl := h0
                have hq : ((n : Int) != (n : Int)) = false := by simp
                refine (mmul_yes U V n du dv ba bb sa sb ea eb (xsM ba sa ea) (xsM bb sb eb) 60 124 w7 (by omega) (fun i j => nd_ok (HOA.out i j)) (fun i j => nd_ok (HOB.out i j)) (fun i j => db_ok (HOA.out i j)) (fun i j => db_ok (HOB.out i j)) (by decide) (RU.sq S1.out) (RV.sq S2.out) (tab_keep HT.out hB)).mono ?_
                rintro e w8 ⟨⟨C, dc, rfl, RC⟩, hbb⟩
                replace RA := RdM.below RA hbb
                replace RB := RdM.below RB hbb
                replace RX := RdN.below RX hbb
                replace RU := RdM.below RU hbb
                replace RV := RdM.below RV hbb
                replace RY := RdN.below RY hbb
                replace hB := nxt hB hbb
                clear hbb
                have HP := Lib.hid (And.intro RA (And.intro RB (And.intro RX (And.intro RU (And.intro RV (And.intro RY (And.intro RC hB)))))))
                clear RA RB RX RU RV RY RC hB
                go_wp2_with fail
                obtain ⟨RA, RB, RX, RU, RV, RY, RC, hB⟩ := HP.out
                clear HP
                refine (mapply_yes U Y n du cy ba bx sa sx ea ex (xsM ba sa ea) (fun j => dy (ival (bx j) (sval (sx j))) (ex j)) 60 124 w8 (by omega) (fun i j => nd_ok (HOA.out i j)) (fun j => nd_ok (HOX.out j)) (fun i j => db_ok (HOA.out i j)) (fun j => db_ok (HOX.out j)) (by decide) (RU.sq S1.out) RY (tab_keep HT.out hB)).mono ?_
                rintro e w9 ⟨⟨K, dk, rfl, _, _, RK⟩, hbb⟩
                replace RA := RdM.below RA hbb
                replace RB := RdM.below RB hbb
                replace RX := RdN.below RX hbb
                replace RU := RdM.below RU hbb
                replace RV := RdM.below RV hbb
                replace RY := RdN.below RY hbb
                replace RC := RdM.below RC hbb
                replace hB := nxt hB hbb
                clear hbb
                have HP := Lib.hid (And.intro RA (And.intro RB (And.intro RX (And.intro RU (And.intro RV (And.intro RY (And.intro RC (And.intro RK hB))))))))
                clear RA RB RX RU RV RY RC RK hB
                go_wp2_with fail
                obtain ⟨RA, RB, RX, RU, RV, RY, RC, RK, hB⟩ := HP.out
                clear HP
                refine (msame_any U TA n du c ms ba sa ea w9 (by omega) (fun i hi => by have := (HGA.out.2.2 i hi).1; omega) RU RA).mono ?_
                rintro e w10 ⟨rfl, hbb⟩
                replace RA := RdM.below RA hbb
                replace RB := RdM.below RB hbb
                replace RX := RdN.below RX hbb
                replace RU := RdM.below RU hbb
                replace RV := RdM.below RV hbb
                replace RY := RdN.below RY hbb
                replace RC := RdM.below RC hbb
                replace RK := RdN.below RK hbb
                replace hB := nxt hB hbb
                clear hbb
                have HP := Lib.hid (And.intro RA (And.intro RB (And.intro RX (And.intro RU (And.intro RV (And.intro RY (And.intro RC (And.intro RK hB))))))))
                clear RA RB RX RU RV RY RC RK hB
                go_wp2_with fail
                obtain ⟨RA, RB, RX, RU, RV, RY, RC, RK, hB⟩ := HP.out
                clear HP
                refine (msame_any V UB n dv d ns bb sb eb w10 (by omega) (fun i hi => by have := (HGB.out.2.2 i hi).1; omega) RV RB).mono ?_
                rintro e w11 ⟨rfl, hbb⟩
                replace RA := RdM.below RA hbb
                replace RB := RdM.below RB hbb
                replace RX := RdN.below RX hbb
                replace RU := RdM.below RU hbb
                replace RV := RdM.below RV hbb
                replace RY := RdN.below RY hbb
                replace RC := RdM.below RC hbb
                replace RK := RdN.below RK hbb
                replace hB := nxt hB hbb
                clear hbb
                have HP := Lib.hid (And.intro RA (And.intro RB (And.intro RX (And.intro RU (And.intro RV (And.intro RY (And.intro RC (And.intro RK hB))))))))
                clear RA RB RX RU RV RY RC RK hB
                go_wp2_with fail
                obtain ⟨RA, RB, RX, RU, RV, RY, RC, RK, hB⟩ := HP.out
                clear HP
                refine (mrow_any Y VX n cy cx bx sx ex w11 (by omega) RY RX).mono ?_
                rintro e w12 ⟨rfl, hbb⟩
                replace RA := RdM.below RA hbb
                replace RB := RdM.below RB hbb
                replace RX := RdN.below RX hbb
                replace RU := RdM.below RU hbb
                replace RV := RdM.below RV hbb
                replace RY := RdN.below RY hbb
                replace RC := RdM.below RC hbb
                replace RK := RdN.below RK hbb
                replace hB := nxt hB hbb
                clear hbb
                clear RU RV RY
                have HP := Lib.hid (And.intro RA (And.intro RB (And.intro RX (And.intro RC (And.intro RK hB)))))
                clear RA RB RX RC RK hB
                go_wp2_with fail
                obtain ⟨RA, RB, RX, RC, RK, hB⟩ := HP.out
                clear HP
                refine (rcheck_any TA n c ms w12 (by omega) RA.len).mono ?_
                rintro e w13 ⟨h1, _, rfl⟩
                obtain rfl := h1 S1.out
                clear h1
                have HP := Lib.hid (And.intro RA (And.intro RB (And.intro RX (And.intro RC (And.intro RK hB)))))
                clear RA RB RX RC RK hB
                go_wp2_with fail
                obtain ⟨RA, RB, RX, RC, RK, hB⟩ := HP.out
                clear HP
                refine (rapply_any TA VX n c cx ba bx sa sx ea ex (xsM ba sa ea) (fun j => dy (ival (bx j) (sval (sx j))) (ex j)) 60 124 w13 (by omega) (fun i j => nd_ok (HOA.out i j)) (fun j => nd_ok (HOX.out j)) (fun i j => by have h1 := (HOA.out i j).2.1; have h2 := (HOX.out j).2.1; omega) (fun i j => db_ok (HOA.out i j)) (fun j => db_ok (HOX.out j)) (by decide) (RA.sq S1.out) RX).mono ?_
                rintro e w14 ⟨⟨K2, dk2, rfl, RK2⟩, hbb⟩
                replace RA := RdM.below RA hbb
                replace RB := RdM.below RB hbb
                replace RX := RdN.below RX hbb
                replace RC := RdM.below RC hbb
                replace RK := RdN.below RK hbb
                replace hB := nxt hB hbb
                clear hbb
                have HP := Lib.hid (And.intro RA (And.intro RB (And.intro RX (And.intro RC (And.intro RK (And.intro RK2 hB))))))
                clear RA RB RX RC RK RK2 hB
                go_wp2_with fail
                obtain ⟨RA, RB, RX, RC, RK, RK2, hB⟩ := HP.out
                clear HP
                refine (mrow_any K K2 n dk dk2 _ _ _ w14 (by omega) RK RK2).mono ?_
                rintro e w15 ⟨rfl, hbb⟩
                replace RA := RdM.below RA hbb
                replace RB := RdM.below RB hbb
                replace RX := RdN.below RX hbb
                replace RC := RdM.below RC hbb
                replace RK := RdN.below RK hbb
                replace RK2 := RdN.below RK2 hbb
                replace hB := nxt hB hbb
                clear hbb
                clear RK RK2
                have HP := Lib.hid (And.intro RA (And.intro RB (And.intro RX (And.intro RC hB))))
                clear RA RB RX RC hB
                go_wp2_with fail
                obtain ⟨RA, RB, RX, RC, hB⟩ := HP.out
                clear HP
                refine (rcheck_any TA n c ms w15 (by omega) RA.len).mono ?_
                rintro e w16 ⟨h1, _, rfl⟩
                obtain rfl := h1 S1.out
                clear h1
                have HP := Lib.hid (And.intro RA (And.intro RB (And.intro RX (And.intro RC hB))))
                clear RA RB RX RC hB
                go_wp2_with fail
                obtain ⟨RA, RB, RX, RC, hB⟩ := HP.out
                clear HP
                refine (rcheck_any UB n d ns w16 (by omega) RB.len).mono ?_
                rintro e w17 ⟨h1, _, rfl⟩
                obtain rfl := h1 S2.out
                clear h1
                have HP := Lib.hid (And.intro RA (And.intro RB (And.intro RX (And.intro RC hB))))
                clear RA RB RX RC hB
                go_wp2_with fail
                obtain ⟨RA, RB, RX, RC, hB⟩ := HP.out
                clear HP
                refine (rmul_any TA UB n c d ba bb sa sb ea eb (xsM ba sa ea) (xsM bb sb eb) 60 124 w17 (by omega) (fun i j => nd_ok (HOA.out i j)) (fun i j => nd_ok (HOB.out i j)) (fun i j i' j' => by have h1 := (HOA.out i j).2.1; have h2 := (HOB.out i' j').2.1; omega) (fun i j => db_ok (HOA.out i j)) (fun i j => db_ok (HOB.out i j)) (by decide) (RA.sq S1.out) (RB.sq S2.out)).mono ?_
                rintro e w18 ⟨⟨C2, dc2, rfl, RC2⟩, hbb⟩
                replace RA := RdM.below RA hbb
                replace RB := RdM.below RB hbb
                replace RX := RdN.below RX hbb
                replace RC := RdM.below RC hbb
                replace hB := nxt hB hbb
                clear hbb
                have HP := Lib.hid (And.intro RA (And.intro RB (And.intro RX (And.intro RC (And.intro RC2 hB)))))
                clear RA RB RX RC RC2 hB
                go_wp2_with fail
                obtain ⟨RA, RB, RX, RC, RC2, hB⟩ := HP.out
                clear HP
                refine (msame_any C C2 n dc dc2 (fun _ => n) _ _ _ w18 (by omega) (fun _ _ => by omega) RC RC2).mono ?_
                rintro e w19 ⟨rfl, hbb⟩
                replace RA := RdM.below RA hbb
                replace RB := RdM.below RB hbb
                replace RX := RdN.below RX hbb
                replace RC := RdM.below RC hbb
                replace RC2 := RdM.below RC2 hbb
                replace hB := nxt hB hbb
                clear hbb
                clear RC RC2
                have HP := Lib.hid (And.intro RA (And.intro RB (And.intro RX hB)))
                clear RA RB RX hB
                go_wp2_with fail
                obtain ⟨RA, RB, RX, hB⟩ := HP.out
                clear HP
                refine (awakeM _ (tab_keep HT.out hB)).mono ?_
                rintro e w20 ⟨rfl, hbb⟩
                replace RA := RdM.below RA hbb
                replace RB := RdM.below RB hbb
                replace RX := RdN.below RX hbb
                replace hB := nxt hB hbb
                clear hbb
                have HP := Lib.hid (And.intro RA (And.intro RB (And.intro RX hB)))
                clear RA RB RX hB
                go_wp2
                go_ret
                obtain ⟨RA, RB, RX, hB⟩ := HP.out
                clear HP
                exact ⟨rfl, hB⟩
              · have E2 := Lib.hid h0
                have hq : ((n : Int) != (m : Int)) = true := by simp; omega
                have hqq : ¬ (n : Int) = (m : Int) := by omega
                clear h0
                refine (mmul_no U V n m du dv ms ns w7 (by omega) (by omega) (fun h => E2.out h.2.2) RU.len RV.len).mono ?_
                rintro e w8 ⟨rfl, hbb⟩
                replace RA := RdM.below RA hbb
                replace RB := RdM.below RB hbb
                replace RX := RdN.below RX hbb
                replace RU := RdM.below RU hbb
                replace RV := RdM.below RV hbb
                replace RY := RdN.below RY hbb
                replace hB := nxt hB hbb
                clear hbb
                have HP := Lib.hid (And.intro RA (And.intro RB (And.intro RX (And.intro RU (And.intro RV (And.intro RY hB))))))
                clear RA RB RX RU RV RY hB
                go_wp2_with fail
                obtain ⟨RA, RB, RX, RU, RV, RY, hB⟩ := HP.out
                clear HP
                refine (mapply_yes U Y n du cy ba bx sa sx ea ex (xsM ba sa ea) (fun j => dy (ival (bx j) (sval (sx j))) (ex j)) 60 124 w8 (by omega) (fun i j => nd_ok (HOA.out i j)) (fun j => nd_ok (HOX.out j)) (fun i j => db_ok (HOA.out i j)) (fun j => db_ok (HOX.out j)) (by decide) (RU.sq S1.out) RY (tab_keep HT.out hB)).mono ?_
                rintro e w9 ⟨⟨K, dk, rfl, _, _, RK⟩, hbb⟩
                replace RA := RdM.below RA hbb
                replace RB := RdM.below RB hbb
                replace RX := RdN.below RX hbb
                replace RU := RdM.below RU hbb
                replace RV := RdM.below RV hbb
                replace RY := RdN.below RY hbb
                replace hB := nxt hB hbb
                clear hbb
                have HP := Lib.hid (And.intro RA (And.intro RB (And.intro RX (And.intro RU (And.intro RV (And.intro RY (And.intro RK hB)))))))
                clear RA RB RX RU RV RY RK hB
                go_wp2_with fail
                obtain ⟨RA, RB, RX, RU, RV, RY, RK, hB⟩ := HP.out
                clear HP
                refine (msame_any U TA n du c ms ba sa ea w9 (by omega) (fun i hi => by have := (HGA.out.2.2 i hi).1; omega) RU RA).mono ?_
                rintro e w10 ⟨rfl, hbb⟩
                replace RA := RdM.below RA hbb
                replace RB := RdM.below RB hbb
                replace RX := RdN.below RX hbb
                replace RU := RdM.below RU hbb
                replace RV := RdM.below RV hbb
                replace RY := RdN.below RY hbb
                replace RK := RdN.below RK hbb
                replace hB := nxt hB hbb
                clear hbb
                have HP := Lib.hid (And.intro RA (And.intro RB (And.intro RX (And.intro RU (And.intro RV (And.intro RY (And.intro RK hB)))))))
                clear RA RB RX RU RV RY RK hB
                go_wp2_with fail
                obtain ⟨RA, RB, RX, RU, RV, RY, RK, hB⟩ := HP.out
                clear HP
                refine (msame_any V UB m dv d ns bb sb eb w10 (by omega) (fun i hi => by have := (HGB.out.2.2 i hi).1; omega) RV RB).mono ?_
                rintro e w11 ⟨rfl, hbb⟩
                replace RA := RdM.below RA hbb
                replace RB := RdM.below RB hbb
                replace RX := RdN.below RX hbb
                replace RU := RdM.below RU hbb
                replace RV := RdM.below RV hbb
                replace RY := RdN.below RY hbb
                replace RK := RdN.below RK hbb
                replace hB := nxt hB hbb
                clear hbb
                have HP := Lib.hid (And.intro RA (And.intro RB (And.intro RX (And.intro RU (And.intro RV (And.intro RY (And.intro RK hB)))))))
                clear RA RB RX RU RV RY RK hB
                go_wp2_with fail
                obtain ⟨RA, RB, RX, RU, RV, RY, RK, hB⟩ := HP.out
                clear HP
                refine (mrow_any Y VX n cy cx bx sx ex w11 (by omega) RY RX).mono ?_
                rintro e w12 ⟨rfl, hbb⟩
                replace RA := RdM.below RA hbb
                replace RB := RdM.below RB hbb
                replace RX := RdN.below RX hbb
                replace RU := RdM.below RU hbb
                replace RV := RdM.below RV hbb
                replace RY := RdN.below RY hbb
                replace RK := RdN.below RK hbb
                replace hB := nxt hB hbb
                clear hbb
                clear RU RV RY
                have HP := Lib.hid (And.intro RA (And.intro RB (And.intro RX (And.intro RK hB))))
                clear RA RB RX RK hB
                go_wp2_with fail
                obtain ⟨RA, RB, RX, RK, hB⟩ := HP.out
                clear HP
                refine (rcheck_any TA n c ms w12 (by omega) RA.len).mono ?_
                rintro e w13 ⟨h1, _, rfl⟩
                obtain rfl := h1 S1.out
                clear h1
                have HP := Lib.hid (And.intro RA (And.intro RB (And.intro RX (And.intro RK hB))))
                clear RA RB RX RK hB
                go_wp2_with fail
                obtain ⟨RA, RB, RX, RK, hB⟩ := HP.out
                clear HP
                refine (rapply_any TA VX n c cx ba bx sa sx ea ex (xsM ba sa ea) (fun j => dy (ival (bx j) (sval (sx j))) (ex j)) 60 124 w13 (by omega) (fun i j => nd_ok (HOA.out i j)) (fun j => nd_ok (HOX.out j)) (fun i j => by have h1 := (HOA.out i j).2.1; have h2 := (HOX.out j).2.1; omega) (fun i j => db_ok (HOA.out i j)) (fun j => db_ok (HOX.out j)) (by decide) (RA.sq S1.out) RX).mono ?_
                rintro e w14 ⟨⟨K2, dk2, rfl, RK2⟩, hbb⟩
                replace RA := RdM.below RA hbb
                replace RB := RdM.below RB hbb
                replace RX := RdN.below RX hbb
                replace RK := RdN.below RK hbb
                replace hB := nxt hB hbb
                clear hbb
                have HP := Lib.hid (And.intro RA (And.intro RB (And.intro RX (And.intro RK (And.intro RK2 hB)))))
                clear RA RB RX RK RK2 hB
                go_wp2_with fail
                obtain ⟨RA, RB, RX, RK, RK2, hB⟩ := HP.out
                clear HP
                refine (mrow_any K K2 n dk dk2 _ _ _ w14 (by omega) RK RK2).mono ?_
                rintro e w15 ⟨rfl, hbb⟩
                replace RA := RdM.below RA hbb
                replace RB := RdM.below RB hbb
                replace RX := RdN.below RX hbb
                replace RK := RdN.below RK hbb
                replace RK2 := RdN.below RK2 hbb
                replace hB := nxt hB hbb
                clear hbb
                clear RK RK2
                have HP := Lib.hid (And.intro RA (And.intro RB (And.intro RX hB)))
                clear RA RB RX hB
                go_wp2_with fail
                obtain ⟨RA, RB, RX, hB⟩ := HP.out
                clear HP
                refine (rcheck_any TA n c ms w15 (by omega) RA.len).mono ?_
                rintro e w16 ⟨h1, _, rfl⟩
                obtain rfl := h1 S1.out
                clear h1
                have HP := Lib.hid (And.intro RA (And.intro RB (And.intro RX hB)))
                clear RA RB RX hB
                go_wp2_with fail
                obtain ⟨RA, RB, RX, hB⟩ := HP.out
                clear HP
                refine (rcheck_any UB m d ns w16 (by omega) RB.len).mono ?_
                rintro e w17 ⟨h1, _, rfl⟩
                obtain rfl := h1 S2.out
                clear h1
                have HP := Lib.hid (And.intro RA (And.intro RB (And.intro RX hB)))
                clear RA RB RX hB
                go_wp2_with fail
                obtain ⟨RA, RB, RX, hB⟩ := HP.out
                clear HP
                refine (awakeM _ (tab_keep HT.out hB)).mono ?_
                rintro e w18 ⟨rfl, hbb⟩
                replace RA := RdM.below RA hbb
                replace RB := RdM.below RB hbb
                replace RX := RdN.below RX hbb
                replace hB := nxt hB hbb
                clear hbb
                have HP := Lib.hid (And.intro RA (And.intro RB (And.intro RX hB)))
                clear RA RB RX hB
                go_wp2
                go_ret
                obtain ⟨RA, RB, RX, hB⟩ := HP.out
                clear HP
                exact ⟨rfl, hB⟩
            · have S2 := Lib.hid h0
              clear h0
              refine (mmul_no U V n m du dv ms ns w7 (by omega) (by omega) (fun h => S2.out h.2.1) RU.len RV.len).mono ?_
              rintro e w8 ⟨rfl, hbb⟩
              replace RA := RdM.below RA hbb
              replace RB := RdM.below RB hbb
              replace RX := RdN.below RX hbb
              replace RU := RdM.below RU hbb
              replace RV := RdM.below RV hbb
              replace RY := RdN.below RY hbb
              replace hB := nxt hB hbb
              clear hbb
              have HP := Lib.hid (And.intro RA (And.intro RB (And.intro RX (And.intro RU (And.intro RV (And.intro RY hB))))))
              clear RA RB RX RU RV RY hB
              go_wp2_with fail
              obtain ⟨RA, RB, RX, RU, RV, RY, hB⟩ := HP.out
              clear HP
              refine (mapply_yes U Y n du cy ba bx sa sx ea ex (xsM ba sa ea) (fun j => dy (ival (bx j) (sval (sx j))) (ex j)) 60 124 w8 (by omega) (fun i j => nd_ok (HOA.out i j)) (fun j => nd_ok (HOX.out j)) (fun i j => db_ok (HOA.out i j)) (fun j => db_ok (HOX.out j)) (by decide) (RU.sq S1.out) RY (tab_keep HT.out hB)).mono ?_
              rintro e w9 ⟨⟨K, dk, rfl, _, _, RK⟩, hbb⟩
              replace RA := RdM.below RA hbb
              replace RB := RdM.below RB hbb
              replace RX := RdN.below RX hbb
              replace RU := RdM.below RU hbb
              replace RV := RdM.below RV hbb
              replace RY := RdN.below RY hbb
              replace hB := nxt hB hbb
              clear hbb
              have HP := Lib.hid (And.intro RA (And.intro RB (And.intro RX (And.intro RU (And.intro RV (And.intro RY (And.intro RK hB)))))))
              clear RA RB RX RU RV RY RK hB
              go_wp2_with fail
              obtain ⟨RA, RB, RX, RU, RV, RY, RK, hB⟩ := HP.out
              clear HP
              refine (msame_any U TA n du c ms ba sa ea w9 (by omega) (fun i hi => by have := (HGA.out.2.2 i hi).1; omega) RU RA).mono ?_
              rintro e w10 ⟨rfl, hbb⟩
              replace RA := RdM.below RA hbb
              replace RB := RdM.below RB hbb
              replace RX := RdN.below RX hbb
              replace RU := RdM.below RU hbb
              replace RV := RdM.below RV hbb
              replace RY := RdN.below RY hbb
              replace RK := RdN.below RK hbb
              replace hB := nxt hB hbb
              clear hbb
              have HP := Lib.hid (And.intro RA (And.intro RB (And.intro RX (And.intro RU (And.intro RV (And.intro RY (And.intro RK hB)))))))
              clear RA RB RX RU RV RY RK hB
              go_wp2_with fail
              obtain ⟨RA, RB, RX, RU, RV, RY, RK, hB⟩ := HP.out
              clear HP
              refine (msame_any V UB m dv d ns bb sb eb w10 (by omega) (fun i hi => by have := (HGB.out.2.2 i hi).1; omega) RV RB).mono ?_
              rintro e w11 ⟨rfl, hbb⟩
              replace RA := RdM.below RA hbb
              replace RB := RdM.below RB hbb
              replace RX := RdN.below RX hbb
              replace RU := RdM.below RU hbb
              replace RV := RdM.below RV hbb
              replace RY := RdN.below RY hbb
              replace RK := RdN.below RK hbb
              replace hB := nxt hB hbb
              clear hbb
              have HP := Lib.hid (And.intro RA (And.intro RB (And.intro RX (And.intro RU (And.intro RV (And.intro RY (And.intro RK hB)))))))
              clear RA RB RX RU RV RY RK hB
              go_wp2_with fail
              obtain ⟨RA, RB, RX, RU, RV, RY, RK, hB⟩ := HP.out
              clear HP
              refine (mrow_any Y VX n cy cx bx sx ex w11 (by omega) RY RX).mono ?_
              rintro e w12 ⟨rfl, hbb⟩
              replace RA := RdM.below RA hbb
              replace RB := RdM.below RB hbb
              replace RX := RdN.below RX hbb
              replace RU := RdM.below RU hbb
              replace RV := RdM.below RV hbb
              replace RY := RdN.below RY hbb
              replace RK := RdN.below RK hbb
              replace hB := nxt hB hbb
              clear hbb
              clear RU RV RY
              have HP := Lib.hid (And.intro RA (And.intro RB (And.intro RX (And.intro RK hB))))
              clear RA RB RX RK hB
              go_wp2_with fail
              obtain ⟨RA, RB, RX, RK, hB⟩ := HP.out
              clear HP
              refine (rcheck_any TA n c ms w12 (by omega) RA.len).mono ?_
              rintro e w13 ⟨h1, _, rfl⟩
              obtain rfl := h1 S1.out
              clear h1
              have HP := Lib.hid (And.intro RA (And.intro RB (And.intro RX (And.intro RK hB))))
              clear RA RB RX RK hB
              go_wp2_with fail
              obtain ⟨RA, RB, RX, RK, hB⟩ := HP.out
              clear HP
              refine (rapply_any TA VX n c cx ba bx sa sx ea ex (xsM ba sa ea) (fun j => dy (ival (bx j) (sval (sx j))) (ex j)) 60 124 w13 (by omega) (fun i j => nd_ok (HOA.out i j)) (fun j => nd_ok (HOX.out j)) (fun i j => by have h1 := (HOA.out i j).2.1; have h2 := (HOX.out j).2.1; omega) (fun i j => db_ok (HOA.out i j)) (fun j => db_ok (HOX.out j)) (by decide) (RA.sq S1.out) RX).mono ?_
              rintro e w14 ⟨⟨K2, dk2, rfl, RK2⟩, hbb⟩
              replace RA := RdM.below RA hbb
              replace RB := RdM.below RB hbb
              replace RX := RdN.below RX hbb
              replace RK := RdN.below RK hbb
              replace hB := nxt hB hbb
              clear hbb
              have HP := Lib.hid (And.intro RA (And.intro RB (And.intro RX (And.intro RK (And.intro RK2 hB)))))
              clear RA RB RX RK RK2 hB
              go_wp2_with fail
              obtain ⟨RA, RB, RX, RK, RK2, hB⟩ := HP.out
              clear HP
              refine (mrow_any K K2 n dk dk2 _ _ _ w14 (by omega) RK RK2).mono ?_
              rintro e w15 ⟨rfl, hbb⟩
              replace RA := RdM.below RA hbb
              replace RB := RdM.below RB hbb
              replace RX := RdN.below RX hbb
              replace RK := RdN.below RK hbb
              replace RK2 := RdN.below RK2 hbb
              replace hB := nxt hB hbb
              clear hbb
              clear RK RK2
              have HP := Lib.hid (And.intro RA (And.intro RB (And.intro RX hB)))
              clear RA RB RX hB
              go_wp2_with fail
              obtain ⟨RA, RB, RX, hB⟩ := HP.out
              clear HP
              refine (rcheck_any TA n c ms w15 (by omega) RA.len).mono ?_
              rintro e w16 ⟨h1, _, rfl⟩
              obtain rfl := h1 S1.out
              clear h1
              have HP := Lib.hid (And.intro RA (And.intro RB (And.intro RX hB)))
              clear RA RB RX hB
              go_wp2_with fail
              obtain ⟨RA, RB, RX, hB⟩ := HP.out
              clear HP
              refine (rcheck_any UB m d ns w16 (by omega) RB.len).mono ?_
              rintro e w17 ⟨_, h1, rfl⟩
              obtain rfl := h1 S2.out
              clear h1
              have HP := Lib.hid (And.intro RA (And.intro RB (And.intro RX hB)))
              clear RA RB RX hB
              go_wp2_with fail
              obtain ⟨RA, RB, RX, hB⟩ := HP.out
              clear HP
              refine (awakeM _ (tab_keep HT.out hB)).mono ?_
              rintro e w18 ⟨rfl, hbb⟩
              replace RA := RdM.below RA hbb
              replace RB := RdM.below RB hbb
              replace RX := RdN.below RX hbb
              replace hB := nxt hB hbb
              clear hbb
              have HP := Lib.hid (And.intro RA (And.intro RB (And.intro RX hB)))
              clear RA RB RX hB
              go_wp2
              go_ret
              obtain ⟨RA, RB, RX, hB⟩ := HP.out
              clear HP
              exact ⟨rfl, hB⟩
          · have E1 := Lib.hid h0
            have hp : ((n : Int) != (nx : Int)) = true := by simp; omega
            have hpp : ¬ (n : Int) = (nx : Int) := by omega
            clear h0
            by_cases h0 : sqB m ns
            · have S2 := Lib.hid h0
              clear h0
              by_cases h0 : n = m
              · have E2 := Lib.hid h0
                obtain rfl := h0
                have hq : ((n : Int) != (n : Int)) = false := by simp
                refine (mmul_yes U V n du dv ba bb sa sb ea eb (xsM ba sa ea) (xsM bb sb eb) 60 124 w7 (by omega) (fun i j => nd_ok (HOA.out i j)) (fun i j => nd_ok (HOB.out i j)) (fun i j => db_ok (HOA.out i j)) (fun i j => db_ok (HOB.out i j)) (by decide) (RU.sq S1.out) (RV.sq S2.out) (tab_keep HT.out hB)).mono ?_
                rintro e w8 ⟨⟨C, dc, rfl, RC⟩, hbb⟩
                replace RA := RdM.below RA hbb
                replace RB := RdM.below RB hbb
                replace RX := RdN.below RX hbb
                replace RU := RdM.below RU hbb
                replace RV := RdM.below RV hbb
                replace RY := RdN.below RY hbb
                replace hB := nxt hB hbb
                clear hbb
                have HP := Lib.hid (And.intro RA (And.intro RB (And.intro RX (And.intro RU (And.intro RV (And.intro RY (And.intro RC hB)))))))
                clear RA RB RX RU RV RY RC hB
                go_wp2_with fail
                obtain ⟨RA, RB, RX, RU, RV, RY, RC, hB⟩ := HP.out
                clear HP
                refine (mapply_no U Y n nx du cy ms w8 (by omega) (fun h => E1.out h.2) RU.len).mono ?_
                rintro e w9 ⟨rfl, hbb⟩
                replace RA := RdM.below RA hbb
                replace RB := RdM.below RB hbb
                replace RX := RdN.below RX hbb
                replace RU := RdM.below RU hbb
                replace RV := RdM.below RV hbb
                replace RY := RdN.below RY hbb
                replace RC := RdM.below RC hbb
                replace hB := nxt hB hbb
                clear hbb
                have HP := Lib.hid (And.intro RA (And.intro RB (And.intro RX (And.intro RU (And.intro RV (And.intro RY (And.intro RC hB)))))))
                clear RA RB RX RU RV RY RC hB
                go_wp2_with fail
                obtain ⟨RA, RB, RX, RU, RV, RY, RC, hB⟩ := HP.out
                clear HP
                refine (msame_any U TA n du c ms ba sa ea w9 (by omega) (fun i hi => by have := (HGA.out.2.2 i hi).1; omega) RU RA).mono ?_
                rintro e w10 ⟨rfl, hbb⟩
                replace RA := RdM.below RA hbb
                replace RB := RdM.below RB hbb
                replace RX := RdN.below RX hbb
                replace RU := RdM.below RU hbb
                replace RV := RdM.below RV hbb
                replace RY := RdN.below RY hbb
                replace RC := RdM.below RC hbb
                replace hB := nxt hB hbb
                clear hbb
                have HP := Lib.hid (And.intro RA (And.intro RB (And.intro RX (And.intro RU (And.intro RV (And.intro RY (And.intro RC hB)))))))
                clear RA RB RX RU RV RY RC hB
                go_wp2_with fail
                obtain ⟨RA, RB, RX, RU, RV, RY, RC, hB⟩ := HP.out
                clear HP
                refine (msame_any V UB n dv d ns bb sb eb w10 (by omega) (fun i hi => by have := (HGB.out.2.2 i hi).1; omega) RV RB).mono ?_
                rintro e w11 ⟨rfl, hbb⟩
                replace RA := RdM.below RA hbb
                replace RB := RdM.below RB hbb
                replace RX := RdN.below RX hbb
                replace RU := RdM.below RU hbb
                replace RV := RdM.below RV hbb
                replace RY := RdN.below RY hbb
                replace RC := RdM.below RC hbb
                replace hB := nxt hB hbb
                clear hbb
                have HP := Lib.hid (And.intro RA (And.intro RB (And.intro RX (And.intro RU (And.intro RV (And.intro RY (And.intro RC hB)))))))
                clear RA RB RX RU RV RY RC hB
                go_wp2_with fail
                obtain ⟨RA, RB, RX, RU, RV, RY, RC, hB⟩ := HP.out
                clear HP
                refine (mrow_any Y VX nx cy cx bx sx ex w11 (by omega) RY RX).mono ?_
                rintro e w12 ⟨rfl, hbb⟩
                replace RA := RdM.below RA hbb
                replace RB := RdM.below RB hbb
                replace RX := RdN.below RX hbb
                replace RU := RdM.below RU hbb
                replace RV := RdM.below RV hbb
                replace RY := RdN.below RY hbb
                replace RC := RdM.below RC hbb
                replace hB := nxt hB hbb
                clear hbb
                clear RU RV RY
                have HP := Lib.hid (And.intro RA (And.intro RB (And.intro RX (And.intro RC hB))))
                clear RA RB RX RC hB
                go_wp2_with fail
                obtain ⟨RA, RB, RX, RC, hB⟩ := HP.out
                clear HP
                refine (rcheck_any TA n c ms w12 (by omega) RA.len).mono ?_
                rintro e w13 ⟨h1, _, rfl⟩
                obtain rfl := h1 S1.out
                clear h1
                have HP := Lib.hid (And.intro RA (And.intro RB (And.intro RX (And.intro RC hB))))
                clear RA RB RX RC hB
                go_wp2_with fail
                obtain ⟨RA, RB, RX, RC, hB⟩ := HP.out
                clear HP
                refine (rcheck_any TA n c ms w13 (by omega) RA.len).mono ?_
                rintro e w14 ⟨h1, _, rfl⟩
                obtain rfl := h1 S1.out
                clear h1
                have HP := Lib.hid (And.intro RA (And.intro RB (And.intro RX (And.intro RC hB))))
                clear RA RB RX RC hB
                go_wp2_with fail
                obtain ⟨RA, RB, RX, RC, hB⟩ := HP.out
                clear HP
                refine (rcheck_any UB n d ns w14 (by omega) RB.len).mono ?_
                rintro e w15 ⟨h1, _, rfl⟩
                obtain rfl := h1 S2.out
                clear h1
                have HP := Lib.hid (And.intro RA (And.intro RB (And.intro RX (And.intro RC hB))))
                clear RA RB RX RC hB
                go_wp2_with fail
                obtain ⟨RA, RB, RX, RC, hB⟩ := HP.out
                clear HP
                refine (rmul_any TA UB n c d ba bb sa sb ea eb (xsM ba sa ea) (xsM bb sb eb) 60 124 w15 (by omega) (fun i j => nd_ok (HOA.out i j)) (fun i j => nd_ok (HOB.out i j)) (fun i j i' j' => by have h1 := (HOA.out i j).2.1; have h2 := (HOB.out i' j').2.1; omega) (fun i j => db_ok (HOA.out i j)) (fun i j => db_ok (HOB.out i j)) (by decide) (RA.sq S1.out) (RB.sq S2.out)).mono ?_
                rintro e w16 ⟨⟨C2, dc2, rfl, RC2⟩, hbb⟩
                replace RA := RdM.below RA hbb
                replace RB := RdM.below RB hbb
                replace RX := RdN.below RX hbb
                replace RC := RdM.below RC hbb
                replace hB := nxt hB hbb
                clear hbb
                have HP := Lib.hid (And.intro RA (And.intro RB (And.intro RX (And.intro RC (And.intro RC2 hB)))))
                clear RA RB RX RC RC2 hB
                go_wp2_with fail
                obtain ⟨RA, RB, RX, RC, RC2, hB⟩ := HP.out
                clear HP
                refine (msame_any C C2 n dc dc2 (fun _ => n) _ _ _ w16 (by omega) (fun _ _ => by omega) RC RC2).mono ?_
                rintro e w17 ⟨rfl, hbb⟩
                replace RA := RdM.below RA hbb
                replace RB := RdM.below RB hbb
                replace RX := RdN.below RX hbb
                replace RC := RdM.below RC hbb
                replace RC2 := RdM.below RC2 hbb
                replace hB := nxt hB hbb
                clear hbb
                clear RC RC2
                have HP := Lib.hid (And.intro RA (And.intro RB (And.intro RX hB)))
                clear RA RB RX hB
                go_wp2_with fail
                obtain ⟨RA, RB, RX, hB⟩ := HP.out
                clear HP
                refine (awakeM _ (tab_keep HT.out hB)).mono ?_
                rintro e w18 ⟨rfl, hbb⟩
                replace RA := RdM.below RA hbb
                replace RB := RdM.below RB hbb
                replace RX := RdN.below RX hbb
                replace hB := nxt hB hbb
                clear hbb
                have HP := Lib.hid (And.intro RA (And.intro RB (And.intro RX hB)))
                clear RA RB RX hB
                go_wp2
                go_ret
                obtain ⟨RA, RB, RX, hB⟩ := HP.out
                clear HP
                exact ⟨rfl, hB⟩
              · have E2 := Lib.hid h0
                have hq : ((n : Int) != (m : Int)) = true := by simp; omega
                have hqq : ¬ (n : Int) = (m : Int) := by omega
                clear h0
                refine (mmul_no U V n m du dv ms ns w7 (by omega) (by omega) (fun h => E2.out h.2.2) RU.len RV.len).mono ?_
                rintro e w8 ⟨rfl, hbb⟩
                replace RA := RdM.below RA hbb
                replace RB := RdM.below RB hbb
                replace RX := RdN.below RX hbb
                replace RU := RdM.below RU hbb
                replace RV := RdM.below RV hbb
                replace RY := RdN.below RY hbb
                replace hB := nxt hB hbb
                clear hbb
                have HP := Lib.hid (And.intro RA (And.intro RB (And.intro RX (And.intro RU (And.intro RV (And.intro RY hB))))))
                clear RA RB RX RU RV RY hB
                go_wp2_with fail
                obtain ⟨RA, RB, RX, RU, RV, RY, hB⟩ := HP.out
                clear HP
                refine (mapply_no U Y n nx du cy ms w8 (by omega) (fun h => E1.out h.2) RU.len).mono ?_
                rintro e w9 ⟨rfl, hbb⟩
                replace RA := RdM.below RA hbb
                replace RB := RdM.below RB hbb
                replace RX := RdN.below RX hbb
                replace RU := RdM.below RU hbb
                replace RV := RdM.below RV hbb
                replace RY := RdN.below RY hbb
                replace hB := nxt hB hbb
                clear hbb
                have HP := Lib.hid (And.intro RA (And.intro RB (And.intro RX (And.intro RU (And.intro RV (And.intro RY hB))))))
                clear RA RB RX RU RV RY hB
                go_wp2_with fail
                obtain ⟨RA, RB, RX, RU, RV, RY, hB⟩ := HP.out
                clear HP
                refine (msame_any U TA n du c ms ba sa ea w9 (by omega) (fun i hi => by have := (HGA.out.2.2 i hi).1; omega) RU RA).mono ?_
                rintro e w10 ⟨rfl, hbb⟩
                replace RA := RdM.below RA hbb
                replace RB := RdM.below RB hbb
                replace RX := RdN.below RX hbb
                replace RU := RdM.below RU hbb
                replace RV := RdM.below RV hbb
                replace RY := RdN.below RY hbb
                replace hB := nxt hB hbb
                clear hbb
                have HP := Lib.hid (And.intro RA (And.intro RB (And.intro RX (And.intro RU (And.intro RV (And.intro RY hB))))))
                clear RA RB RX RU RV RY hB
                go_wp2_with fail
                obtain ⟨RA, RB, RX, RU, RV, RY, hB⟩ := HP.out
                clear HP
                refine (msame_any V UB m dv d ns bb sb eb w10 (by omega) (fun i hi => by have := (HGB.out.2.2 i hi).1; omega) RV RB).mono ?_
                rintro e w11 ⟨rfl, hbb⟩
                replace RA := RdM.below RA hbb
                replace RB := RdM.below RB hbb
                replace RX := RdN.below RX hbb
                replace RU := RdM.below RU hbb
                replace RV := RdM.below RV hbb
                replace RY := RdN.below RY hbb
                replace hB := nxt hB hbb
                clear hbb
                have HP := Lib.hid (And.intro RA (And.intro RB (And.intro RX (And.intro RU (And.intro RV (And.intro RY hB))))))
                clear RA RB RX RU RV RY hB
                go_wp2_with fail
                obtain ⟨RA, RB, RX, RU, RV, RY, hB⟩ := HP.out
                clear HP
                refine (mrow_any Y VX nx cy cx bx sx ex w11 (by omega) RY RX).mono ?_
                rintro e w12 ⟨rfl, hbb⟩
                replace RA := RdM.below RA hbb
                replace RB := RdM.below RB hbb
                replace RX := RdN.below RX hbb
                replace RU := RdM.below RU hbb
                replace RV := RdM.below RV hbb
                replace RY := RdN.below RY hbb
                replace hB := nxt hB hbb
                clear hbb
                clear RU RV RY
                have HP := Lib.hid (And.intro RA (And.intro RB (And.intro RX hB)))
                clear RA RB RX hB
                go_wp2_with fail
                obtain ⟨RA, RB, RX, hB⟩ := HP.out
                clear HP
                refine (rcheck_any TA n c ms w12 (by omega) RA.len).mono ?_
                rintro e w13 ⟨h1, _, rfl⟩
                obtain rfl := h1 S1.out
                clear h1
                have HP := Lib.hid (And.intro RA (And.intro RB (And.intro RX hB)))
                clear RA RB RX hB
                go_wp2_with fail
                obtain ⟨RA, RB, RX, hB⟩ := HP.out
                clear HP
                refine (rcheck_any TA n c ms w13 (by omega) RA.len).mono ?_
                rintro e w14 ⟨h1, _, rfl⟩
                obtain rfl := h1 S1.out
                clear h1
                have HP := Lib.hid (And.intro RA (And.intro RB (And.intro RX hB)))
                clear RA RB RX hB
                go_wp2_with fail
                obtain ⟨RA, RB, RX, hB⟩ := HP.out
                clear HP
                refine (rcheck_any UB m d ns w14 (by omega) RB.len).mono ?_
                rintro e w15 ⟨h1, _, rfl⟩
                obtain rfl := h1 S2.out
                clear h1
                have HP := Lib.hid (And.intro RA (And.intro RB (And.intro RX hB)))
                clear RA RB RX hB
                go_wp2_with fail
                obtain ⟨RA, RB, RX, hB⟩ := HP.out
                clear HP
                refine (awakeM _ (tab_keep HT.out hB)).mono ?_
                rintro e w16 ⟨rfl, hbb⟩
                replace RA := RdM.below RA hbb
                replace RB := RdM.below RB hbb
                replace RX := RdN.below RX hbb
                replace hB := nxt hB hbb
                clear hbb
                have HP := Lib.hid (And.intro RA (And.intro RB (And.intro RX hB)))
                clear RA RB RX hB
                go_wp2
                go_ret
                obtain ⟨RA, RB, RX, hB⟩ := HP.out
                clear HP
                exact ⟨rfl, hB⟩
            · have S2 := Lib.hid h0
              clear h0
              refine (mmul_no U V n m du dv ms ns w7 (by omega) (by omega) (fun h => S2.out h.2.1) RU.len RV.len).mono ?_
              rintro e w8 ⟨rfl, hbb⟩
              replace RA := RdM.below RA hbb
              replace RB := RdM.below RB hbb
              replace RX := RdN.below RX hbb
              replace RU := RdM.below RU hbb
              replace RV := RdM.below RV hbb
              replace RY := RdN.below RY hbb
              replace hB := nxt hB hbb
              clear hbb
              have HP := Lib.hid (And.intro RA (And.intro RB (And.intro RX (And.intro RU (And.intro RV (And.intro RY hB))))))
              clear RA RB RX RU RV RY hB
              go_wp2_with fail
              obtain ⟨RA, RB, RX, RU, RV, RY, hB⟩ := HP.out
              clear HP
              refine (mapply_no U Y n nx du cy ms w8 (by omega) (fun h => E1.out h.2) RU.len).mono ?_
              rintro e w9 ⟨rfl, hbb⟩
              replace RA := RdM.below RA hbb
              replace RB := RdM.below RB hbb
              replace RX := RdN.below RX hbb
              replace RU := RdM.below RU hbb
              replace RV := RdM.below RV hbb
              replace RY := RdN.below RY hbb
              replace hB := nxt hB hbb
              clear hbb
              have HP := Lib.hid (And.intro RA (And.intro RB (And.intro RX (And.intro RU (And.intro RV (And.intro RY hB))))))
              clear RA RB RX RU RV RY hB
              go_wp2_with fail
              obtain ⟨RA, RB, RX, RU, RV, RY, hB⟩ := HP.out
              clear HP
              refine (msame_any U TA n du c ms ba sa ea w9 (by omega) (fun i hi => by have := (HGA.out.2.2 i hi).1; omega) RU RA).mono ?_
              rintro e w10 ⟨rfl, hbb⟩
              replace RA := RdM.below RA hbb
              replace RB := RdM.below RB hbb
              replace RX := RdN.below RX hbb
              replace RU := RdM.below RU hbb
              replace RV := RdM.below RV hbb
              replace RY := RdN.below RY hbb
              replace hB := nxt hB hbb
              clear hbb
              have HP := Lib.hid (And.intro RA (And.intro RB (And.intro RX (And.intro RU (And.intro RV (And.intro RY hB))))))
              clear RA RB RX RU RV RY hB
              go_wp2_with fail
              obtain ⟨RA, RB, RX, RU, RV, RY, hB⟩ := HP.out
              clear HP
              refine (msame_any V UB m dv d ns bb sb eb w10 (by omega) (fun i hi => by have := (HGB.out.2.2 i hi).1; omega) RV RB).mono ?_
              rintro e w11 ⟨rfl, hbb⟩
              replace RA := RdM.below RA hbb
              replace RB := RdM.below RB hbb
              replace RX := RdN.below RX hbb
              replace RU := RdM.below RU hbb
              replace RV := RdM.below RV hbb
              replace RY := RdN.below RY hbb
              replace hB := nxt hB hbb
              clear hbb
              have HP := Lib.hid (And.intro RA (And.intro RB (And.intro RX (And.intro RU (And.intro RV (And.intro RY hB))))))
              clear RA RB RX RU RV RY hB
              go_wp2_with fail
              obtain ⟨RA, RB, RX, RU, RV, RY, hB⟩ := HP.out
              clear HP
              refine (mrow_any Y VX nx cy cx bx sx ex w11 (by omega) RY RX).mono ?_
              rintro e w12 ⟨rfl, hbb⟩
              replace RA := RdM.below RA hbb
              replace RB := RdM.below RB hbb
              replace RX := RdN.below RX hbb
              replace RU := RdM.below RU hbb
              replace RV := RdM.below RV hbb
              replace RY := RdN.below RY hbb
              replace hB := nxt hB hbb
              clear hbb
              clear RU RV RY
              have HP := Lib.hid (And.intro RA (And.intro RB (And.intro RX hB)))
              clear RA RB RX hB
              go_wp2_with fail
              obtain ⟨RA, RB, RX, hB⟩ := HP.out
              clear HP
              refine (rcheck_any TA n c ms w12 (by omega) RA.len).mono ?_
              rintro e w13 ⟨h1, _, rfl⟩
              obtain rfl := h1 S1.out
              clear h1
              have HP := Lib.hid (And.intro RA (And.intro RB (And.intro RX hB)))
              clear RA RB RX hB
              go_wp2_with fail
              obtain ⟨RA, RB, RX, hB⟩ := HP.out
              clear HP
              refine (rcheck_any TA n c ms w13 (by omega) RA.len).mono ?_
              rintro e w14 ⟨h1, _, rfl⟩
              obtain rfl := h1 S1.out
              clear h1
              have HP := Lib.hid (And.intro RA (And.intro RB (And.intro RX hB)))
              clear RA RB RX hB
              go_wp2_with fail
              obtain ⟨RA, RB, RX, hB⟩ := HP.out
              clear HP
              refine (rcheck_any UB m d ns w14 (by omega) RB.len).mono ?_
              rintro e w15 ⟨_, h1, rfl⟩
              obtain rfl := h1 S2.out
              clear h1
              have HP := Lib.hid (And.intro RA (And.intro RB (And.intro RX hB)))
              clear RA RB RX hB
              go_wp2_with fail
              obtain ⟨RA, RB, RX, hB⟩ := HP.out
              clear HP
              refine (awakeM _ (tab_keep HT.out hB)).mono ?_
              rintro e w16 ⟨rfl, hbb⟩
              replace RA := RdM.below RA hbb
              replace RB := RdM.below RB hbb
              replace RX := RdN.below RX hbb
              replace hB := nxt hB hbb
              clear hbb
              have HP := Lib.hid (And.intro RA (And.intro RB (And.intro RX hB)))
              clear RA RB RX hB
              go_wp2
              go_ret
              obtain ⟨RA, RB, RX, hB⟩ := HP.out
              clear HP
              exact ⟨rfl, hB⟩
        · have S1 := Lib.hid h0
          clear h0
          refine (mmul_no U V n m du dv ms ns w7 (by omega) (by omega) (fun h => S1.out h.1) RU.len RV.len).mono ?_
          rintro e w8 ⟨rfl, hbb⟩
          replace RA := RdM.below RA hbb
          replace RB := RdM.below RB hbb
          replace RX := RdN.below RX hbb
          replace RU := RdM.below RU hbb
          replace RV := RdM.below RV hbb
          replace RY := RdN.below RY hbb
          replace hB := nxt hB hbb
          clear hbb
          have HP := Lib.hid (And.intro RA (And.intro RB (And.intro RX (And.intro RU (And.intro RV (And.intro RY hB))))))
          clear RA RB RX RU RV RY hB
          go_wp2_with fail
          obtain ⟨RA, RB, RX, RU, RV, RY, hB⟩ := HP.out
          clear HP
          refine (mapply_no U Y n nx du cy ms w8 (by omega) (fun h => S1.out h.1) RU.len).mono ?_
          rintro e w9 ⟨rfl, hbb⟩
          replace RA := RdM.below RA hbb
          replace RB := RdM.below RB hbb
          replace RX := RdN.below RX hbb
          replace RU := RdM.below RU hbb
          replace RV := RdM.below RV hbb
          replace RY := RdN.below RY hbb
          replace hB := nxt hB hbb
          clear hbb
          have HP := Lib.hid (And.intro RA (And.intro RB (And.intro RX (And.intro RU (And.intro RV (And.intro RY hB))))))
          clear RA RB RX RU RV RY hB
          go_wp2_with fail
          obtain ⟨RA, RB, RX, RU, RV, RY, hB⟩ := HP.out
          clear HP
          refine (msame_any U TA n du c ms ba sa ea w9 (by omega) (fun i hi => by have := (HGA.out.2.2 i hi).1; omega) RU RA).mono ?_
          rintro e w10 ⟨rfl, hbb⟩
          replace RA := RdM.below RA hbb
          replace RB := RdM.below RB hbb
          replace RX := RdN.below RX hbb
          replace RU := RdM.below RU hbb
          replace RV := RdM.below RV hbb
          replace RY := RdN.below RY hbb
          replace hB := nxt hB hbb
          clear hbb
          have HP := Lib.hid (And.intro RA (And.intro RB (And.intro RX (And.intro RU (And.intro RV (And.intro RY hB))))))
          clear RA RB RX RU RV RY hB
          go_wp2_with fail
          obtain ⟨RA, RB, RX, RU, RV, RY, hB⟩ := HP.out
          clear HP
          refine (msame_any V UB m dv d ns bb sb eb w10 (by omega) (fun i hi => by have := (HGB.out.2.2 i hi).1; omega) RV RB).mono ?_
          rintro e w11 ⟨rfl, hbb⟩
          replace RA := RdM.below RA hbb
          replace RB := RdM.below RB hbb
          replace RX := RdN.below RX hbb
          replace RU := RdM.below RU hbb
          replace RV := RdM.below RV hbb
          replace RY := RdN.below RY hbb
          replace hB := nxt hB hbb
          clear hbb
          have HP := Lib.hid (And.intro RA (And.intro RB (And.intro RX (And.intro RU (And.intro RV (And.intro RY hB))))))
          clear RA RB RX RU RV RY hB
          go_wp2_with fail
          obtain ⟨RA, RB, RX, RU, RV, RY, hB⟩ := HP.out
          clear HP
          refine (mrow_any Y VX nx cy cx bx sx ex w11 (by omega) RY RX).mono ?_
          rintro e w12 ⟨rfl, hbb⟩
          replace RA := RdM.below RA hbb
          replace RB := RdM.below RB hbb
          replace RX := RdN.below RX hbb
          replace RU := RdM.below RU hbb
          replace RV := RdM.below RV hbb
          replace RY := RdN.below RY hbb
          replace hB := nxt hB hbb
          clear hbb
          clear RU RV RY
          have HP := Lib.hid (And.intro RA (And.intro RB (And.intro RX hB)))
          clear RA RB RX hB
          go_wp2_with fail
          obtain ⟨RA, RB, RX, hB⟩ := HP.out
          clear HP
          refine (rcheck_any TA n c ms w12 (by omega) RA.len).mono ?_
          rintro e w13 ⟨_, h1, rfl⟩
          obtain rfl := h1 S1.out
          clear h1
          have HP := Lib.hid (And.intro RA (And.intro RB (And.intro RX hB)))
          clear RA RB RX hB
          go_wp2_with fail
          obtain ⟨RA, RB, RX, hB⟩ := HP.out
          clear HP
          refine (rcheck_any TA n c ms w13 (by omega) RA.len).mono ?_
          rintro e w14 ⟨_, h1, rfl⟩
          obtain rfl := h1 S1.out
          clear h1
          have HP := Lib.hid (And.intro RA (And.intro RB (And.intro RX hB)))
          clear RA RB RX hB
          go_wp2_with fail
          obtain ⟨RA, RB, RX, hB⟩ := HP.out
          clear HP
          refine (awakeM _ (tab_keep HT.out hB)).mono ?_
          rintro e w15 ⟨rfl, hbb⟩
          replace RA := RdM.below RA hbb
          replace RB := RdM.below RB hbb
          replace RX := RdN.below RX hbb
          replace hB := nxt hB hbb
          clear hbb
          have HP := Lib.hid (And.intro RA (And.intro RB (And.intro RX hB)))
          clear RA RB RX hB
          go_wp2
          go_ret
          obtain ⟨RA, RB, RX, hB⟩ := HP.out
          clear HP
          exact ⟨rfl, hB⟩
      · obtain rfl := hg2 hg
        clear hg1 hg2 hg
        have HP := Lib.hid (And.intro RA (And.intro RB (And.intro RX hB)))
        clear RA RB RX hB
        go_wp2_with fail
        obtain ⟨RA, RB, RX, hB⟩ := HP.out
        clear HP
        refine (awakeM _ (tab_keep HT.out hB)).mono ?_
        rintro e w5 ⟨rfl, hbb⟩
        replace RA := RdM.below RA hbb
        replace RB := RdM.below RB hbb
        replace RX := RdN.below RX hbb
        replace hB := nxt hB hbb
        clear hbb
        have HP := Lib.hid (And.intro RA (And.intro RB (And.intro RX hB)))
        clear RA RB RX hB
        go_wp2
        go_ret
        obtain ⟨RA, RB, RX, hB⟩ := HP.out
        clear HP
        exact ⟨rfl, hB⟩
    · obtain rfl := hg2 hg
      clear hg1 hg2 hg
      have HP := Lib.hid (And.intro RA (And.intro RB (And.intro RX hB)))
      clear RA RB RX hB
      go_wp2_with fail
      obtain ⟨RA, RB, RX, hB⟩ := HP.out
      clear HP
      refine (awakeM _ (tab_keep HT.out hB)).mono ?_
      rintro e w3 ⟨rfl, hbb⟩
      replace RA := RdM.below RA hbb
      replace RB := RdM.below RB hbb
      replace RX := RdN.below RX hbb
      replace hB := nxt hB hbb
      clear hbb
      have HP := Lib.hid (And.intro RA (And.intro RB (And.intro RX hB)))
      clear RA RB RX hB
      go_wp2
      go_ret
      obtain ⟨RA, RB, RX, hB⟩ := HP.out
      clear HP
      exact ⟨rfl, hB⟩
  · obtain rfl := hg2 hg
    clear hg1 hg2 hg
    have HP := Lib.hid (And.intro RA (And.intro RB (And.intro RX hB)))
    clear RA RB RX hB
    go_wp2_with fail
    obtain ⟨RA, RB, RX, hB⟩ := HP.out
    clear HP
    refine (awakeM _ (tab_keep HT.out hB)).mono ?_
    rintro e w2 ⟨rfl, hbb⟩
    replace RA := RdM.below RA hbb
    replace RB := RdM.below RB hbb
    replace RX := RdN.below RX hbb
    replace hB := nxt hB hbb
    clear hbb
    have HP := Lib.hid (And.intro RA (And.intro RB (And.intro RX hB)))
    clear RA RB RX hB
    go_wp2
    go_ret
    obtain ⟨RA, RB, RX, hB⟩ := HP.out
    clear HP
    exact ⟨rfl, hB⟩
theorem matMuls_any (A B X : Option Addr) (n c m d nx cx : Nat) (ms ns : Nat → Nat) (ba bb : Nat → Nat → Bool) (sa sb : Nat → Nat → ByteArray) (ea eb : Nat → Nat → Int) (bx : Nat → Bool) (sx : Nat → ByteArray) (ex : Nat → Int) (w : World) (hn : n ≤ c) (hc : c ≤ maxLen) (hm : m ≤ d) (hd : d ≤ maxLen) (hms : ∀ i, i < n → ms i ≤ maxLen) (hns : ∀ i, i < m → ns i ≤ maxLen) (hnx : nx ≤ cx) (hcx : cx ≤ maxLen) (hX : X = none → nx = 0 ∧ cx = 0)
    (hA : RdM w A n ms ba sa ea) (hBB : RdM w B m ns bb sb eb) (hXr : RdN w X nx bx sx ex) (hT : TabAt 0 Lib.deBruijn64tab w) :
    Calls Tryz.prog 5 #[.slice A n c, .slice B m d, .slice X nx cx] w fun r w' => r = .returned (.bool true) ∧ Below w.heap.size w w' := by
  obtain ⟨_, _, _, h1, h2⟩ := hA.clean
  obtain ⟨_, _, _, h3, h4⟩ := hBB.clean
  obtain ⟨_, _, _, h5, h6⟩ := hXr.clean
  unfold maxLen at hc hd hms hns hcx
  exact matMuls_x A B X n c m d nx cx ms ns _ _ _ _ _ _ _ _ _ w (by omega) (by omega) (fun i hi => Nat.le_trans (hms i hi) (by decide)) (fun i hi => Nat.le_trans (hns i hi) (by decide)) hnx (by omega) hX h1 h3 h5 h2 h4 h6 hT
end Go.Proofs.YtibbhpgpleeglaaGreatDoor

