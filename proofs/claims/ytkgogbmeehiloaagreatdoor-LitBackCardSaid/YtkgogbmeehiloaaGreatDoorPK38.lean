/- The walks and plain laws beneath the statements. -/
import Derived.Test.YtkgogbmeehiloaaGreatDoorPK36
import Derived.Test.YtkgogbmeehiloaaGreatDoorPK37
namespace Go.Proofs.YtkgogbmeehiloaaGreatDoor
open Go Go.RowKit Go.Lib

theorem ntext_sz {x : Dyadic} (h : bsz (dm x) ≤ 60) (h2 : -100000 ≤ de x ∧ de x ≤ 100000) : (ntext x).size ≤ 60000 := by
  have c := ntext_size (b := neg (dm x)) (s := mag (dm x)) (e := de x) (by rw [mag_size]; omega) h2
  rw [ival_mk, dy_dm] at c
  omega
theorem formL (b : Bool) (s : ByteArray) (e : Int) (W : World) (h : okF s e) (hT : Tab0 W) : Calls Tryz.prog 22 #[.agg #[.bool b, .string s, .int .i64 e]] W fun r w' => r = .returned (.agg #[.bool (neg (dm (dy (ival b (sval s)) e))), .string (mag (dm (dy (ival b (sval s)) e))), .int .i64 (de (dy (ival b (sval s)) e))]) ∧ Below W.heap.size W w' := dForm_any s b e W (by have := h.1; omega) (by have := h.2; omega) (by have := h.2; omega) hT

set_option maxRecDepth 100000 in
set_option maxHeartbeats 4000000 in
theorem litBack_any (A : Option Addr) (n c : Nat) (bs : Nat → Bool) (ss : Nat → ByteArray) (es : Nat → Int) (s : ByteArray) (mx : Int) (w : World) (hn : n ≤ maxLen) (hr : RdN w A n bs ss es) (hT : Tab0 w) (h10 : Tab10 w) (hx : w.cell? ⟨1, 0, none⟩ = some (.int .i64 mx)) :
    Calls Tryz.prog 6 #[.slice A n c, .string s] w fun e w' => e = .returned (.bool true) ∧ Below w.heap.size w w' := by
  have HA := Lib.hid (fun W hb => awakeL mx W (tab_keep hT hb) (h10.later hb) (cell_later hb hx))
  have HT := Lib.hid hT
  have H10 := Lib.hid h10
  have HR := Lib.hid hr
  have HX := Lib.hid hx
  clear hT h10 hr hx
  have hB0 := Below.refl w.heap.size w
  go_enter Tryz.func6, Tryz.ntmps6
  by_cases h20 : n ≤ 20
  · have hg : ¬ (20 : Int) < (n : Int) := by omega
    by_cases h60 : s.size ≤ 60
    · have hg2 : ¬ (60 : Int) < (s.size : Int) := by omega
      go_wp2_with fail
      have hon := OwnK.nil_ w w.heap.size 38 3 (cel3 (fun j => neg (dm (xsOf bs ss es j))) (fun j => mag (dm (xsOf bs ss es j))) (fun j => de (xsOf bs ss es j)))
      go_loopw [5, 6] (fun v i wr => ∃ k : Nat, k ≤ n ∧ i = .int .i64 (k : Nat) ∧ OwnK wr w.heap.size 38 3 v k (cel3 (fun j => neg (dm (xsOf bs ss es j))) (fun j => mag (dm (xsOf bs ss es j))) (fun j => de (xsOf bs ss es j))) ∧ (∀ j, j < k → okF (ss j) (es j)) ∧ Below w.heap.size w wr) (fun _ i _ => n - (RowKit.intOf i).toNat)
      case atStart => exact ⟨0, Nat.zero_le _, rfl, hon, fun j hj => absurd hj (by omega), Below.refl _ _⟩
      case round =>
        obtain ⟨k, hk, rfl, hown, hok, hB⟩ := hrel
        by_cases hlt : k < n
        · obtain ⟨b, off, rfl, hc⟩ := HR.out (by omega)
          have g1 := cell_later hB (hc k hlt).1
          have g2 := cell_later hB (hc k hlt).2.1
          have g3 := cell_later hB (hc k hlt).2.2
          have hlti : (k : Int) < (n : Int) := by omega
          have G := Lib.hid (hc k hlt)
          clear hc
          by_cases hf : okF (ss k) (es k)
          · have hok2 : ∀ j, j < k + 1 → okF (ss j) (es j) := fun j hj => by
              by_cases e : j = k
              · subst e; exact hf
              · exact hok j (by omega)
            have HOK := Lib.hid hok2
            obtain ⟨X, hX⟩ : ∃ X, xsOf bs ss es k = X := ⟨_, rfl⟩
            have hX' : dy (ival (bs k) (sval (ss k))) (es k) = X := hX
            have c1 := Lib.hid (fun W => farN (bs k) (ss k) (es k) W hf)
            have c2 := fun W h => formL (bs k) (ss k) (es k) W hf h
            have c3 := fun W h h10 => lPrint_any (bs k) (ss k) (es k) W (by have := hf.1; omega) (by have := hf.2; omega) h h10
            have c4 := Lib.hid (fun W h => isL (ntext X) X W (by rw [← hX']; exact Nat.le_trans (ntext_size (by have := hf.1; omega) (by have := hf.2; omega)) (by decide)) (by rw [← hX']; exact own_ok hf) h)
            simp only [hX'] at c2 c3
            replace c2 := Lib.hid c2
            replace c3 := Lib.hid c3
            have HXX := Lib.hid hX
            clear hf hok hok2 hX hX'
            generalize bs k = bb at *
            generalize ss k = sb at *
            generalize es k = eb at *
            generalize ntext X = tx at *
            go_wp2_with fail
            refine (c1.out _).mono ?_
            rintro e w4 ⟨rfl, hb⟩
            replace hB := nxt hB hb
            replace hown := hown.below hb
            replace g1 := cell_later hb g1
            replace g2 := cell_later hb g2
            replace g3 := cell_later hb g3
            clear hb c1
            go_wp2_with fail
            refine (c2.out _ (tab_keep HT.out hB)).mono ?_
            rintro e w5 ⟨rfl, hb⟩
            replace hB := nxt hB hb
            replace hown := hown.below hb
            replace g1 := cell_later hb g1
            replace g2 := cell_later hb g2
            replace g3 := cell_later hb g3
            clear hb c2
            have hO := hown.below (b1 w5 (.cells #[.bool (neg (dm X)), .string (mag (dm X)), .int .i64 (de X)] 38))
            have ZR := Bx.new w5 38 #[.bool (neg (dm X)), .string (mag (dm X)), .int .i64 (de X)]
            have hB3 := nxtA hB (.cells #[.bool (neg (dm X)), .string (mag (dm X)), .int .i64 (de X)] 38)
            have HO := Lib.hid (And.intro hO hB3)
            have HN := Lib.hid (show ∀ j, j < 1 → ∀ i, i < 3 → (w5.alloc (.cells #[.bool (neg (dm X)), .string (mag (dm X)), .int .i64 (de X)] 38)).cell? ⟨w5.heap.size, 0 + j * 3 + i, none⟩ = ((cel3 (fun j => neg (dm (xsOf bs ss es (k + j)))) (fun j => mag (dm (xsOf bs ss es (k + j)))) (fun j => de (xsOf bs ss es (k + j)))) j)[i]? from fun j hj i hi => by
              have hj' : j = 0 := by omega
              have hi' : i = 0 ∨ i = 1 ∨ i = 2 := by omega
              subst hj'
              rcases hi' with rfl | rfl | rfl <;> simp [ZR.cel, cel3, HXX.out])
            have HS2 := Lib.hid (show w.heap.size ≤ (w5.alloc (.cells #[.bool (neg (dm X)), .string (mag (dm X)), .int .i64 (de X)] 38)).heap.size by have := hB.size; simp; omega)
            have HM2 := Lib.hid (show k + 1 ≤ 9223372036854775807 ∧ (k + 1) * 32 ≤ 140737488355328 by omega)
            have HG := Lib.hid (And.intro g1 (And.intro g2 g3))
            have hB5 := Lib.hid hB
            clear hO ZR hB3 hB hown
            go_wp2_with (at_builtin; refine wpList_appendK rfl (.tmp 34) (.tmp 40) _ rfl w.heap.size 38 _ 3 32 Tryz.underlying35 info_Num rfl (by decide) _ k (cel3 (fun j => neg (dm (xsOf bs ss es j))) (fun j => mag (dm (xsOf bs ss es j))) (fun j => de (xsOf bs ss es j))) rfl HO.out.1 ⟨w5.heap.size, 0, none⟩ 1 1 (cel3 (fun j => neg (dm (xsOf bs ss es (k + j)))) (fun j => mag (dm (xsOf bs ss es (k + j)))) (fun j => de (xsOf bs ss es (k + j)))) (fun _ => rfl) (fun _ => rfl) (cel3_one _ _ _) rfl rfl HN.out HM2.out.1 HM2.out.2 HS2.out ?_; intro v' w6 ho' hb6)
            have ho2 := ho'.congr (f' := (cel3 (fun j => neg (dm (xsOf bs ss es j))) (fun j => mag (dm (xsOf bs ss es j))) (fun j => de (xsOf bs ss es j)))) (fun j hj => by
              split
              · rfl
              · rename_i h
                unfold cel3
                dsimp only
                rw [show k + (j - k) = j by omega])
            have hB4 := belB HO.out.2 hb6 (Nat.le_refl _)
            obtain ⟨N, hN⟩ : ∃ N, N = k + 1 := ⟨_, rfl⟩
            rw [← hN] at ho2
            have HNN := Lib.hid hN
            obtain ⟨A', c', rfl, hnc, hrd, hba, hno⟩ := OwnK.rd (k := 3) (fun _ => rfl) ho2
            obtain ⟨b', off', rfl, hc'⟩ := hrd.num (by omega)
            have hc2 := hc' k (by omega)
            dsimp only at hc2
            rw [HXX.out] at hc2
            obtain ⟨g4, g5, g6⟩ := hc2
            replace g1 := cell_later hB4 G.out.1
            replace g2 := cell_later hB4 G.out.2.1
            replace g3 := cell_later hB4 G.out.2.2
            have HO2 := Lib.hid ho2
            have HB4 := Lib.hid hB4
            replace c3 := Lib.hid (c3.out w6.drew (tab_keep HT.out hB4.drew) (H10.out.later hB4.drew))
            have HT6 := Lib.hid (tab_keep HT.out hB4)
            obtain ⟨I, hI⟩ : ∃ I : Int, I = (k : Int) := ⟨_, rfl⟩
            rw [← hI]
            have HI := Lib.hid hI
            have i1 : I < (n : Int) := by omega
            have i2 : I < (N : Int) := by omega
            have i3 : 0 ≤ I := by omega
            have i4 : I.toNat = k := by omega
            have i9 : I ≤ 1000000 := by omega
            clear hI hlti hN ho' ho2 hB4 hb6 hrd hba hno hc' HO HN
            go_wp2_with fail
            go_region_held3 (fun w' => w'.cell? ⟨b, off + k * 3, none⟩ = some (.bool bb) ∧ w'.cell? ⟨b, off + k * 3 + 1, none⟩ = some (.string sb) ∧ w'.cell? ⟨b, off + k * 3 + 2, none⟩ = some (.int .i64 eb) ∧ w'.cell? ⟨b', off' + k * 3, none⟩ = some (.bool (neg (dm X))) ∧ w'.cell? ⟨b', off' + k * 3 + 1, none⟩ = some (.string (mag (dm X))) ∧ w'.cell? ⟨b', off' + k * 3 + 2, none⟩ = some (.int .i64 (de X)))
              (first | exact ⟨g1, g2, g3, g4, g5, g6⟩ | exact ⟨cell_later ha g1, cell_later ha g2, cell_later ha g3, cell_later ha g4, cell_later ha g5, cell_later ha g6⟩ | exact ⟨cell_later hb (cell_later ha g1), cell_later hb (cell_later ha g2), cell_later hb (cell_later ha g3), cell_later hb (cell_later ha g4), cell_later hb (cell_later ha g5), cell_later hb (cell_later ha g6)⟩)
              (first
                | (go_at_call 17; refine c3.out.mono ?_; rintro e wa ⟨rfl, ha'⟩; have ha := undrew ha'; clear ha')
                | (go_at_call 23; refine (c4.out wa (tab_keep HT6.out ha)).mono ?_; rintro e wb ⟨rfl, hb⟩))
            go_wp2
            obtain rfl := HNN.out
            exact ⟨⟨k + 1, by omega, by rw [HI.out]; go_num, (HO2.out.below ha).below hb, HOK.out, nxt (nxt HB4.out ha) hb⟩, by rw [HI.out]; simp [RowKit.intOf]; omega⟩
          · have c1 := Lib.hid (fun W => farY (bs k) (ss k) (es k) W hf)
            go_wp2_with fail
            refine (c1.out _).mono ?_
            rintro e w4 ⟨rfl, hb⟩
            replace hB := nxt hB hb
            clear hb g1 g2 g3
            go_wp2_with fail
            refine (HA.out _ hB).mono ?_
            rintro e w5 ⟨rfl, hb⟩
            go_wp2
            go_ret
            exact ⟨rfl, nxt hB hb⟩
        · obtain rfl : k = n := by omega
          have hlti : ¬ (k : Int) < (k : Int) := by omega
          obtain ⟨A', c', rfl, hnc, hrd, hba, hno⟩ := OwnK.rd (k := 3) (fun _ => rfl) hown
          have c1 := Lib.hid (lRow_any A k c bs ss es wr (by omega) (fun j hj => by have := (hok j hj).1; omega) (fun j hj => by have := (hok j hj).2; omega) (HR.out.below hB) (tab_keep HT.out hB) (H10.out.later hB))
          have c2 := Lib.hid (fun W h h2 => split_row bs ss es k mx W h20 hok h h2)
          have HRD := Lib.hid hrd.num
          have c3 := Lib.hid (fun A2 c2 W => same_any A2 A' k c2 c' (fun j => neg (dm (xsOf bs ss es j))) (fun j => mag (dm (xsOf bs ss es j))) (fun j => de (xsOf bs ss es j)) W (by omega))
          generalize rowT (xsOf bs ss es) k = rt at *
          have HB1 := Lib.hid hB
          have hB' := Below.refl wr.heap.size wr
          clear hrd hba hno hown hok hon
          go_wp2_with fail
          refine c1.out.mono ?_
          rintro e w1 ⟨rfl, hb⟩
          replace hB' := nxt hB' hb
          clear hb c1 hB
          go_wp2_with fail
          refine (c2.out _ (tab_keep HT.out (nxt HB1.out hB')) (cell_later (nxt HB1.out hB') HX.out)).mono ?_
          rintro e w2 ⟨⟨A2, cc2, rfl, hrd2⟩, hb⟩
          replace hB' := nxt hB' hb
          clear hb c2
          have HRD2 := Lib.hid hrd2
          clear hrd2
          go_wp2_with fail
          refine (c3.out A2 cc2 _ HRD2.out (HRD.out.below hB')).mono ?_
          rintro e w3 ⟨rfl, hb⟩
          have hB := nxt HB1.out (nxt hB' hb)
          clear hb c3 hB' HRD2 HRD HB1
          obtain ⟨x, i, e, hl⟩ : ∃ x i e, litV s.data.toList = (x, i, e) := ⟨_, _, _, rfl⟩
          obtain ⟨h1, h2, h3⟩ := lit_parts s.data.toList
          rw [hl] at h1 h2 h3
          dsimp only at h1 h2 h3
          have c4 := fun W h => lParse_at hl W (by omega) h
          unfold vN at c4
          replace h3 : bsz (dm x) ≤ 60 := Nat.le_trans h3 (by show s.size ≤ 60; exact h60)
          clear hl
          by_cases he : e = 0
          · subst he
            obtain rfl : i = 0 := h2 rfl
            replace c4 := Lib.hid c4
            clear h1 h2
            go_wp2_with fail
            refine (c4.out _ (tab_keep HT.out hB)).mono ?_
            rintro e w4 ⟨rfl, hb⟩
            replace hB := nxt hB hb
            clear hb c4
            have X1 := Bx.new w4 38 #[.bool (neg (dm x)), .string (mag (dm x)), .int .i64 (de x)]
            replace hB := nxtA hB (.cells #[.bool (neg (dm x)), .string (mag (dm x)), .int .i64 (de x)] 38)
            obtain ⟨p1, p2, p3, _, _, _⟩ := X1.three
            obtain ⟨wx, hwx⟩ : ∃ wx, wx = w4.alloc (.cells #[.bool (neg (dm x)), .string (mag (dm x)), .int .i64 (de x)] 38) := ⟨_, rfl⟩
            go_upto_region 18 with (fail)
            rw [← hwx] at p1 p2 p3 hB X1 ⊢
            clear hwx
            by_cases hlo : de x < -32768
            · have d1 : decide (de x < -32768) = true := decide_eq_true hlo
              have HA1 := Lib.hid (fun W h => HA.out W (nxt hB h))
              -- REGLO
              refine wp_region_k [86, 87, 88, 89, 90, 91, 92, 93, 94, 95, 96, 97, 98, 99, 100, 101, 102, 103, 104, 105, 106] [.eq (.int .i64 0), .eq (.bool true), .eq (.bool true), .eq (.pointer (some ⟨w4.heap.size, 2, none⟩)), .eq (.int .i64 (de x)), .eq (.bool true), .eq (.bool true), .eq (undef), .eq (undef), .eq (undef), .eq (.bool true), .eq (.bool true), .eq (undef), .eq (undef), .eq (undef), .eq (undef), .eq (.bool true), .eq (.bool true), .eq (.bool true), .eq (.bool true), .eq (.bool true)] 107 (by kernel_rfl) (by exact fun _ _ _ _ _ h => h) (by kernel_rfl) (by rfl) ?hop ?htail
              case hop =>
                intro A hA
                have hN : A.tmps.size = 107 := by rw [hA]; rfl
                have q11 : A.tmps.getD 11 undef = .int .i64 0 := by rw [hA]; rfl
                have q10 : A.tmps.getD 10 undef = .pointer (some ⟨w4.heap.size, 0, none⟩) := by rw [hA]; rfl
                clear hA
                refine ⟨?_, ?_, ?_, ?_, ?_, ?_, ?_, ?_, ?_, ?_, ?_, ?_, ?_, ?_, ?_, ?_, ?_, ?_, ?_, ?_, ?_, trivial⟩
                · refine kok hN fun u W ev ec ef E B hG hf => ?_
                  exact k_val _ rfl rfl hG (by simp [go_sem, B 11 rfl rfl q11]) rfl
                · refine kok hN fun u W ev ec ef E B hG hf => ?_
                  exact k_val _ rfl rfl hG (by simp [go_sem, ec, E 86 0 rfl rfl (hf 0 rfl)]) rfl
                · refine kok hN fun u W ev ec ef E B hG hf => ?_
                  exact k_val _ rfl rfl hG (by simp [go_sem, E 87 1 rfl rfl (hf 1 rfl)]) rfl
                · refine kok hN fun u W ev ec ef E B hG hf => ?_
                  exact k_val _ ⟨_, hf 2 rfl, rfl⟩ rfl hG (by simp [go_sem, B 10 rfl rfl q10]) rfl
                · refine kok hN fun u W ev ec ef E B hG hf => ?_
                  exact k_val _ ⟨_, hf 2 rfl, rfl⟩ rfl hG (by simp [go_sem, E 89 3 rfl rfl (hf 3 rfl), (X1.later hG).cel]) rfl
                · refine kok hN fun u W ev ec ef E B hG hf => ?_
                  exact k_val _ ⟨_, hf 2 rfl, rfl⟩ rfl hG (by simp [go_sem, ec, E 90 4 rfl rfl (hf 4 rfl), d1]) rfl
                · refine kok hN fun u W ev ec ef E B hG hf => ?_
                  exact k_val _ ⟨_, hf 2 rfl, rfl⟩ rfl hG (by simp [go_sem, E 91 5 rfl rfl (hf 5 rfl)]) rfl
                · refine kok hN fun u W ev ec ef E B hG hf => ?_
                  exact k_skip ⟨_, hf 6 rfl, rfl⟩ rfl rfl
                · refine kok hN fun u W ev ec ef E B hG hf => ?_
                  exact k_skip ⟨_, hf 6 rfl, rfl⟩ rfl rfl
                · refine kok hN fun u W ev ec ef E B hG hf => ?_
                  exact k_skip ⟨_, hf 6 rfl, rfl⟩ rfl rfl
                · refine kok hN fun u W ev ec ef E B hG hf => ?_
                  exact k_val _ ⟨_, hf 2 rfl, rfl⟩ rfl hG (by simp [go_sem, ec, E 92 6 rfl rfl (hf 6 rfl)]) rfl
                · refine kok hN fun u W ev ec ef E B hG hf => ?_
                  exact k_val _ ⟨_, hf 2 rfl, rfl⟩ rfl hG (by simp [go_sem, E 96 10 rfl rfl (hf 10 rfl)]) rfl
                · refine kok hN fun u W ev ec ef E B hG hf => ?_
                  exact k_skip ⟨_, hf 11 rfl, rfl⟩ rfl rfl
                · refine kok hN fun u W ev ec ef E B hG hf => ?_
                  exact k_skip ⟨_, hf 11 rfl, rfl⟩ rfl rfl
                · refine kok hN fun u W ev ec ef E B hG hf => ?_
                  exact k_skip ⟨_, hf 11 rfl, rfl⟩ rfl rfl
                · refine kok hN fun u W ev ec ef E B hG hf => ?_
                  exact k_skip ⟨_, hf 11 rfl, rfl⟩ rfl rfl
                · refine kok hN fun u W ev ec ef E B hG hf => ?_
                  exact k_val _ ⟨_, hf 2 rfl, rfl⟩ rfl hG (by simp [go_sem, ec, E 97 11 rfl rfl (hf 11 rfl)]) rfl
                · refine kok hN fun u W ev ec ef E B hG hf => ?_
                  exact k_val _ rfl rfl hG (by simp [go_sem, E 88 2 rfl rfl (hf 2 rfl), E 102 16 rfl rfl (hf 16 rfl)]) rfl
                · refine kok hN fun u W ev ec ef E B hG hf => ?_
                  exact k_val _ rfl rfl hG (by simp [go_sem, E 103 17 rfl rfl (hf 17 rfl)]) rfl
                · refine kok hN fun u W ev ec ef E B hG hf => ?_
                  exact k_cl ⟨_, hf 18 rfl, rfl⟩ rfl (by simp [go_sem, ef]) (HA1.out W hG) hG (fun _ _ => rfl)
                · refine kok hN fun u W ev ec ef E B hG hf => ?_
                  exact k_val _ rfl rfl hG (by simp [go_sem, E 104 18 rfl rfl (hf 18 rfl), E 105 19 rfl rfl (hf 19 rfl)]) rfl
              case htail =>
                intro u w5 hG hP _
                have f106 : u 20 = .bool true := hP 20 (by decide)
                simp only [putAll, Act.put, List.setIfInBounds_toArray, List.set_cons_zero, List.set_cons_succ, List.length_cons, List.length_nil, Nat.reduceAdd, List.drop_succ_cons, List.drop_zero, f106]
                have hB3 := nxt hB hG
                clear hP hG
                go_wp2
                go_ret
                exact ⟨rfl, hB3⟩
              -- REGLO END
            · by_cases hhi : 32768 < de x
              · have d1 : decide (de x < -32768) = false := decide_eq_false hlo
                have d2 : decide (32768 < de x) = true := decide_eq_true hhi
                have HA1 := Lib.hid (fun W h => HA.out W (nxt hB h))
                -- REGHI
                refine wp_region_k [86, 87, 88, 89, 90, 91, 92, 93, 94, 95, 96, 97, 98, 99, 100, 101, 102, 103, 104, 105, 106] [.eq (.int .i64 0), .eq (.bool true), .eq (.bool true), .eq (.pointer (some ⟨w4.heap.size, 2, none⟩)), .eq (.int .i64 (de x)), .eq (.bool false), .eq (.bool false), .eq (.pointer (some ⟨w4.heap.size, 2, none⟩)), .eq (.int .i64 (de x)), .eq (.bool true), .eq (.bool true), .eq (.bool true), .eq (undef), .eq (undef), .eq (undef), .eq (undef), .eq (.bool true), .eq (.bool true), .eq (.bool true), .eq (.bool true), .eq (.bool true)] 107 (by kernel_rfl) (by exact fun _ _ _ _ _ h => h) (by kernel_rfl) (by rfl) ?hop ?htail
                case hop =>
                  intro A hA
                  have hN : A.tmps.size = 107 := by rw [hA]; rfl
                  have q11 : A.tmps.getD 11 undef = .int .i64 0 := by rw [hA]; rfl
                  have q10 : A.tmps.getD 10 undef = .pointer (some ⟨w4.heap.size, 0, none⟩) := by rw [hA]; rfl
                  clear hA
                  refine ⟨?_, ?_, ?_, ?_, ?_, ?_, ?_, ?_, ?_, ?_, ?_, ?_, ?_, ?_, ?_, ?_, ?_, ?_, ?_, ?_, ?_, trivial⟩
                  · refine kok hN fun u W ev ec ef E B hG hf => ?_
                    exact k_val _ rfl rfl hG (by simp [go_sem, B 11 rfl rfl q11]) rfl
                  · refine kok hN fun u W ev ec ef E B hG hf => ?_
                    exact k_val _ rfl rfl hG (by simp [go_sem, ec, E 86 0 rfl rfl (hf 0 rfl)]) rfl
                  · refine kok hN fun u W ev ec ef E B hG hf => ?_
                    exact k_val _ rfl rfl hG (by simp [go_sem, E 87 1 rfl rfl (hf 1 rfl)]) rfl
                  · refine kok hN fun u W ev ec ef E B hG hf => ?_
                    exact k_val _ ⟨_, hf 2 rfl, rfl⟩ rfl hG (by simp [go_sem, B 10 rfl rfl q10]) rfl
                  · refine kok hN fun u W ev ec ef E B hG hf => ?_
                    exact k_val _ ⟨_, hf 2 rfl, rfl⟩ rfl hG (by simp [go_sem, E 89 3 rfl rfl (hf 3 rfl), (X1.later hG).cel]) rfl
                  · refine kok hN fun u W ev ec ef E B hG hf => ?_
                    exact k_val _ ⟨_, hf 2 rfl, rfl⟩ rfl hG (by simp [go_sem, ec, E 90 4 rfl rfl (hf 4 rfl), d1]) rfl
                  · refine kok hN fun u W ev ec ef E B hG hf => ?_
                    exact k_val _ ⟨_, hf 2 rfl, rfl⟩ rfl hG (by simp [go_sem, E 91 5 rfl rfl (hf 5 rfl)]) rfl
                  · refine kok hN fun u W ev ec ef E B hG hf => ?_
                    exact k_val _ ⟨_, hf 6 rfl, rfl⟩ rfl hG (by simp [go_sem, B 10 rfl rfl q10]) rfl
                  · refine kok hN fun u W ev ec ef E B hG hf => ?_
                    exact k_val _ ⟨_, hf 6 rfl, rfl⟩ rfl hG (by simp [go_sem, E 93 7 rfl rfl (hf 7 rfl), (X1.later hG).cel]) rfl
                  · refine kok hN fun u W ev ec ef E B hG hf => ?_
                    exact k_val _ ⟨_, hf 6 rfl, rfl⟩ rfl hG (by simp [go_sem, ec, E 94 8 rfl rfl (hf 8 rfl), d2]) rfl
                  · refine kok hN fun u W ev ec ef E B hG hf => ?_
                    exact k_val _ ⟨_, hf 2 rfl, rfl⟩ rfl hG (by simp [go_sem, E 92 6 rfl rfl (hf 6 rfl), E 95 9 rfl rfl (hf 9 rfl)]) rfl
                  · refine kok hN fun u W ev ec ef E B hG hf => ?_
                    exact k_val _ ⟨_, hf 2 rfl, rfl⟩ rfl hG (by simp [go_sem, E 96 10 rfl rfl (hf 10 rfl)]) rfl
                  · refine kok hN fun u W ev ec ef E B hG hf => ?_
                    exact k_skip ⟨_, hf 11 rfl, rfl⟩ rfl rfl
                  · refine kok hN fun u W ev ec ef E B hG hf => ?_
                    exact k_skip ⟨_, hf 11 rfl, rfl⟩ rfl rfl
                  · refine kok hN fun u W ev ec ef E B hG hf => ?_
                    exact k_skip ⟨_, hf 11 rfl, rfl⟩ rfl rfl
                  · refine kok hN fun u W ev ec ef E B hG hf => ?_
                    exact k_skip ⟨_, hf 11 rfl, rfl⟩ rfl rfl
                  · refine kok hN fun u W ev ec ef E B hG hf => ?_
                    exact k_val _ ⟨_, hf 2 rfl, rfl⟩ rfl hG (by simp [go_sem, ec, E 97 11 rfl rfl (hf 11 rfl)]) rfl
                  · refine kok hN fun u W ev ec ef E B hG hf => ?_
                    exact k_val _ rfl rfl hG (by simp [go_sem, E 88 2 rfl rfl (hf 2 rfl), E 102 16 rfl rfl (hf 16 rfl)]) rfl
                  · refine kok hN fun u W ev ec ef E B hG hf => ?_
                    exact k_val _ rfl rfl hG (by simp [go_sem, E 103 17 rfl rfl (hf 17 rfl)]) rfl
                  · refine kok hN fun u W ev ec ef E B hG hf => ?_
                    exact k_cl ⟨_, hf 18 rfl, rfl⟩ rfl (by simp [go_sem, ef]) (HA1.out W hG) hG (fun _ _ => rfl)
                  · refine kok hN fun u W ev ec ef E B hG hf => ?_
                    exact k_val _ rfl rfl hG (by simp [go_sem, E 104 18 rfl rfl (hf 18 rfl), E 105 19 rfl rfl (hf 19 rfl)]) rfl
                case htail =>
                  intro u w5 hG hP _
                  have f106 : u 20 = .bool true := hP 20 (by decide)
                  simp only [putAll, Act.put, List.setIfInBounds_toArray, List.set_cons_zero, List.set_cons_succ, List.length_cons, List.length_nil, Nat.reduceAdd, List.drop_succ_cons, List.drop_zero, f106]
                  have hB3 := nxt hB hG
                  clear hP hG
                  go_wp2
                  go_ret
                  exact ⟨rfl, hB3⟩
                -- REGHI END
              · have d1 : decide (de x < -32768) = false := decide_eq_false hlo
                have d2 : decide (32768 < de x) = false := decide_eq_false hhi
                have c5 := lPrint_any (neg (dm x)) (mag (dm x)) (de x) wx.drew (by rw [mag_size]; omega) (by omega) (tab_keep HT.out hB.drew) (H10.out.later hB.drew)
                rw [ival_mk, dy_dm] at c5
                replace c5 := Lib.hid c5
                have c6 := Lib.hid (fun W h => isL (ntext x) x W (ntext_sz h3 (by omega)) (lit_own x (by omega)) h)
                have HT1 := Lib.hid (tab_keep HT.out hB)
                have HA1 := Lib.hid (fun W h => HA.out W (nxt hB h))
                generalize ntext x = tx at *
                go_region_held3 (fun w' => w'.cell? ⟨w4.heap.size, 0, none⟩ = some (.bool (neg (dm x))) ∧ w'.cell? ⟨w4.heap.size, 1, none⟩ = some (.string (mag (dm x))) ∧ w'.cell? ⟨w4.heap.size, 2, none⟩ = some (.int .i64 (de x)))
                  (first | exact ⟨p1, p2, p3⟩ | exact ⟨cell_later ha p1, cell_later ha p2, cell_later ha p3⟩ | exact ⟨cell_later hb (cell_later ha p1), cell_later hb (cell_later ha p2), cell_later hb (cell_later ha p3)⟩ | exact ⟨cell_later hc (cell_later hb (cell_later ha p1)), cell_later hc (cell_later hb (cell_later ha p2)), cell_later hc (cell_later hb (cell_later ha p3))⟩)
                  (first
                    | (go_at_call 17; refine c5.out.mono ?_; rintro e wa ⟨rfl, ha'⟩; have ha := undrew ha'; clear ha')
                    | (go_at_call 23; refine (c6.out wa (tab_keep HT1.out ha)).mono ?_; rintro e wb ⟨rfl, hb⟩)
                    | (go_at_call 15; refine (HA1.out wb (nxt ha hb)).mono ?_; rintro e wc ⟨rfl, hc⟩))
                go_wp2
                go_ret
                exact ⟨rfl, nxt hB (nxt (nxt ha hb) hc)⟩
          · obtain rfl : x = 0 := h1 he
            rw [show (Value.agg #[.bool (neg (dm 0)), .string (mag (dm 0)), .int .i64 (de 0)]) = .agg #[.bool false, .string ⟨#[]⟩, .int .i64 0] from by kernel_rfl] at c4
            replace c4 := Lib.hid c4
            have hen : (e != 0) = true := by simpa using he
            clear h1 h2
            go_wp2_with fail
            refine (c4.out _ (tab_keep HT.out hB)).mono ?_
            rintro e w4 ⟨rfl, hb⟩
            replace hB := nxt hB hb
            clear hb c4
            have X1 := Bx.new w4 38 #[.bool false, .string ⟨#[]⟩, .int .i64 0]
            replace hB := nxtA hB (.cells #[.bool false, .string ⟨#[]⟩, .int .i64 0] 38)
            obtain ⟨p1, p2, p3, _, _, _⟩ := X1.three
            have HQ := fun W => num_eql1 W (.tmp 80) (.tmp 81) false ⟨#[]⟩ 0
            go_wp2_with fail
            refine (HA.out _ hB).mono ?_
            rintro e w5 ⟨rfl, hb⟩
            go_wp2
            go_ret
            exact ⟨rfl, nxt hB hb⟩
    · have hg2 : (60 : Int) < (s.size : Int) := by omega
      go_wp2_with fail
      refine (HA.out _ hB0).mono ?_
      rintro e w5 ⟨rfl, hb⟩
      go_wp2
      go_ret
      exact ⟨rfl, hb⟩
  · have hg : (20 : Int) < (n : Int) := by omega
    go_wp2_with fail
    refine (HA.out _ hB0).mono ?_
    rintro e w5 ⟨rfl, hb⟩
    go_wp2
    go_ret
    exact ⟨rfl, hb⟩
end Go.Proofs.YtkgogbmeehiloaaGreatDoor

