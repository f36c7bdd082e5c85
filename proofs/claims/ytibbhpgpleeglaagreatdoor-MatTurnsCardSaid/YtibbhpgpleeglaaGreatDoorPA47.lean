/- The walks and plain laws beneath the statements. -/
import Derived.Test.YtibbhpgpleeglaaGreatDoorPA46
namespace Go.Proofs.YtibbhpgpleeglaaGreatDoor
open Go Go.RowKit

/-- The numbers of a table's cells. -/
def xsM (bs : Nat → Nat → Bool) (ss : Nat → Nat → ByteArray) (es : Nat → Nat → Int) (i j : Nat) : Dyadic := dy (ival (bs i j) (sval (ss i j))) (es i j)
theorem nd_ok {b : Bool} {s : ByteArray} {e : Int} (h : okM s e) : ND b s e (dy (ival b (sval s)) e) := ⟨rfl, by have := h.1; omega, by have := h.2.1; omega, by have := h.2.2; omega⟩
theorem db_ok {b : Bool} {s : ByteArray} {e : Int} (h : okM s e) : DB 60 124 (dy (ival b (sval s)) e) := by
  refine db_raw (S := 64) ?_ (by have := h.2.1; omega) (by have := h.2.2; omega)
  rw [ival_natAbs]
  refine Nat.lt_of_lt_of_le (sval_lt s) ?_
  have h1 : 256 ^ s.size ≤ 256 ^ 8 := Nat.pow_le_pow_right (by decide) h.1
  exact Nat.le_trans h1 (by decide)
/-- Of what lies beyond the table nothing is known: it may be taken for noughts. -/
theorem RdM.clean {w : World} {A : Option Addr} {n : Nat} {ms : Nat → Nat} {bs : Nat → Nat → Bool} {ss : Nat → Nat → ByteArray} {es : Nat → Nat → Int} (h : RdM w A n ms bs ss es) :
    ∃ bs' ss' es', RdM w A n ms bs' ss' es' ∧ ∀ i j, ¬ (i < n ∧ j < ms i) → ss' i j = ⟨#[]⟩ ∧ es' i j = 0 := by
  refine ⟨fun i j => if i < n ∧ j < ms i then bs i j else false, fun i j => if i < n ∧ j < ms i then ss i j else ⟨#[]⟩, fun i j => if i < n ∧ j < ms i then es i j else 0, h.congr (fun _ _ => rfl) (fun i j hi hj => ?_), fun i j hn => ⟨if_neg hn, if_neg hn⟩⟩
  rw [if_pos ⟨hi, hj⟩, if_pos ⟨hi, hj⟩, if_pos ⟨hi, hj⟩]
  exact ⟨rfl, rfl, rfl⟩
theorem gOK.all {n : Nat} {ms : Nat → Nat} {ss : Nat → Nat → ByteArray} {es : Nat → Nat → Int} (hg : gOK n ms ss es) (hc : ∀ i j, ¬ (i < n ∧ j < ms i) → ss i j = ⟨#[]⟩ ∧ es i j = 0) (i j : Nat) : okM (ss i j) (es i j) := by
  by_cases h : i < n ∧ j < ms i
  · exact (hg.2.2 i h.1).2 j h.2
  · obtain ⟨h1, h2⟩ := hc i j h
    rw [h1, h2]
    exact ⟨by decide, by decide, by decide⟩
theorem gOK.four {n : Nat} {ms : Nat → Nat} {ss : Nat → Nat → ByteArray} {es : Nat → Nat → Int} (hg : gOK n ms ss es) (hs : sqB n ms) : n ≤ 4 := by have := hg.1; have := hs.1; omega
theorem RdM.sq {w : World} {A : Option Addr} {n : Nat} {ms : Nat → Nat} {bs : Nat → Nat → Bool} {ss : Nat → Nat → ByteArray} {es : Nat → Nat → Int} (h : RdM w A n ms bs ss es) (hs : sqB n ms) : RdM w A n (fun _ => n) bs ss es := h.congr (fun i hi => hs.2 i hi) (fun _ _ _ _ => ⟨rfl, rfl, rfl⟩)

set_option maxRecDepth 100000 in
set_option maxHeartbeats 4000000 in
theorem matDets_x (TA : Option Addr) (n c : Nat) (ms : Nat → Nat) (bs : Nat → Nat → Bool) (ss : Nat → Nat → ByteArray) (es : Nat → Nat → Int) (w : World) (hn : n ≤ 9223372036854775807) (hm : ∀ i, i < n → ms i ≤ 9223372036854775807) (hr : RdM w TA n ms bs ss es) (hc : ∀ i j, ¬ (i < n ∧ j < ms i) → ss i j = ⟨#[]⟩ ∧ es i j = 0) (hT : TabAt 0 Lib.deBruijn64tab w) :
    Calls Tryz.prog 3 #[.slice TA n c] w fun r w' => r = .returned (.bool true) ∧ Below w.heap.size w w' := by
  have cG := Lib.hid (great_any TA n c ms bs ss es w hn hm hr)
  have HR := Lib.hid hr
  have HC := Lib.hid hc
  have HT := Lib.hid hT
  clear hr hc hT hm
  go_enter Tryz.func3, Tryz.ntmps3
  go_wp2_with fail
  refine cG.out.mono ?_
  rintro e w1 ⟨hg1, hg2, hB⟩
  clear cG
  by_cases hg : gOK n ms ss es
  · obtain rfl := hg1 hg
    have hn20 : n ≤ 20 := hg.2.1
    have HG := Lib.hid hg
    clear hg1 hg2 hg
    have cO := Lib.hid (mown_any TA n c ms bs ss es w1 (by omega) (fun i hi => by have := (HG.out.2.2 i hi).1; omega) (HR.out.below hB))
    have HB := Lib.hid hB
    clear hB
    go_wp2_with fail
    refine cO.out.mono ?_
    rintro e w2 ⟨⟨B, d, rfl, hown⟩, hb⟩
    have hB := nxt HB.out hb
    have HO := Lib.hid hown
    clear hb hown cO HB
    by_cases hs : sqB n ms
    · have hn4 : n ≤ 4 := HG.out.four hs
      have HS := Lib.hid hs
      have HOK := Lib.hid (HG.out.all HC.out)
      clear hs
      have cD := Lib.hid (mdet_any 60 124 (by decide) n hn4 B d bs ss es (xsM bs ss es) w2 (fun i j => nd_ok (HOK.out i j)) (fun i j => db_ok (HOK.out i j)) (HO.out.sq HS.out) (tab_keep HT.out hB))
      have HB := Lib.hid hB
      clear hB
      go_wp2_with fail
      refine cD.out.mono ?_
      rintro e w3 ⟨rfl, hb⟩
      have hB := nxt HB.out hb
      have X4 := Bx.new w3 29 #[.bool (neg (dm (detL n (xsM bs ss es)))), .string (mag (dm (detL n (xsM bs ss es)))), .int .i64 (de (detL n (xsM bs ss es)))]
      have hbb := b1 w3 (.cells #[.bool (neg (dm (detL n (xsM bs ss es)))), .string (mag (dm (detL n (xsM bs ss es)))), .int .i64 (de (detL n (xsM bs ss es)))] 29)
      have HO3 := Lib.hid ((RdM.below HO.out hb).below hbb)
      replace hB := nxt hB hbb
      clear hb hbb cD HB
      have HP := Lib.hid (And.intro X4 hB)
      clear X4 hB
      go_wp2_with fail
      obtain ⟨X4, hB⟩ := HP.out
      generalize w3.alloc (.cells #[.bool (neg (dm (detL n (xsM bs ss es)))), .string (mag (dm (detL n (xsM bs ss es)))), .int .i64 (de (detL n (xsM bs ss es)))] 29) = w4 at *
      generalize w3.heap.size = g4 at *
      clear HP
      refine (madj_any 60 124 (by decide) n hn4 B d bs ss es (xsM bs ss es) w4 (fun i j => nd_ok (HOK.out i j)) (fun i j => db_ok (HOK.out i j)) (HO3.out.sq HS.out) (tab_keep HT.out hB)).mono ?_
      rintro e w5 ⟨⟨C, cC, rfl, hadj⟩, hb⟩
      replace X4 := X4.later hb
      have HO5 := Lib.hid (RdM.below HO3.out hb)
      replace hB := nxt hB hb
      clear hb
      have HP := Lib.hid (And.intro X4 (And.intro hadj hB))
      clear X4 hadj hB
      go_wp2_with fail
      refine (mcheck_any B n d ms w5 (by omega) HO5.out.len).mono ?_
      rintro e w6 ⟨h1, _, hb⟩
      obtain rfl := h1 HS.out
      obtain ⟨X4, hadj, hB⟩ := HP.out
      replace X4 := X4.later hb
      replace hadj := RdM.below hadj hb
      have HO6 := Lib.hid (RdM.below HO5.out hb)
      replace hB := nxt hB hb
      clear hb h1 HP
      have HP := Lib.hid (And.intro X4 (And.intro hadj hB))
      clear X4 hadj hB
      go_wp2_with fail
      refine (rcheck_any TA n c ms w6 (by omega) (HR.out.below HP.out.2.2).len).mono ?_
      rintro e w7 ⟨h1, _, rfl⟩
      obtain rfl := h1 HS.out
      clear h1
      go_wp2_with fail
      refine (msame_any B TA n d c ms bs ss es w7 (by omega) (fun i hi => by have := (HG.out.2.2 i hi).1; omega) HO6.out (HR.out.below HP.out.2.2)).mono ?_
      rintro e w8 ⟨rfl, hb⟩
      obtain ⟨X4, hadj, hB⟩ := HP.out
      replace X4 := X4.later hb
      replace hadj := RdM.below hadj hb
      replace hB := nxt hB hb
      clear hb HP
      have HP := Lib.hid (And.intro X4 (And.intro hadj hB))
      clear X4 hadj hB
      go_wp2_with fail
      refine (rcheck_any TA n c ms w8 (by omega) (HR.out.below HP.out.2.2).len).mono ?_
      rintro e w9 ⟨h1, _, rfl⟩
      obtain rfl := h1 HS.out
      clear h1
      go_upto_region 10 with (fail)
      obtain ⟨X4, hadj, hB⟩ := HP.out
      clear HP
      have HB9 := Lib.hid hB
      clear hB
      refine wp_region_k [56, 57, 58, 59, 60, 61, 62, 63, 64, 65, 66, 67, 68, 69, 70, 71, 72, 73, 74, 75, 76, 2] [.eq (.int .i64 0), .eq (.bool true), .eq (.bool true), .eq (.int .i64 0), .eq (.bool true), .eq (.bool true), .eq (.bool true), .eq (.agg #[.bool (neg (dm (detL n (xsM bs ss es)))), .string (mag (dm (detL n (xsM bs ss es)))), .int .i64 (de (detL n (xsM bs ss es)))]), .eq (.slice TA n c), .eq (.agg #[.bool (neg (dm (detL n (xsM bs ss es)))), .string (mag (dm (detL n (xsM bs ss es)))), .int .i64 (de (detL n (xsM bs ss es)))]), .eq (.bool true), .eq (.bool true), .eq (.bool true), .eq (.slice C n cC), .eq (.slice TA n c), .prd (fun v W => ∃ D d, v = .slice D n d ∧ RdM W D n (fun _ => n) (fun i q => neg (dm (adjL n (xsM bs ss es) i q))) (fun i q => mag (dm (adjL n (xsM bs ss es) i q))) (fun i q => de (adjL n (xsM bs ss es) i q))) (fun v w w' hb ⟨D, d, e, h⟩ => ⟨D, d, e, RdM.below h hb⟩), .eq (.bool true), .eq (.bool true), .eq (.bool true), .eq (.bool true), .eq (.bool true), .eq (.bool true)] 77 (by kernel_rfl) (by exact fun _ _ _ _ _ h => h) (by kernel_rfl) (by rfl) ?hop ?htail
      case hop =>
        intro A hA
        have hN : A.tmps.size = 77 := by rw [hA]; rfl
        have q0 : A.tmps.getD 0 undef = .slice TA n c := by rw [hA]; rfl
        have q4 : A.tmps.getD 4 undef = .pointer (some ⟨g4, 0, none⟩) := by rw [hA]; rfl
        have q5 : A.tmps.getD 5 undef = .int .i64 0 := by rw [hA]; rfl
        have q6 : A.tmps.getD 6 undef = .slice C n cC := by rw [hA]; rfl
        have q7 : A.tmps.getD 7 undef = .int .i64 0 := by rw [hA]; rfl
        clear hA
        refine ⟨?_, ?_, ?_, ?_, ?_, ?_, ?_, ?_, ?_, ?_, ?_, ?_, ?_, ?_, ?_, ?_, ?_, ?_, ?_, ?_, ?_, ?_, trivial⟩
        · refine kok hN fun u W ev ec ef E B hG hf => ?_
          exact k_val _ rfl rfl hG (by simp [go_sem, B 5 rfl rfl q5]) rfl
        · refine kok hN fun u W ev ec ef E B hG hf => ?_
          exact k_val _ rfl rfl hG (by simp [go_sem, ec, E 56 0 rfl rfl (hf 0 rfl)]) rfl
        · refine kok hN fun u W ev ec ef E B hG hf => ?_
          exact k_val _ rfl rfl hG (by simp [go_sem, E 57 1 rfl rfl (hf 1 rfl)]) rfl
        · refine kok hN fun u W ev ec ef E B hG hf => ?_
          exact k_val _ ⟨_, hf 2 rfl, rfl⟩ rfl hG (by simp [go_sem, B 7 rfl rfl q7]) rfl
        · refine kok hN fun u W ev ec ef E B hG hf => ?_
          exact k_val _ ⟨_, hf 2 rfl, rfl⟩ rfl hG (by simp [go_sem, ec, E 59 3 rfl rfl (hf 3 rfl)]) rfl
        · refine kok hN fun u W ev ec ef E B hG hf => ?_
          exact k_val _ rfl rfl hG (by simp [go_sem, E 58 2 rfl rfl (hf 2 rfl), E 60 4 rfl rfl (hf 4 rfl)]) rfl
        · refine kok hN fun u W ev ec ef E B hG hf => ?_
          exact k_val _ rfl rfl hG (by simp [go_sem, E 61 5 rfl rfl (hf 5 rfl)]) rfl
        · refine kok hN fun u W ev ec ef E B hG hf => ?_
          exact k_val _ ⟨_, hf 6 rfl, rfl⟩ rfl hG (by simp [go_sem, B 4 rfl rfl q4, (X4.later hG).cel]) rfl
        · refine kok hN fun u W ev ec ef E B hG hf => ?_
          exact k_val _ ⟨_, hf 6 rfl, rfl⟩ rfl hG (by simp [go_sem, B 0 rfl rfl q0]) rfl
        · refine kok hN fun u W ev ec ef E B hG hf => ?_
          exact k_cl ⟨_, hf 6 rfl, rfl⟩ rfl (by simp [go_sem, ef, E 64 8 rfl rfl (hf 8 rfl)]) (rdet_any 60 124 (by decide) n (by omega) TA c bs ss es (xsM bs ss es) W (fun i j => nd_ok (HOK.out i j)) (fun i j => by have := (HOK.out i j).2.1; omega) (fun i j => db_ok (HOK.out i j)) ((HR.out.below (nxt HB9.out hG)).sq HS.out)) hG (fun _ _ => rfl)
        · refine kok hN fun u W ev ec ef E B hG hf => ?_
          exact k_val _ ⟨_, hf 6 rfl, rfl⟩ rfl hG (by simp [go_sem, E 63 7 rfl rfl (hf 7 rfl), E 65 9 rfl rfl (hf 9 rfl)]) rfl
        · refine kok hN fun u W ev ec ef E B hG hf => ?_
          exact k_val _ rfl rfl hG (by simp [go_sem, E 62 6 rfl rfl (hf 6 rfl), E 66 10 rfl rfl (hf 10 rfl)]) rfl
        · refine kok hN fun u W ev ec ef E B hG hf => ?_
          exact k_val _ rfl rfl hG (by simp [go_sem, E 67 11 rfl rfl (hf 11 rfl)]) rfl
        · refine kok hN fun u W ev ec ef E B hG hf => ?_
          exact k_val _ ⟨_, hf 12 rfl, rfl⟩ rfl hG (by simp [go_sem, B 6 rfl rfl q6]) rfl
        · refine kok hN fun u W ev ec ef E B hG hf => ?_
          exact k_val _ ⟨_, hf 12 rfl, rfl⟩ rfl hG (by simp [go_sem, B 0 rfl rfl q0]) rfl
        · refine kok hN fun u W ev ec ef E B hG hf => ?_
          exact k_cp ⟨_, hf 12 rfl, rfl⟩ rfl (by simp [go_sem, ef, E 70 14 rfl rfl (hf 14 rfl)]) ((radj_any n 60 124 (by decide) (by omega) TA c bs ss es (xsM bs ss es) W (fun i j => nd_ok (HOK.out i j)) (fun i j => db_ok (HOK.out i j)) (fun i j => by have := (HOK.out i j).2.1; omega) ((HR.out.below (nxt HB9.out hG)).sq HS.out)).mono fun e w' ⟨⟨D, d, h1, h2⟩, hb⟩ => ⟨⟨_, h1, D, d, rfl, h2⟩, hb⟩) hG (fun _ _ h => h)
        · refine kok hN fun u W ev ec ef E B hG hf => ?_
          obtain ⟨D71, d71, f71, h71⟩ := hf 15 rfl
          exact k_cl ⟨_, hf 12 rfl, rfl⟩ rfl (by simp [go_sem, ef, E 69 13 rfl rfl (hf 13 rfl), E 71 15 rfl rfl f71]) (msame_any C D71 n cC d71 (fun _ => n) _ _ _ W (by omega) (fun _ _ => by omega) (RdM.below hadj hG) h71) hG (fun _ _ => rfl)
        · refine kok hN fun u W ev ec ef E B hG hf => ?_
          exact k_val _ rfl rfl hG (by simp [go_sem, E 68 12 rfl rfl (hf 12 rfl), E 72 16 rfl rfl (hf 16 rfl)]) rfl
        · refine kok hN fun u W ev ec ef E B hG hf => ?_
          exact k_val _ rfl rfl hG (by simp [go_sem, E 73 17 rfl rfl (hf 17 rfl)]) rfl
        · refine kok hN fun u W ev ec ef E B hG hf => ?_
          exact k_cl ⟨_, hf 18 rfl, rfl⟩ rfl (by simp [go_sem, ef]) (awakeM W (tab_keep HT.out (nxt HB9.out hG))) hG (fun _ _ => rfl)
        · refine kok hN fun u W ev ec ef E B hG hf => ?_
          exact k_val _ rfl rfl hG (by simp [go_sem, E 74 18 rfl rfl (hf 18 rfl), E 75 19 rfl rfl (hf 19 rfl)]) rfl
        · refine kok hN fun u W ev ec ef E B hG hf => ?_
          exact k_val _ rfl rfl hG (by simp [go_sem, E 76 20 rfl rfl (hf 20 rfl)]) rfl
      case htail =>
      intro u w99 hG hP _
      have f0 : u 21 = .bool true := hP 21 (by decide)
      simp only [putAll, Act.put, List.setIfInBounds_toArray, List.set_cons_zero, List.set_cons_succ, List.length_cons, List.length_nil, Nat.reduceAdd, List.drop_succ_cons, List.drop_zero, f0]
      have hB := nxt HB9.out hG
      clear hP hG f0 HB9 X4 hadj
      go_wp2
      go_ret
      exact ⟨rfl, hB⟩
    · have HS := Lib.hid hs
      clear hs
      have HB := Lib.hid hB
      clear hB
      go_wp2_with fail
      refine (mdet_no n B d ms w2 (by omega) HS.out HO.out.len).mono ?_
      rintro e w3 ⟨rfl, hb⟩
      have hB := nxt HB.out hb
      have X4 := Bx.new w3 29 #[.bool false, .string ⟨#[]⟩, .int .i64 0]
      have hbb := b1 w3 (.cells #[.bool false, .string ⟨#[]⟩, .int .i64 0] 29)
      have HO3 := Lib.hid ((RdM.below HO.out hb).below hbb)
      replace hB := nxt hB hbb
      clear hb hbb HB
      have HP := Lib.hid (And.intro X4 hB)
      clear X4 hB
      go_wp2_with fail
      obtain ⟨X4, hB⟩ := HP.out
      generalize w3.alloc (.cells #[.bool false, .string ⟨#[]⟩, .int .i64 0] 29) = w4 at *
      generalize w3.heap.size = g4 at *
      clear HP
      refine (madj_no n B d ms w4 (by omega) HS.out HO3.out.len).mono ?_
      rintro e w5 ⟨rfl, hb⟩
      replace X4 := X4.later hb
      have HO5 := Lib.hid (RdM.below HO3.out hb)
      replace hB := nxt hB hb
      clear hb
      have HP := Lib.hid (And.intro X4 hB)
      clear X4 hB
      go_wp2_with fail
      refine (mcheck_any B n d ms w5 (by omega) HO5.out.len).mono ?_
      rintro e w6 ⟨_, h1, hb⟩
      obtain rfl := h1 HS.out
      obtain ⟨X4, hB⟩ := HP.out
      replace X4 := X4.later hb
      have HO6 := Lib.hid (RdM.below HO5.out hb)
      replace hB := nxt hB hb
      clear hb h1 HP
      have HP := Lib.hid (And.intro X4 hB)
      clear X4 hB
      go_wp2_with fail
      refine (rcheck_any TA n c ms w6 (by omega) (HR.out.below HP.out.2).len).mono ?_
      rintro e w7 ⟨_, h1, rfl⟩
      obtain rfl := h1 HS.out
      clear h1
      go_wp2_with fail
      refine (msame_any B TA n d c ms bs ss es w7 (by omega) (fun i hi => by have := (HG.out.2.2 i hi).1; omega) HO6.out (HR.out.below HP.out.2)).mono ?_
      rintro e w8 ⟨rfl, hb⟩
      obtain ⟨X4, hB⟩ := HP.out
      replace X4 := X4.later hb
      replace hB := nxt hB hb
      clear hb HP
      have HP := Lib.hid (And.intro X4 hB)
      clear X4 hB
      go_wp2_with fail
      refine (rcheck_any TA n c ms w8 (by omega) (HR.out.below HP.out.2).len).mono ?_
      rintro e w9 ⟨_, h1, rfl⟩
      obtain rfl := h1 HS.out
      clear h1
      obtain ⟨X4, hB⟩ := HP.out
      clear HP
      obtain ⟨q1, q2, q3, _, _, _⟩ := X4.three
      have HB := Lib.hid hB
      clear hB X4
      go_wp2_with fail
      refine (awakeM _ (tab_keep HT.out HB.out)).mono ?_
      rintro e wz ⟨rfl, hb⟩
      have hB := nxt HB.out hb
      clear hb q1 q2 q3
      go_wp2
      go_ret
      exact ⟨rfl, hB⟩
  · obtain rfl := hg2 hg
    clear hg1 hg2 hg
    have HB := Lib.hid hB
    clear hB
    go_wp2_with fail
    refine (awakeM _ (tab_keep HT.out HB.out)).mono ?_
    rintro e wz ⟨rfl, hb⟩
    have hB := nxt HB.out hb
    clear hb
    go_wp2
    go_ret
    exact ⟨rfl, hB⟩
theorem matDets_any (A : Option Addr) (n c : Nat) (ms : Nat → Nat) (bs : Nat → Nat → Bool) (ss : Nat → Nat → ByteArray) (es : Nat → Nat → Int) (w : World) (hn : n ≤ c) (hc : c ≤ maxLen) (hm : ∀ i, i < n → ms i ≤ maxLen) (hr : RdM w A n ms bs ss es) (hT : TabAt 0 Lib.deBruijn64tab w) :
    Calls Tryz.prog 3 #[.slice A n c] w fun r w' => r = .returned (.bool true) ∧ Below w.heap.size w w' := by
  obtain ⟨bs', ss', es', h1, h2⟩ := hr.clean
  unfold maxLen at hc hm
  exact matDets_x A n c ms bs' ss' es' w (by omega) (fun i hi => Nat.le_trans (hm i hi) (by decide)) h1 h2 hT
end Go.Proofs.YtibbhpgpleeglaaGreatDoor

