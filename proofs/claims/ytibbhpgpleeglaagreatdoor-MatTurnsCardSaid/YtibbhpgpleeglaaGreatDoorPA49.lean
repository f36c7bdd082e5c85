/- The walks and plain laws beneath the statements. -/
import Derived.Test.YtibbhpgpleeglaaGreatDoorPA47
import Derived.Test.YtibbhpgpleeglaaGreatDoorPA37
namespace Go.Proofs.YtibbhpgpleeglaaGreatDoor
open Go Go.RowKit

theorem i64_and16 (n : Int) : bits .and .i64 n 65535 = n % 65536 := by
  have h1 : (BitVec.ofInt 64 65535).toNat = 2 ^ 16 - 1 := by decide
  have key : (BitVec.ofInt 64 n &&& BitVec.ofInt 64 65535).toNat = (n % ((2 ^ 64 : Nat) : Int)).toNat % 2 ^ 16 := by
    rw [BitVec.toNat_and, BitVec.toNat_ofInt, h1, Nat.and_two_pow_sub_one_eq_mod]
  show IntKind.i64.wrap ((BitVec.ofInt 64 n &&& BitVec.ofInt 64 65535).toNat : Nat) = n % 65536
  rw [key, IntKind.wrap_i64]
  omega
/-- The table's own cells: two of its rows change places. -/
theorem OwnM.swap {w : World} {base g n c : Nat} {ms : Nat → Nat} {bs : Nat → Nat → Bool} {ss : Nat → Nat → ByteArray} {es : Nat → Nat → Int} (h : OwnM w base (.slice (some ⟨g, 0, none⟩) n c) n ms bs ss es) :
    ∃ (As : Nat → Option Addr) (cs : Nat → Nat), base ≤ g ∧ (∀ i, i < n → w.cell? ⟨g, i, none⟩ = some (.slice (As i) (ms i) (cs i)) ∧ w.frozen? ⟨g, i, none⟩ = false) ∧
      ∀ x y, x < n → y < n → RdM (((w.setCell ⟨g, x, none⟩ (.slice (As y) (ms y) (cs y))).setCell ⟨g, y, none⟩ (.slice (As x) (ms x) (cs x))).drew) (some ⟨g, 0, none⟩) n (fun i => ms (swp x y i)) (fun i j => bs (swp x y i) j) (fun i j => ss (swp x y i) j) (fun i j => es (swp x y i) j) := by
  obtain ⟨As, cs, h1, h2⟩ := h
  obtain ⟨G, hC, hnc, _, hbg, hG⟩ := OwnK.cel (k := 1) (fun _ => rfl) h1
  have hGi : ∀ i, i < n → G i = .slice (As i) (ms i) (cs i) := fun i hi => by
    have h5 := hG i hi 0 (by decide)
    rw [Nat.mul_one, Nat.add_zero] at h5
    simpa using h5.symm
  refine ⟨As, cs, hbg, fun i hi => ⟨by rw [← hGi i hi]; exact hC.cell (by omega), hC.frozen _⟩, fun x y hx hy h0 => ⟨g, 0, rfl, fun i hi => ?_⟩⟩
  have hs := swp_lt hx hy hi
  obtain ⟨a1, a2, a3, a4⟩ := h2 (swp x y i) hs
  have hC2 := (hC.set_ x (.slice (As y) (ms y) (cs y))).set_ y (.slice (As x) (ms x) (cs x))
  refine ⟨As (swp x y i), cs (swp x y i), a1, a2, ?_, fun h5 => ?_⟩
  · have h6 := hC2.cell (i := i) (by omega)
    rw [Nat.zero_add]
    refine Eq.trans (show _ = World.cell? _ ⟨g, i, none⟩ from rfl) (h6.trans ?_)
    unfold swp
    by_cases ex : i = x <;> by_cases ey : i = y
    · subst ex; subst ey; simp
    · subst ex; simp [ey]
    · subst ey; simp [ex]
    · simp only [if_neg ex, if_neg ey, hGi i hi]
  · obtain ⟨b, off, e, hc⟩ := a3 h5
    have hne : b ≠ g := fun e2 => (a4 _ e).2 (by rw [e2]; rfl)
    exact ⟨b, off, e, fun j hj q hq => by
      have h7 := hc j hj q hq
      obtain ⟨v, hv⟩ : ∃ v, (cel3 (bs (swp x y i)) (ss (swp x y i)) (es (swp x y i)) j)[q]? = some v := ⟨_, List.getElem?_eq_getElem hq⟩
      rw [hv] at h7 ⊢
      exact ((cell_far1 (cell_far1 h7 hne _) hne _ : _))⟩
theorem det_of_swp {n x y : Nat} (hn : n ≤ 4) (hx : x < n) (hy : y < n) (hne : ¬ x = y) (A : Nat → Nat → Dyadic) : -detL n (fun i j => A (swp x y i) j) = detL n A := by
  rw [detL_two n x y hn hx hy hne]; grind
set_option maxRecDepth 100000 in
set_option maxHeartbeats 4000000 in
theorem matTurns_x (TA : Option Addr) (n c : Nat) (ms : Nat → Nat) (bs : Nat → Nat → Bool) (ss : Nat → Nat → ByteArray) (es : Nat → Nat → Int) (I K : Int) (w : World) (hn : n ≤ 9223372036854775807) (hms : ∀ i, i < n → ms i ≤ 9223372036854775807) (RA : RdM w TA n ms bs ss es) (hca : ∀ i j, ¬ (i < n ∧ j < ms i) → ss i j = ⟨#[]⟩ ∧ es i j = 0) (hT : TabAt 0 Lib.deBruijn64tab w) :
    Calls Tryz.prog 4 #[.slice TA n c, .int .i64 I, .int .i64 K] w fun r w' => r = .returned (.bool true) ∧ Below w.heap.size w w' := by
  have HCA := Lib.hid hca
  have HT := Lib.hid hT
  have HMS := Lib.hid hms
  clear hca hT hms
  have hB := Below.refl w.heap.size w
  go_enter Tryz.func4, Tryz.ntmps4
  have HP := Lib.hid (And.intro RA hB)
  clear RA hB
  go_wp2_with fail
  obtain ⟨RA, hB⟩ := HP.out
  clear HP
  refine (great_any TA n c ms bs ss es w hn HMS.out RA).mono ?_
  rintro e w1 ⟨hg1, hg2, hbb⟩
  replace RA := RdM.below RA hbb
  replace hB := nxt hB hbb
  clear hbb
  by_cases hg : gOK n ms ss es
  · obtain rfl := hg1 hg
    have HGA := Lib.hid hg
    clear hg1 hg2 hg
    have HP := Lib.hid (And.intro RA hB)
    clear RA hB
    go_wp2_with fail
    obtain ⟨RA, hB⟩ := HP.out
    clear HP
    refine (mcheck_any TA n c ms w1 (by have := HGA.out.2.1; omega) RA.len).mono ?_
    rintro e w2 ⟨h1, h2, hbb⟩
    replace RA := RdM.below RA hbb
    replace hB := nxt hB hbb
    clear hbb
    by_cases h0 : sqB n ms
    · have S1 := Lib.hid h0
      obtain rfl := h1 h0
      clear h0 h1 h2
      by_cases h0 : n = 0
      · have E0 := Lib.hid h0
        obtain rfl := h0
        have HP := Lib.hid (And.intro RA hB)
        clear RA hB
        go_wp2_with fail
        obtain ⟨RA, hB⟩ := HP.out
        clear HP
        refine (awakeM _ (tab_keep HT.out hB)).mono ?_
        rintro e w3 ⟨rfl, hbb⟩
        replace RA := RdM.below RA hbb
        replace hB := nxt hB hbb
        clear hbb
        have HP := Lib.hid (And.intro RA hB)
        clear RA hB
        go_wp2
        go_ret
        obtain ⟨RA, hB⟩ := HP.out
        clear HP
        exact ⟨rfl, hB⟩
      · have E0 := Lib.hid h0
        have hn4 : n ≤ 4 := HGA.out.four S1.out
        have hn0 : 0 < n := by omega
        have hnz : ¬ (n : Int) = 0 := by omega
        have hnzb : ((n : Int) == 0) = false := by simp; omega
        clear h0
        have HOA := Lib.hid (HGA.out.all HCA.out)
        replace RA := RA.sq S1.out
        have HMI := Lib.hid (show ∀ i, i < n → (fun _ : Nat => n) i ≤ 1000 from fun _ _ => (by show n ≤ 1000; omega))
        have HP := Lib.hid (And.intro RA hB)
        clear RA hB
        go_wp2_with fail
        obtain ⟨RA, hB⟩ := HP.out
        clear HP
        refine (mdet_any 60 124 (by decide) n hn4 TA c bs ss es (xsM bs ss es) w2 (fun i j => nd_ok (HOA.out i j)) (fun i j => db_ok (HOA.out i j)) RA (tab_keep HT.out hB)).mono ?_
        rintro e w3 ⟨rfl, hbb⟩
        replace RA := RdM.below RA hbb
        replace hB := nxt hB hbb
        clear hbb
        have hbb := b1 w3 (.cells #[.bool (neg (dm (detL n (xsM bs ss es)))), .string (mag (dm (detL n (xsM bs ss es)))), .int .i64 (de (detL n (xsM bs ss es)))] 29)
        replace RA := RdM.below RA hbb
        replace hB := nxt hB hbb
        have X8 := Bx.new w3 29 #[.bool (neg (dm (detL n (xsM bs ss es)))), .string (mag (dm (detL n (xsM bs ss es)))), .int .i64 (de (detL n (xsM bs ss es)))]
        clear hbb
        have HP := Lib.hid (And.intro RA (And.intro X8 hB))
        clear RA X8 hB
        go_upto_region 5 with (fail)
        obtain ⟨RA, X8, hB⟩ := HP.out
        clear HP
        generalize w3.alloc (.cells #[.bool (neg (dm (detL n (xsM bs ss es)))), .string (mag (dm (detL n (xsM bs ss es)))), .int .i64 (de (detL n (xsM bs ss es)))] 29) = w4 at *
        generalize w3.heap.size = g4 at *
        have hnn : ¬ n = 0 := by omega
        have hI0 : (0 : Int) ≤ I % 65536 := Int.emod_nonneg _ (by decide)
        have hK0 : (0 : Int) ≤ K % 65536 := Int.emod_nonneg _ (by decide)
        obtain ⟨x, hx⟩ : ∃ x : Nat, x = ((I % 65536) % (n : Int)).toNat := ⟨_, rfl⟩
        obtain ⟨y, hy⟩ : ∃ y : Nat, y = ((K % 65536) % (n : Int)).toNat := ⟨_, rfl⟩
        have hx1 : (I % 65536) % (n : Int) = (x : Int) := by rw [hx]; have := Int.emod_nonneg (I % 65536) hnz; omega
        have hy1 : (K % 65536) % (n : Int) = (y : Int) := by rw [hy]; have := Int.emod_nonneg (K % 65536) hnz; omega
        have hxn : x < n := by have := Int.emod_lt_of_pos (I % 65536) (show (0 : Int) < (n : Int) by omega); omega
        have hyn : y < n := by have := Int.emod_lt_of_pos (K % 65536) (show (0 : Int) < (n : Int) by omega); omega
        have HXV := Lib.hid (show (I % 65536).tmod (n : Int) = (x : Int) from (Int.tmod_eq_emod_of_nonneg hI0).trans hx1)
        have HYV := Lib.hid (show (K % 65536).tmod (n : Int) = (y : Int) from (Int.tmod_eq_emod_of_nonneg hK0).trans hy1)
        have HXX := Lib.hid (And.intro hx1 hy1)
        clear hx hy hx1 hy1
        have HP := Lib.hid (And.intro RA (And.intro X8 hB))
        clear RA X8 hB
        refine wp_region_k [41, 42, 43, 44, 45, 46, 47, 48, 10, 11] [.eq (.int .i64 I), .eq (.int .i64 (I % 65536)), .eq (.int .i64 (n : Nat)), .eq (.int .i64 (x : Nat)), .eq (.int .i64 K), .eq (.int .i64 (K % 65536)), .eq (.int .i64 (n : Nat)), .eq (.int .i64 (y : Nat)), .eq (.int .i64 (x : Nat)), .eq (.int .i64 (y : Nat))] 127 (by kernel_rfl) (by exact fun _ _ _ _ _ h => h) (by kernel_rfl) (by rfl) ?hop ?htail
        case hop =>
          intro A hA
          have hN : A.tmps.size = 127 := by rw [hA]; rfl
          have q1 : A.tmps.getD 1 undef = .int .i64 I := by rw [hA]; rfl
          have q2 : A.tmps.getD 2 undef = .int .i64 K := by rw [hA]; rfl
          have q7 : A.tmps.getD 7 undef = .int .i64 (n : Nat) := by rw [hA]; rfl
          clear hA
          refine ⟨?_, ?_, ?_, ?_, ?_, ?_, ?_, ?_, ?_, ?_, trivial⟩
          · refine kok hN fun u W ev ec ef E B hG hf => ?_
            exact k_val _ rfl rfl hG (by simp [go_sem, B 1 rfl rfl q1]) rfl
          · refine kok hN fun u W ev ec ef E B hG hf => ?_
            exact k_val _ rfl rfl hG (by simp [go_sem, ec, E 41 0 rfl rfl (hf 0 rfl), i64_and16]) rfl
          · refine kok hN fun u W ev ec ef E B hG hf => ?_
            exact k_val _ rfl rfl hG (by simp [go_sem, B 7 rfl rfl q7]) rfl
          · refine kok hN fun u W ev ec ef E B hG hf => ?_
            exact k_val _ rfl rfl hG (by simp [go_sem, E 42 1 rfl rfl (hf 1 rfl), E 43 2 rfl rfl (hf 2 rfl), HXV.out, hnn]) rfl
          · refine kok hN fun u W ev ec ef E B hG hf => ?_
            exact k_val _ rfl rfl hG (by simp [go_sem, B 2 rfl rfl q2]) rfl
          · refine kok hN fun u W ev ec ef E B hG hf => ?_
            exact k_val _ rfl rfl hG (by simp [go_sem, ec, E 45 4 rfl rfl (hf 4 rfl), i64_and16]) rfl
          · refine kok hN fun u W ev ec ef E B hG hf => ?_
            exact k_val _ rfl rfl hG (by simp [go_sem, B 7 rfl rfl q7]) rfl
          · refine kok hN fun u W ev ec ef E B hG hf => ?_
            exact k_val _ rfl rfl hG (by simp [go_sem, E 46 5 rfl rfl (hf 5 rfl), E 47 6 rfl rfl (hf 6 rfl), HYV.out, hnn]) rfl
          · refine kok hN fun u W ev ec ef E B hG hf => ?_
            exact k_val _ rfl rfl hG (by simp [go_sem, E 44 3 rfl rfl (hf 3 rfl)]) rfl
          · refine kok hN fun u W ev ec ef E B hG hf => ?_
            exact k_val _ rfl rfl hG (by simp [go_sem, E 48 7 rfl rfl (hf 7 rfl)]) rfl
        case htail =>
        intro u w5 hbb hP _
        have f10 : u 8 = .int .i64 (x : Nat) := hP 8 (by decide)
        have f11 : u 9 = .int .i64 (y : Nat) := hP 9 (by decide)
        simp only [putAll, Act.put, List.setIfInBounds_toArray, List.set_cons_zero, List.set_cons_succ, List.length_cons, List.length_nil, Nat.reduceAdd, List.drop_succ_cons, List.drop_zero, f10, f11]
        obtain ⟨RA, X8, hB⟩ := HP.out
        clear HP
        replace RA := RdM.below RA hbb
        replace X8 := X8.later hbb
        replace hB := nxt hB hbb
        clear hbb hP f10 f11 hI0 hK0 HXV HYV HXX hnn
        have HP := Lib.hid (And.intro RA (And.intro X8 hB))
        clear RA X8 hB
        go_wp2_with fail
        obtain ⟨RA, X8, hB⟩ := HP.out
        clear HP
        have HRA := Lib.hid RA
        have HB0 := Lib.hid hB
        have HX8L := Lib.hid X8.lt
        refine (mown_own TA n c (fun _ => n) bs ss es w5 (by omega) HMI.out RA).mono ?_
        rintro e w6 ⟨⟨vt, rfl, OT⟩, hbb⟩
        have HOB := Lib.hid hbb
        replace RA := RdM.below RA hbb
        replace X8 := X8.later hbb
        replace hB := nxt hB hbb
        clear hbb
        obtain ⟨gt, ct, rfl⟩ := (show ∃ g c, vt = .slice (some ⟨g, 0, none⟩) n c from by obtain ⟨As, cs, h1, _⟩ := OT; exact h1.some_ hn0)
        obtain ⟨As, cs, hbt, hcell, hsw⟩ := OwnM.swap OT
        have HSW := Lib.hid (hsw x y hxn hyn)
        have hgt := (OwnT.lt OT gt rfl).2
        obtain ⟨r1, r2⟩ := hcell x hxn
        obtain ⟨r3, r4⟩ := hcell y hyn
        have hxi : (x : Int) < (n : Int) := by omega
        have hyi : (y : Int) < (n : Int) := by omega
        have hx0 : (0 : Int) ≤ (x : Int) := by omega
        have hy0 : (0 : Int) ≤ (y : Int) := by omega
        have HGT := Lib.hid (And.intro hbt hgt)
        have r5 : (w6.setCell ⟨gt, x, none⟩ (.slice (As y) n (cs y))).cell? ⟨gt, y, none⟩ = some (.slice (As y) n (cs y)) := by
          by_cases e : x = y
          · subst e; exact World.cell?_setCell_same _ _ _ r1
          · rw [World.cell?_setCell_other _ _ _ _ (by first | (simp; done) | (simp; omega))]; exact r3
        clear hcell hsw hbt hgt OT
        have HP := Lib.hid (And.intro RA (And.intro X8 hB))
        clear RA X8 hB
        go_upto_region 7 with (fail)
        go_region
        obtain ⟨RA, X8, hB⟩ := HP.out
        clear HP
        have hgb := HGT.out
        have hX8 := X8.lt
        replace X8 : Bx ((w6.setCell ⟨gt, x, none⟩ (.slice (As y) n (cs y))).setCell ⟨gt, y, none⟩ (.slice (As x) n (cs x))).drew g4 29 #[.bool (neg (dm (detL n (xsM bs ss es)))), .string (mag (dm (detL n (xsM bs ss es)))), .int .i64 (de (detL n (xsM bs ss es)))] := (X8.far2 (by have := HX8L.out; omega) _ _).drew
        have hst : Below w5.heap.size w5 ((w6.setCell ⟨gt, x, none⟩ (.slice (As y) n (cs y))).setCell ⟨gt, y, none⟩ (.slice (As x) n (cs x))).drew := (stp (HOB.out) hgb.1 _ _).drew
        replace RA := RdM.below HRA.out hst
        have hB := nxt HB0.out hst
        have RT : RdM ((w6.setCell ⟨gt, x, none⟩ (.slice (As y) n (cs y))).setCell ⟨gt, y, none⟩ (.slice (As x) n (cs x))).drew (some ⟨gt, 0, none⟩) n (fun _ => n) (fun i j => bs (swp x y i) j) (fun i j => ss (swp x y i) j) (fun i j => es (swp x y i) j) := HSW.out
        generalize ((w6.setCell ⟨gt, x, none⟩ (.slice (As y) n (cs y))).setCell ⟨gt, y, none⟩ (.slice (As x) n (cs x))).drew = w7 at *
        clear r1 r2 r3 r4 r5 hgb hX8 hst HSW HGT HX8L HOB HRA HB0
        have HP := Lib.hid (And.intro RA (And.intro X8 (And.intro RT hB)))
        clear RA X8 RT hB
        go_wp2_with fail
        obtain ⟨RA, X8, RT, hB⟩ := HP.out
        clear HP
        have hon : OwnM w7 w7.heap.size (.slice none 0 0) 0 (fun _ => n) (fun i j => bs j i) (fun i j => ss j i) (fun i j => es j i) := OwnT.nil_ _ _ _ _ _ _
        have HP := Lib.hid (And.intro RA (And.intro X8 (And.intro RT hB)))
        clear RA X8 RT hB
        go_loopw [13, 14] (fun v i wr => ∃ k : Nat, k ≤ n ∧ i = .int .i64 (k : Nat) ∧ OwnM wr w7.heap.size v k (fun _ => n) (fun i j => bs j i) (fun i j => ss j i) (fun i j => es j i) ∧ Below w7.heap.size w7 wr) (fun _ i _ => n - (RowKit.intOf i).toNat)
        case atStart => exact ⟨0, Nat.zero_le _, rfl, hon, Below.refl _ _⟩
        case round =>
          clear hon
          obtain ⟨k, hk, rfl, hown, hB⟩ := hrel
          by_cases hlt : k < n
          · have hki : (k : Int) < (n : Int) := by omega
            have hkj : (0 : Int) ≤ (k : Int) := by omega
            have HOW := Lib.hid (And.intro hown hB)
            clear hown hB
            go_wp2_with fail
            obtain ⟨wo, hwo⟩ : ∃ x, x = wr := ⟨_, rfl⟩
            subst hwo
            have hol := OwnK.nil_ wo wo.heap.size 29 3 (cel3 (fun j => bs j k) (fun j => ss j k) (fun j => es j k))
            go_loopw [15, 16] (fun v i wr => ∃ q : Nat, q ≤ n ∧ i = .int .i64 (q : Nat) ∧ OwnK wr wo.heap.size 29 3 v q (cel3 (fun j => bs j k) (fun j => ss j k) (fun j => es j k)) ∧ Below wo.heap.size wo wr) (fun _ i _ => n - (RowKit.intOf i).toNat)
            case atStart => exact ⟨0, Nat.zero_le _, rfl, hol, Below.refl _ _⟩
            case round =>
              clear hol
              obtain ⟨q, hq, rfl, hown, hB⟩ := hrel
              by_cases hlt2 : q < n
              · have hqi : (q : Int) < (n : Int) := by omega
                have hqj : (0 : Int) ≤ (q : Int) := by omega
                obtain ⟨b, off, rfl, hc⟩ := (RdM.below HP.out.1 (nxt HOW.out.2 hB)) (by omega)
                obtain ⟨Ai, ci, _, hAi, g1, hi1⟩ := hc q hlt2
                obtain ⟨bi, offi, rfl, hci⟩ := hi1.num (show 0 < n by omega)
                obtain ⟨g2, g3, g4⟩ := hci k hlt
                replace g1 : wr.cell? ⟨b, off + q, none⟩ = some (.slice (some ⟨bi, offi, none⟩) n ci) := g1
                clear hc hi1 hci
                have hO := hown.below (b1 wr (.cells #[.bool (bs q k), .string (ss q k), .int .i64 (es q k)] 29))
                have ZR := Bx.new wr 29 #[.bool (bs q k), .string (ss q k), .int .i64 (es q k)]
                have HN := Lib.hid (show ∀ j, j < 1 → ∀ i, i < 3 → (wr.alloc (.cells #[.bool (bs q k), .string (ss q k), .int .i64 (es q k)] 29)).cell? ⟨wr.heap.size, 0 + j * 3 + i, none⟩ = ((cel3 (fun j => bs (q + j) k) (fun j => ss (q + j) k) (fun j => es (q + j) k)) j)[i]? from fun j hj i hi => by
                  have hj' : j = 0 := by omega
                  have hi' : i = 0 ∨ i = 1 ∨ i = 2 := by omega
                  subst hj'
                  rcases hi' with rfl | rfl | rfl <;> simp [ZR.cel, cel3])
                have HO := Lib.hid (And.intro hO (nxtA hB (.cells #[.bool (bs q k), .string (ss q k), .int .i64 (es q k)] 29)))
                have HS2 := Lib.hid (show wo.heap.size ≤ (wr.alloc (.cells #[.bool (bs q k), .string (ss q k), .int .i64 (es q k)] 29)).heap.size by have := hB.size; simp; omega)
                have HM2 := Lib.hid (show q + 1 ≤ 9223372036854775807 ∧ (q + 1) * 32 ≤ 140737488355328 by omega)
                clear hO ZR hown hB
                go_wp2_with (at_builtin; refine wpList_appendK rfl (.tmp 75) (.tmp 83) _ rfl wo.heap.size 29 _ 3 32 Tryz.underlying38 info_Num rfl (by decide) _ q (cel3 (fun j => bs j k) (fun j => ss j k) (fun j => es j k)) rfl HO.out.1 ⟨wr.heap.size, 0, none⟩ 1 1 (cel3 (fun j => bs (q + j) k) (fun j => ss (q + j) k) (fun j => es (q + j) k)) (fun _ => rfl) (fun _ => rfl) (cel3_one _ _ _) rfl rfl HN.out HM2.out.1 HM2.out.2 HS2.out ?_; intro v' w17 ho' hb5)
                have ho2 := ho'.congr (f' := (cel3 (fun j => bs j k) (fun j => ss j k) (fun j => es j k))) (fun j hj => by
                  split
                  · rfl
                  · rename_i h
                    unfold cel3
                    dsimp only
                    rw [show q + (j - q) = j by omega])
                exact ⟨⟨q + 1, by omega, by go_num, ho2, belB HO.out.2 hb5 (Nat.le_refl _)⟩, by simp [RowKit.intOf]; omega⟩
              · obtain rfl : q = n := by omega
                have hqi : ¬ (q : Int) < (q : Int) := by omega
                obtain ⟨C, d, rfl, hnc, hrd, _, hno⟩ := OwnK.rd (k := 3) (fun _ => rfl) hown
                have hvl := OwnT.lt HOW.out.1
                have hap := hown.apart (u := u13) (fun g hg => (hvl g hg).2) rfl
                have hown5 := HOW.out.1.below hB
                have hown6 := hown5.below (b1 wr (.cells #[.slice C q d] 38))
                have hown6' : OwnT (wr.alloc (.cells #[.slice C q d] 38)) w7.heap.size 38 3 u13 k (fun _ => q) (fun i => cel3 (fun j => bs j i) (fun j => ss j i) (fun j => es j i)) := hown6
                have hrd6 := hrd.below (cel3_len _ _ _) (b1 wr (.cells #[.slice C q d] 38))
                have Z := (Bx.new wr 38 #[.slice C q d]).cel 0
                have hap6 : ∀ a, C = some a → a.block < (wr.alloc (.cells #[.slice C q d] 38)).heap.size ∧ _ := fun a ha => ⟨Nat.lt_of_lt_of_le (hap a ha).1 (by simp), (hap a ha).2⟩
                have hB7 := nxt HOW.out.2 hB
                have hsz6 : w7.heap.size ≤ (wr.alloc (.cells #[.slice C q d] 38)).heap.size := by have := hB7.size; simp; omega
                have h63 : k + 1 ≤ 9223372036854775807 := by omega
                have hby : (k + 1) * 24 ≤ 140737488355328 := by omega
                have HB7 := Lib.hid (nxtA hB7 (.cells #[.slice C q d] 38))
                clear hown hown5 hown6 hrd hap hvl hB hB7 HOW
                go_wp2_with (at_builtin; refine wpList_appendT rfl (.tmp 85) (.tmp 87) _ rfl w7.heap.size 38 (.slice none 0 0) 3 24 Tryz.underlying22 info_Nums rfl u13 k (fun _ => q) (fun i => cel3 (fun j => bs j i) (fun j => ss j i) (fun j => es j i)) (fun i j => cel3_len _ _ _ j) rfl hown6' ⟨wr.heap.size, 0, none⟩ rfl rfl C d Z hnc hno hrd6 hap6 h63 hby hsz6 ?_; intro v2 w7 ho2 hb7)
                have hB8 := belB HB7.out hb7 (Nat.le_refl _)
                exact ⟨⟨k + 1, by omega, by go_num, ho2, hB8⟩, by simp [RowKit.intOf]; omega⟩
          · obtain rfl : k = n := by omega
            have hki : ¬ (k : Int) < (k : Int) := by omega
            obtain ⟨C, dC, rfl, _, RV, _⟩ := OwnT.rd hown
            replace RV : RdM wr C k (fun _ => k) (fun i j => bs j i) (fun i j => ss j i) (fun i j => es j i) := RV
            have hbb := hB
            clear hown hB
            obtain ⟨RA, X8, RT, hB⟩ := HP.out
            clear HP
            obtain ⟨w8, hwr⟩ : ∃ x, x = wr := ⟨_, rfl⟩
            rw [← hwr] at RV hbb ⊢
            clear hwr
            replace RA := RdM.below RA hbb
            replace X8 := X8.later hbb
            replace RT := RdM.below RT hbb
            replace hB := nxt hB hbb
            clear hbb
            have HP := Lib.hid (And.intro RA (And.intro X8 (And.intro RT (And.intro RV hB))))
            clear RA X8 RT RV hB
            go_wp2_with fail
            obtain ⟨RA, X8, RT, RV, hB⟩ := HP.out
            clear HP
            refine (mdet_any 60 124 (by decide) k (by omega) (some ⟨gt, 0, none⟩) ct _ _ _ (fun i j => xsM bs ss es (swp x y i) j) w8 (fun i j => nd_ok (HOA.out _ _)) (fun i j => db_ok (HOA.out _ _)) RT (tab_keep HT.out hB)).mono ?_
            rintro e w9 ⟨rfl, hbb⟩
            replace RA := RdM.below RA hbb
            replace X8 := X8.later hbb
            replace RT := RdM.below RT hbb
            replace RV := RdM.below RV hbb
            replace hB := nxt hB hbb
            clear hbb
            clear RT
            have hB0 := hB
            have X8L := X8.lt
            have hbb := b1 w9 (.cells #[.bool (neg (dm (detL k (fun i j => xsM bs ss es (swp x y i) j)))), .string (mag (dm (detL k (fun i j => xsM bs ss es (swp x y i) j)))), .int .i64 (de (detL k (fun i j => xsM bs ss es (swp x y i) j)))] 29)
            replace RA := RdM.below RA hbb
            replace X8 := X8.later hbb
            replace RV := RdM.below RV hbb
            replace hB := nxt hB hbb
            have X17 := Bx.new w9 29 #[.bool (neg (dm (detL k (fun i j => xsM bs ss es (swp x y i) j)))), .string (mag (dm (detL k (fun i j => xsM bs ss es (swp x y i) j)))), .int .i64 (de (detL k (fun i j => xsM bs ss es (swp x y i) j)))]
            clear hbb
            have N817 := (show g4 ≠ w9.heap.size from Nat.ne_of_lt X8L)
            have NW17 := (show w.heap.size ≤ w9.heap.size from hB0.size)
            have HP := Lib.hid (And.intro RA (And.intro X8 (And.intro RV (And.intro X17 (And.intro N817 (And.intro NW17 hB))))))
            clear RA X8 RV X17 N817 NW17 hB
            go_wp2_with fail
            obtain ⟨RA, X8, RV, X17, N817, NW17, hB⟩ := HP.out
            clear HP
            generalize w9.alloc (.cells #[.bool (neg (dm (detL k (fun i j => xsM bs ss es (swp x y i) j)))), .string (mag (dm (detL k (fun i j => xsM bs ss es (swp x y i) j)))), .int .i64 (de (detL k (fun i j => xsM bs ss es (swp x y i) j)))] 29) = w10 at *
            generalize w9.heap.size = g10 at *
            refine (mdet_any 60 124 (by decide) k (by omega) C dC _ _ _ (fun i j => xsM bs ss es j i) w10 (fun i j => nd_ok (HOA.out _ _)) (fun i j => db_ok (HOA.out _ _)) RV (tab_keep HT.out hB)).mono ?_
            rintro e w11 ⟨rfl, hbb⟩
            replace RA := RdM.below RA hbb
            replace X8 := X8.later hbb
            replace RV := RdM.below RV hbb
            replace X17 := X17.later hbb
            replace hB := nxt hB hbb
            clear hbb
            clear RV RA
            rw [det_turn k (by omega) (xsM bs ss es)]
            have X17L := X17.lt
            have hbb := b1 w11 (.cells #[.bool (neg (dm (detL k (xsM bs ss es)))), .string (mag (dm (detL k (xsM bs ss es)))), .int .i64 (de (detL k (xsM bs ss es)))] 29)
            replace X8 := X8.later hbb
            replace X17 := X17.later hbb
            replace hB := nxt hB hbb
            have X19 := Bx.new w11 29 #[.bool (neg (dm (detL k (xsM bs ss es)))), .string (mag (dm (detL k (xsM bs ss es)))), .int .i64 (de (detL k (xsM bs ss es)))]
            clear hbb
            have N1917 := (show w11.heap.size ≠ g10 from Ne.symm (Nat.ne_of_lt X17L))
            have HP := Lib.hid (And.intro X8 (And.intro X17 (And.intro N817 (And.intro NW17 (And.intro X19 (And.intro N1917 hB))))))
            clear X8 X17 N817 NW17 X19 N1917 hB
            go_upto_if 101 with (fail)
            obtain ⟨X8, X17, N817, NW17, X19, N1917, hB⟩ := HP.out
            clear HP
            generalize w11.alloc (.cells #[.bool (neg (dm (detL k (xsM bs ss es)))), .string (mag (dm (detL k (xsM bs ss es)))), .int .i64 (de (detL k (xsM bs ss es)))] 29) = w12 at *
            generalize w11.heap.size = g12 at *
            have HP := Lib.hid (And.intro X8 (And.intro X17 (And.intro N817 (And.intro NW17 (And.intro X19 (And.intro N1917 hB))))))
            clear X8 X17 N817 NW17 X19 N1917 hB
            by_cases h0 : x = y
            · have hz : ((x : Int) != (y : Int)) = false := by simp [h0]
              obtain ⟨X8, X17, N817, NW17, X19, N1917, hB⟩ := HP.out
              clear HP
              subst h0
              rw [show (fun i j => xsM bs ss es (swp x x i) j) = (xsM bs ss es) from funext fun i => funext fun j => by rw [swp_self]] at X17
              obtain ⟨p1, p2, p3, _, _, _⟩ := X17.three
              obtain ⟨q1, q2, q3, _, _, _⟩ := X8.three
              obtain ⟨r1, r2, r3, _, _, _⟩ := X19.three
              have HP := Lib.hid (And.intro X8 (And.intro X17 (And.intro N817 (And.intro NW17 (And.intro X19 (And.intro N1917 hB))))))
              clear X8 X17 N817 NW17 X19 N1917 hB
              go_wp2_with fail
              obtain ⟨X8, X17, N817, NW17, X19, N1917, hB⟩ := HP.out
              clear HP
              refine (awakeM _ (tab_keep HT.out hB)).mono ?_
              rintro e w13 ⟨rfl, hbb⟩
              replace X8 := X8.later hbb
              replace X17 := X17.later hbb
              replace X19 := X19.later hbb
              replace hB := nxt hB hbb
              clear hbb
              clear p1 p2 p3 q1 q2 q3 r1 r2 r3
              have HP := Lib.hid (And.intro X8 (And.intro X17 (And.intro N817 (And.intro NW17 (And.intro X19 (And.intro N1917 hB))))))
              clear X8 X17 N817 NW17 X19 N1917 hB
              go_wp2
              go_ret
              obtain ⟨X8, X17, N817, NW17, X19, N1917, hB⟩ := HP.out
              clear HP
              exact ⟨rfl, hB⟩
            · have hz : ((x : Int) != (y : Int)) = true := by simp; omega
              have hzz : ¬ (x : Int) = (y : Int) := by omega
              have HNE := Lib.hid h0
              clear h0
              obtain ⟨X8, X17, N817, NW17, X19, N1917, hB⟩ := HP.out
              clear HP
              have hdb : DB (60 * k) ((124 + 8) * k + 1) (detL k (fun i j => xsM bs ss es (swp x y i) j)) := db_det k _ (by omega) (fun i j => db_ok (HOA.out _ _))
              have HDB := Lib.hid hdb
              clear hdb
              obtain ⟨p1, p2, p3, _, _, _⟩ := X17.three
              have HP := Lib.hid (And.intro X8 (And.intro X17 (And.intro N817 (And.intro NW17 (And.intro X19 (And.intro N1917 hB))))))
              clear X8 X17 N817 NW17 X19 N1917 hB
              go_wp2_with fail
              obtain ⟨X8, X17, N817, NW17, X19, N1917, hB⟩ := HP.out
              clear HP
              refine (dNeg_vn HDB.out (by omega) (tab_keep HT.out hB)).mono ?_
              rintro e w13 ⟨rfl, hbb⟩
              replace X8 := X8.later hbb
              replace X17 := X17.later hbb
              replace X19 := X19.later hbb
              replace hB := nxt hB hbb
              clear hbb
              clear p1 p2 p3
              rw [det_of_swp (by omega) hxn hyn HNE.out (xsM bs ss es)]
              obtain ⟨p1, p2, p3, p4, p5, p6⟩ := X17.three
              have HP := Lib.hid (And.intro X8 (And.intro X17 (And.intro N817 (And.intro NW17 (And.intro X19 (And.intro N1917 hB))))))
              clear X8 X17 N817 NW17 X19 N1917 hB
              go_upto_region 22 with (fail)
              obtain ⟨X8, X17, N817, NW17, X19, N1917, hB⟩ := HP.out
              clear HP
              clear p1 p2 p3 p4 p5 p6
              replace X8 : Bx (((w13.setCell ⟨g10, 0, none⟩ (.bool (neg (dm (detL k (xsM bs ss es)))))).setCell ⟨g10, 1, none⟩ (.string (mag (dm (detL k (xsM bs ss es)))))).setCell ⟨g10, 2, none⟩ (.int .i64 (de (detL k (xsM bs ss es))))) g4 29 #[.bool (neg (dm (detL k (xsM bs ss es)))), .string (mag (dm (detL k (xsM bs ss es)))), .int .i64 (de (detL k (xsM bs ss es)))] := X8.far3 N817 _ _ _
              replace X19 : Bx (((w13.setCell ⟨g10, 0, none⟩ (.bool (neg (dm (detL k (xsM bs ss es)))))).setCell ⟨g10, 1, none⟩ (.string (mag (dm (detL k (xsM bs ss es)))))).setCell ⟨g10, 2, none⟩ (.int .i64 (de (detL k (xsM bs ss es))))) g12 29 #[.bool (neg (dm (detL k (xsM bs ss es)))), .string (mag (dm (detL k (xsM bs ss es)))), .int .i64 (de (detL k (xsM bs ss es)))] := X19.far3 N1917 _ _ _
              replace X17 : Bx (((w13.setCell ⟨g10, 0, none⟩ (.bool (neg (dm (detL k (xsM bs ss es)))))).setCell ⟨g10, 1, none⟩ (.string (mag (dm (detL k (xsM bs ss es)))))).setCell ⟨g10, 2, none⟩ (.int .i64 (de (detL k (xsM bs ss es))))) g10 29 #[.bool (neg (dm (detL k (xsM bs ss es)))), .string (mag (dm (detL k (xsM bs ss es)))), .int .i64 (de (detL k (xsM bs ss es)))] := X17.set3 _ _ _
              replace hB : Below w.heap.size w (((w13.setCell ⟨g10, 0, none⟩ (.bool (neg (dm (detL k (xsM bs ss es)))))).setCell ⟨g10, 1, none⟩ (.string (mag (dm (detL k (xsM bs ss es)))))).setCell ⟨g10, 2, none⟩ (.int .i64 (de (detL k (xsM bs ss es))))) := st3 hB NW17 _ _ _
              generalize (((w13.setCell ⟨g10, 0, none⟩ (.bool (neg (dm (detL k (xsM bs ss es)))))).setCell ⟨g10, 1, none⟩ (.string (mag (dm (detL k (xsM bs ss es)))))).setCell ⟨g10, 2, none⟩ (.int .i64 (de (detL k (xsM bs ss es))))) = w14 at *
              obtain ⟨p1, p2, p3, _, _, _⟩ := X17.three
              obtain ⟨q1, q2, q3, _, _, _⟩ := X8.three
              obtain ⟨r1, r2, r3, _, _, _⟩ := X19.three
              have HP := Lib.hid (And.intro X8 (And.intro X17 (And.intro N817 (And.intro NW17 (And.intro X19 (And.intro N1917 hB))))))
              clear X8 X17 N817 NW17 X19 N1917 hB
              go_wp2_with fail
              obtain ⟨X8, X17, N817, NW17, X19, N1917, hB⟩ := HP.out
              clear HP
              refine (awakeM _ (tab_keep HT.out hB)).mono ?_
              rintro e w15 ⟨rfl, hbb⟩
              replace X8 := X8.later hbb
              replace X17 := X17.later hbb
              replace X19 := X19.later hbb
              replace hB := nxt hB hbb
              clear hbb
              clear p1 p2 p3 q1 q2 q3 r1 r2 r3
              have HP := Lib.hid (And.intro X8 (And.intro X17 (And.intro N817 (And.intro NW17 (And.intro X19 (And.intro N1917 hB))))))
              clear X8 X17 N817 NW17 X19 N1917 hB
              go_wp2
              go_ret
              obtain ⟨X8, X17, N817, NW17, X19, N1917, hB⟩ := HP.out
              clear HP
              exact ⟨rfl, hB⟩
    · have S1 := Lib.hid h0
      obtain rfl := h2 h0
      clear h0 h1 h2
      have HP := Lib.hid (And.intro RA hB)
      clear RA hB
      go_wp2_with fail
      obtain ⟨RA, hB⟩ := HP.out
      clear HP
      refine (awakeM _ (tab_keep HT.out hB)).mono ?_
      rintro e w3 ⟨rfl, hbb⟩
      replace RA := RdM.below RA hbb
      replace hB := nxt hB hbb
      clear hbb
      have HP := Lib.hid (And.intro RA hB)
      clear RA hB
      go_wp2
      go_ret
      obtain ⟨RA, hB⟩ := HP.out
      clear HP
      exact ⟨rfl, hB⟩
  · obtain rfl := hg2 hg
    clear hg1 hg2 hg
    have HP := Lib.hid (And.intro RA hB)
    clear RA hB
    go_wp2_with fail
    obtain ⟨RA, hB⟩ := HP.out
    clear HP
    refine (awakeM _ (tab_keep HT.out hB)).mono ?_
    rintro e w2 ⟨rfl, hbb⟩
    replace RA := RdM.below RA hbb
    replace hB := nxt hB hbb
    clear hbb
    have HP := Lib.hid (And.intro RA hB)
    clear RA hB
    go_wp2
    go_ret
    obtain ⟨RA, hB⟩ := HP.out
    clear HP
    exact ⟨rfl, hB⟩
theorem matTurns_any (A : Option Addr) (n c : Nat) (ms : Nat → Nat) (bs : Nat → Nat → Bool) (ss : Nat → Nat → ByteArray) (es : Nat → Nat → Int) (I K : Int) (w : World) (hn : n ≤ c) (hc : c ≤ maxLen) (hm : ∀ i, i < n → ms i ≤ maxLen) (hr : RdM w A n ms bs ss es) (hT : TabAt 0 Lib.deBruijn64tab w) :
    Calls Tryz.prog 4 #[.slice A n c, .int .i64 I, .int .i64 K] w fun r w' => r = .returned (.bool true) ∧ Below w.heap.size w w' := by
  obtain ⟨_, _, _, h1, h2⟩ := hr.clean
  unfold maxLen at hc hm
  exact matTurns_x A n c ms _ _ _ I K w (by omega) (fun i hi => Nat.le_trans (hm i hi) (by decide)) h1 h2 hT
end Go.Proofs.YtibbhpgpleeglaaGreatDoor

