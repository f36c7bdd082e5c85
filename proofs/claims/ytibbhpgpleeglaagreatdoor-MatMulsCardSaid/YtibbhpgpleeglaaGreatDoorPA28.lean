/- The walks and plain laws beneath the statements. -/
import Derived.Test.YtibbhpgpleeglaaGreatDoorPA23
import Derived.Test.YtibbhpgpleeglaaGreatDoorPA22
import Derived.Test.YtibbhpgpleeglaaGreatDoorPA14
namespace Go.Proofs.YtibbhpgpleeglaaGreatDoor
open Go.RowKit

theorem dgt_zero_mod (B v : Nat) : dgt B v 0 = v % B := by unfold dgt; rw [Nat.pow_zero, Nat.div_one]
theorem nd8_mul (u : Nat) (h : u ≠ 0) : nd 8 (u * 256) = nd 8 u + 1 := by
  refine nd_eq (k := 8) (by decide) ?_ (fun _ => ?_)
  · rw [Nat.pow_succ]
    exact Nat.mul_lt_mul_of_pos_right (nd_lt (k := 8) (by decide) u) (by decide)
  · have h1 := nd_le (k := 8) u h
    have h2 := nd_pos (k := 8) h
    rw [show nd 8 u + 1 - 1 = (nd 8 u - 1) + 1 by omega, Nat.pow_succ]
    exact Nat.mul_le_mul_right _ h1
theorem nbytes_mul (u : Nat) (h : u ≠ 0) : nbytes (u * 256) = nbytes u ++ [0] := by
  apply List.ext_getElem
  · rw [List.length_append, nbytes_length, nbytes_length, nd8_mul u h]; rfl
  · intro i h1 h2
    rw [nbytes_length, nd8_mul u h] at h1
    by_cases hi : i < nd 8 u
    · rw [List.getElem_append_left (by rw [nbytes_length]; exact hi)]
      simp only [nbytes, List.getElem_map, List.getElem_range]
      rw [nd8_mul u h]
      have e := dgt_mul_pow_ge 256 u 1 (nd 8 u - 1 - i) (by decide)
      rw [Nat.pow_one, Nat.mul_comm] at e
      rw [show nd 8 u + 1 - 1 - i = 1 + (nd 8 u - 1 - i) by omega, e]
    · have hi' : i = nd 8 u := by omega
      subst hi'
      rw [List.getElem_append_right (by rw [nbytes_length]; exact Nat.le_refl _)]
      simp only [nbytes, List.getElem_map, List.getElem_range]
      rw [nd8_mul u h, show nd 8 u + 1 - 1 - nd 8 u = 0 by omega, dgt_zero_mod]
      simp
theorem nstr_chop (u : Nat) (h : u ≠ 0) : (nstr (u * 256)).extract 0 ((nstr (u * 256)).size - 1) = nstr u := by
  rw [nstr_size, nd8_mul u h, Nat.add_sub_cancel]
  apply ByteArray.ext
  rw [ByteArray.data_extract]
  show (nbytes (u * 256)).toArray.extract 0 (nd 8 u) = (nbytes u).toArray
  rw [nbytes_mul u h]
  have e := nbytes_length u
  rw [← e]
  simp
theorem last_byte (v : Nat) (h : v ≠ 0) (hl : (nstr v).size - 1 < (nstr v).data.toList.length) : ((nstr v).data.toList[(nstr v).size - 1]'hl).toNat = v % 256 := by
  have h1 : 0 < (nbytes v).length := by rw [nbytes_length]; exact nd_pos h
  have h2 := dgt_bval (nbytes v) 0 h1
  rw [bval_nbytes, dgt_zero_mod] at h2
  rw [h2]
  congr 2

set_option maxRecDepth 100000 in
set_option maxHeartbeats 1000000 in
theorem rMake_some (s : ByteArray) (b : Bool) (e z0 : Int) (D : Dyadic) (S : Nat) (w : World) (hz : z0 ≠ 0) (hD : dy z0 e = D) (hS0 : bsz z0 ≤ S) (hS : S ≤ 8388608) (he1 : -1152921504606846976 ≤ e) (heD : de D ≤ 1152921504606846976)
    (cF : Hid (∀ W : World, Calls Tryz.prog 67 #[.agg #[.bool b, .string s]] W fun r w' => r = .returned (.agg #[.bool (neg (z0)), .string (mag (z0))]) ∧ Below W.heap.size W w'))
    (cO : Hid (∀ W : World, Calls Tryz.prog 44 #[.int .i64 2] W fun r w' => r = .returned (.agg #[.bool (neg (2)), .string (mag (2))]) ∧ Below W.heap.size W w'))
    (cD0 : Hid (∀ z, bsz z ≤ S → ∀ W : World, Calls Tryz.prog 68 #[.agg #[.bool (neg (z)), .string (mag (z))], .agg #[.bool (neg (2)), .string (mag (2))]] W fun r w' => r = .returned (.tuple #[.agg #[.bool (neg (z / 2)), .string (mag (z / 2))], .agg #[.bool (neg (z % 2)), .string (mag (z % 2))], .bool true]) ∧ Below W.heap.size W w'))    :
    Calls Tryz.prog 43 #[.agg #[.bool b, .string s], .int .i64 e] w fun r w' => r = .returned (.agg #[.bool (neg (dm (D))), .string (mag (dm (D))), .int .i64 (de (D))]) ∧ Below w.heap.size w w' := by
  have HD := Lib.hid hD
  have hde : ∀ z e1, z ≠ 0 → dy z e1 = D → e1 ≤ de D := fun z e1 h0 h => by
    have := (dm_dy e1 h0).2
    rw [h] at this; omega
  have HDE := Lib.hid hde
  have hm : (mag z0).toList.isEmpty = false := mag_full hz
  clear hD hde
  go_enter Tryz.func43, Tryz.ntmps43
  go_upto_region 1 with (fail)
  have X1 := (Bx.new w 27 #[.bool b, .string s]).alloc (.cells #[.bool false, .string ⟨#[]⟩, .int .i64 0] 29)
  have X2 := Bx.at1 w (.cells #[.bool b, .string s] 27) 29 #[.bool false, .string ⟨#[]⟩, .int .i64 0]
  have hB := b2 w (.cells #[.bool b, .string s] 27) (.cells #[.bool false, .string ⟨#[]⟩, .int .i64 0] 29)
  generalize (w.alloc (.cells #[.bool b, .string s] 27)).alloc (.cells #[.bool false, .string ⟨#[]⟩, .int .i64 0] 29) = w0 at *
  have hl0 := X1.lt
  have hl1 := X2.lt
  obtain ⟨p1, p2, p3, p4⟩ := X1.two
  go_wp2_with fail
  refine (cF.out _).mono ?_
  rintro e w1 ⟨rfl, hb⟩
  replace X1 := X1.later hb
  replace X2 := X2.later hb
  replace hB := nxt hB hb
  clear hb p1 p2 p3 p4
  obtain ⟨p1, p2, p3, p4⟩ := X1.two
  have hne : w.heap.size + 1 ≠ w.heap.size := by omega
  have Y1 := X1.set2 (.bool (neg (z0))) (.string (mag (z0)))
  have Y2 := Bx.far2 (i := 0) (j := 1) X2 hne (.bool (neg (z0))) (.string (mag (z0)))
  have hB2 := st2 hB (Nat.le_refl _) (.bool (neg (z0))) (.string (mag (z0)))
  obtain ⟨q1, q2, q3, q4⟩ := Y1.two
  have HK := Lib.hid (And.intro Y1 (And.intro Y2 hB2))
  clear X1 X2 Y1 Y2 hB hB2 hne
  go_wp2_with fail
  obtain ⟨Y1, Y2, hB⟩ := HK.out
  clear HK p1 p2 p3 p4 q1 q2 q3 q4 hm
  generalize (w1.setCell ⟨w.heap.size, 0, none⟩ (.bool (neg (z0)))).setCell ⟨w.heap.size, 1, none⟩ (.string (mag (z0))) = w2 at *
  go_loopw [1] (fun ev wr => ∃ z e1 : Int, z ≠ 0 ∧ ev = .int .i64 e1 ∧ dy z e1 = D ∧ e ≤ e1 ∧ bsz z ≤ S ∧ Bx wr w.heap.size 27 #[.bool (neg (z)), .string (mag (z))] ∧ Bx wr (w.heap.size + 1) 29 #[.bool false, .string ⟨#[]⟩, .int .i64 0] ∧ Below w.heap.size w wr) (fun ev _ => (de D - intOf ev).toNat)
  case atStart => exact ⟨z0, e, hz, rfl, HD.out, Int.le_refl _, hS0, Y1, Y2, hB⟩
  case round =>
    obtain ⟨z, e1, h0, rfl, hD1, hle, hS1, Y1, Y2, hB2⟩ := hrel
    have hb1 := HDE.out z e1 h0 hD1
    have hv0 : z.natAbs ≠ 0 := by omega
    have hsz : (mag z).size = bsz z := mag_size z
    have hpos : 0 < bsz z := nd_pos (k := 8) hv0
    obtain ⟨d, hd⟩ : ∃ d : Int, d = ((z.natAbs % 256 : Nat) : Int) := ⟨_, rfl⟩
    have hd2 : d < 256 := by omega
    have hd3 : 0 ≤ d := by omega
    have hidx : ∀ W, (Instr.index 9 (.string (mag z)) (.int .i64 (((mag z).size : Int) - 1))).run Tryz.prog W = .ok (.int .u8 d) W := fun W => by
      rw [run_index_at (mag z) Tryz.underlying9 .i64 _ ((mag z).size - 1) (by omega) (by omega)]
      rw [hd]
      congr 3
      exact last_byte z.natAbs hv0 _
    have hge : (1 : Int) ≤ ((mag z).size : Int) := by omega
    have hlb : ((mag z).size : Int) ≤ 536870912 := by omega
    clear hsz
    obtain ⟨p1, p2, p3, p4⟩ := Y1.two

    by_cases hd0 : d = 0
    · obtain ⟨z', hz'⟩ : ∃ z', z' = z / 256 := ⟨_, rfl⟩
      have ez : z = z' * 256 := by omega
      have hz0' : z' ≠ 0 := by omega
      have hch : (mag z).extract 0 ((mag z).size - 1) = mag z' := by
        have e2 : z.natAbs = z'.natAbs * 256 := by omega
        unfold mag
        rw [e2]
        exact nstr_chop _ (by omega)
      have hn : neg z = neg z' := by unfold neg; congr 1; apply propext; omega
      have hD2 : dy z' (e1 + 8) = D := by
        rw [← hD1, ez]
        have := dy_shl z' e1 8
        exact this.symm
      have hS2 : bsz z' ≤ S := Nat.le_trans (bsz_natAbs_le (by omega)) hS1
      have hb2 := HDE.out z' (e1 + 8) hz0' hD2
      have HK := Lib.hid (And.intro hD2 (And.intro hS2 (And.intro hn (And.intro Y1 (And.intro Y2 (And.intro hB2 (And.intro hz0' (And.intro hch (And.intro hle (And.intro hb1 hb2))))))))))
      clear ez hz0' hn hD2 hS2 Y1 Y2 hB2 hD1 hz' hS1 hd hch hb2
      go_wp2
      obtain ⟨hD2, hS2, hn, Y1, Y2, hB2, hz0', hch, hle, hb1, hb2⟩ := HK.out
      rw [hch]
      refine ⟨⟨z', e1 + 8, hz0', rfl, hD2, by omega, hS2, ?_, Y2.far (p := ⟨w.heap.size, 1, none⟩) (by simp) _, hB2.setCell (Nat.le_refl _) _⟩, by simp only [intOf]; omega⟩
      have := Y1.set 1 (.string (mag z'))
      rw [← hn]; exact this
    · have HK := Lib.hid (And.intro Y1 (And.intro Y2 (And.intro hB2 (And.intro hD1 (And.intro hle (And.intro hS1 (And.intro h0 hb1)))))))
      clear Y1 Y2 hB2 hD1 hle hS1 h0 hb1 hd hv0 hpos
      go_wp2_with fail
      go_loopw [1] (fun ev wr => ∃ z e1 : Int, z ≠ 0 ∧ ev = .int .i64 e1 ∧ dy z e1 = D ∧ e ≤ e1 ∧ bsz z ≤ S ∧ Bx wr w.heap.size 27 #[.bool (neg (z)), .string (mag (z))] ∧ Bx wr (w.heap.size + 1) 29 #[.bool false, .string ⟨#[]⟩, .int .i64 0] ∧ Below w.heap.size w wr) (fun ev _ => (de D - intOf ev).toNat)
      case atStart =>
        obtain ⟨Y1, Y2, hB2, hD1, hle, hS1, h0, hb1⟩ := HK.out
        exact ⟨z, e1, h0, rfl, hD1, hle, hS1, Y1, Y2, hB2⟩
      case round =>
        clear HK
        obtain ⟨z, e1, h0, rfl, hD1, hle, hS1, Y1, Y2, hB2⟩ := hrel
        have hb1 := HDE.out z e1 h0 hD1
        have hv0 : z.natAbs ≠ 0 := by omega
        have hsz : (mag z).size = bsz z := mag_size z
        have hpos : 0 < bsz z := nd_pos (k := 8) hv0
        obtain ⟨d, hd⟩ : ∃ d : Int, d = ((z.natAbs % 256 : Nat) : Int) := ⟨_, rfl⟩
        have hd2 : d < 256 := by omega
        have hd3 : 0 ≤ d := by omega
        have hidx : ∀ W, (Instr.index 9 (.string (mag z)) (.int .i64 (((mag z).size : Int) - 1))).run Tryz.prog W = .ok (.int .u8 d) W := fun W => by
          rw [run_index_at (mag z) Tryz.underlying9 .i64 _ ((mag z).size - 1) (by omega) (by omega)]
          rw [hd]
          congr 3
          exact last_byte z.natAbs hv0 _
        have hge : (1 : Int) ≤ ((mag z).size : Int) := by omega
        have hlb : ((mag z).size : Int) ≤ 536870912 := by omega
        clear hsz
        obtain ⟨p1, p2, p3, p4⟩ := Y1.two
        by_cases hd1 : d % 2 = 0
        · have cD := Lib.hid (cD0.out z hS1)
          obtain ⟨z2, hz2⟩ : ∃ z2, z2 = z / 2 := ⟨_, rfl⟩
          obtain ⟨r2, hr2⟩ : ∃ r2, r2 = z % 2 := ⟨_, rfl⟩
          rw [← hz2, ← hr2] at cD
          have ez : z = z2 * 2 := by omega
          have hz0' : z2 ≠ 0 := by omega
          have hD2 : dy z2 (e1 + 1) = D := by
            rw [← hD1, ez]
            have := dy_shl z2 e1 1
            exact this.symm
          have hS2 : bsz z2 ≤ S := Nat.le_trans (bsz_natAbs_le (by omega)) hS1
          have hb2 := HDE.out z2 (e1 + 1) hz0' hD2
          have HL := Lib.hid (And.intro hD2 (And.intro hS2 (And.intro Y1 (And.intro Y2 (And.intro hB2 (And.intro hz0' (And.intro hle (And.intro hb1 hb2))))))))
          clear ez hz0' hD2 hS2 Y1 Y2 hB2 hD1 hS1 hd hz2 hr2 hv0 hpos
          go_wp2_with fail
          obtain ⟨hD2, hS2, Y1, Y2, hB2, hz0', hle, hb1, hb2⟩ := HL.out
          refine wp_region_kl [39, 40, 41, 38, 42, 43, 44] [.eq (.agg #[.bool (neg (z)), .string (mag (z))]), .eq (.agg #[.bool (neg (2)), .string (mag (2))]), .eq (.tuple #[.agg #[.bool (neg (z2)), .string (mag (z2))], .agg #[.bool (neg (r2)), .string (mag (r2))], .bool true]), .eq (.tuple #[.agg #[.bool (neg (z2)), .string (mag (z2))], .agg #[.bool (neg (r2)), .string (mag (r2))], .bool true]), .eq (.agg #[.bool (neg (z2)), .string (mag (z2))]), .eq (.agg #[.bool (neg (r2)), .string (mag (r2))]), .eq (.bool true)] [5, 6] 50 (by kernel_rfl) (by exact fun _ _ _ _ _ h => h) (by kernel_rfl) (by rfl) ?hop ?hlate ?htail
          case hop =>
            intro A hA
            have hN : A.tmps.size = 50 := by rw [hA]; rfl
            have q2 : A.tmps.getD 2 undef = .pointer (some ⟨w.heap.size, 0, none⟩) := by rw [hA]; rfl
            clear hA
            refine ⟨?_, ?_, ?_, ?_, ?_, ?_, ?_, trivial⟩
            · refine kok hN fun u W ev ec ef E B hG hf => ?_
              exact k_val _ rfl rfl hG (by simp [go_sem, B 2 rfl rfl q2, (Y1.later hG).cel]) rfl
            · refine kok hN fun u W ev ec ef E B hG hf => ?_
              exact k_cl rfl rfl (by simp [go_sem, ec, ef]) (cO.out W) hG (fun _ _ => rfl)
            · refine kok hN fun u W ev ec ef E B hG hf => ?_
              exact k_cl rfl rfl (by simp [go_sem, ef, E 39 0 rfl rfl (hf 0 rfl), E 40 1 rfl rfl (hf 1 rfl)]) (cD.out W) hG (fun _ _ => rfl)
            · refine kok hN fun u W ev ec ef E B hG hf => ?_
              exact k_val _ rfl rfl hG (by simp [go_sem, E 41 2 rfl rfl (hf 2 rfl)]) rfl
            · refine kok hN fun u W ev ec ef E B hG hf => ?_
              exact k_val _ rfl rfl hG (by simp [go_sem, E 38 3 rfl rfl (hf 3 rfl)]) rfl
            · refine kok hN fun u W ev ec ef E B hG hf => ?_
              exact k_val _ rfl rfl hG (by simp [go_sem, E 38 3 rfl rfl (hf 3 rfl)]) rfl
            · refine kok hN fun u W ev ec ef E B hG hf => ?_
              exact k_val _ rfl rfl hG (by simp [go_sem, E 38 3 rfl rfl (hf 3 rfl)]) rfl
          case hlate =>
            intro A hA
            have hN : A.tmps.size = 50 := by rw [hA]; rfl
            clear hA
            refine ⟨trivial, trivial, trivial, trivial, trivial, ⟨rfl, ?_⟩, ⟨rfl, ?_⟩, trivial⟩
            · intro u W hf
              have e38 := frm_head (a := A) (ds := [39, 40, 41, 38, 42, 43, 44]) (u := u) (k := 38) (i := 3) (by rw [hN]; decide) rfl (hf 3 (by decide))
              generalize (frm A [39, 40, 41, 38, 42, 43, 44] u).eval = ev at *
              exact ⟨_, rfl, fun w => (by simp [go_sem, e38]), rfl⟩
            · intro u W hf
              have e38 := frm_head (a := A) (ds := [39, 40, 41, 38, 42, 43, 44]) (u := u) (k := 38) (i := 3) (by rw [hN]; decide) rfl (hf 3 (by decide))
              generalize (frm A [39, 40, 41, 38, 42, 43, 44] u).eval = ev at *
              exact ⟨_, rfl, fun w => (by simp [go_sem, e38]), rfl⟩
          case htail =>
            intro u w' hG hP hD
            have f42 : u 4 = .agg #[.bool (neg (z2)), .string (mag (z2))] := hP 4 (by decide)
            simp only [putAll, Act.put, List.setIfInBounds_toArray, List.set_cons_zero, List.set_cons_succ, List.length_cons, List.length_nil, Nat.reduceAdd, List.drop_succ_cons, List.drop_zero, f42]
            replace Y1 := Y1.later hG
            replace Y2 := Y2.later hG
            replace hB2 := nxt hB2 hG
            obtain ⟨q1, q2, q3, q4⟩ := Y1.two
            have HM := Lib.hid (And.intro Y1 (And.intro Y2 hB2))
            clear hP hD hG f42 Y1 Y2 hB2
            go_wp2
            obtain ⟨Y1, Y2, hB2⟩ := HM.out
            exact ⟨⟨z2, e1 + 1, hz0', rfl, hD2, by omega, hS2, Y1.set2 _ _, Bx.far2 Y2 (by simp) _ _, st2 hB2 (Nat.le_refl _) _ _⟩, by simp only [intOf]; omega⟩
        · have hodd : z % 2 = 1 := by omega
          have hfin := dy_of_odd e1 hodd
          rw [hD1] at hfin
          have HF := Lib.hid hfin
          obtain ⟨q1, q2, q5, q3, q4, q6⟩ := Y2.three
          have HY := Lib.hid (And.intro Y2 hB2)
          clear hd hodd hfin Y2 hB2 hD1 hv0 hpos hS1 h0 Y1
          go_wp2_with fail
          obtain ⟨Y2, hB2⟩ := HY.out
          rw [HF.out.1, HF.out.2]
          exact bodyPost_ret (v := .agg #[.bool (neg z), .string (mag z), .int .i64 e1]) (by simp [results, Tryz.results43, go_sem, (Y2.set3 _ _ _).cel]) rfl ⟨rfl, st3 hB2 (Nat.le_add_right _ 1) _ _ _⟩

set_option maxRecDepth 100000 in
set_option maxHeartbeats 1000000 in
theorem rMake_zero (s : ByteArray) (b : Bool) (e : Int) (w : World)
    (cF : Hid (∀ W : World, Calls Tryz.prog 67 #[.agg #[.bool b, .string s]] W fun r w' => r = .returned (.agg #[.bool false, .string ⟨#[]⟩]) ∧ Below W.heap.size W w'))
    :
    Calls Tryz.prog 43 #[.agg #[.bool b, .string s], .int .i64 e] w fun r w' => r = .returned (.agg #[.bool false, .string ⟨#[]⟩, .int .i64 0]) ∧ Below w.heap.size w w' := by
  go_enter Tryz.func43, Tryz.ntmps43
  go_upto_region 1 with (fail)
  have X1 := (Bx.new w 27 #[.bool b, .string s]).alloc (.cells #[.bool false, .string ⟨#[]⟩, .int .i64 0] 29)
  have X2 := Bx.at1 w (.cells #[.bool b, .string s] 27) 29 #[.bool false, .string ⟨#[]⟩, .int .i64 0]
  have hB := b2 w (.cells #[.bool b, .string s] 27) (.cells #[.bool false, .string ⟨#[]⟩, .int .i64 0] 29)
  generalize (w.alloc (.cells #[.bool b, .string s] 27)).alloc (.cells #[.bool false, .string ⟨#[]⟩, .int .i64 0] 29) = w0 at *
  have hl0 := X1.lt
  have hl1 := X2.lt
  obtain ⟨p1, p2, p3, p4⟩ := X1.two
  obtain ⟨q1, q2, q5, q3, q4, q6⟩ := X2.three
  go_wp2_with fail
  refine (cF.out _).mono ?_
  rintro e w1 ⟨rfl, hb⟩
  replace X1 := X1.later hb
  replace X2 := X2.later hb
  replace hB := nxt hB hb
  clear hb p1 p2 p3 p4 q1 q2 q5 q3 q4 q6
  obtain ⟨p1, p2, p3, p4⟩ := X1.two
  have hne : w.heap.size + 1 ≠ w.heap.size := by omega
  have Y1 := X1.set2 (.bool false) (.string ⟨#[]⟩)
  have Y2 := Bx.far2 (i := 0) (j := 1) X2 hne (.bool false) (.string ⟨#[]⟩)
  have HB := Lib.hid (And.intro Y2 (st2 hB (Nat.le_refl _) (.bool false) (.string ⟨#[]⟩)))
  obtain ⟨r1, r2, r3, r4⟩ := Y1.two
  obtain ⟨q1, q2, q5, q3, q4, q6⟩ := Y2.three
  clear X1 X2 Y1 Y2 hB hne
  go_wp2_with fail
  obtain ⟨Y2, hB⟩ := HB.out
  exact bodyPost_ret (v := .agg #[.bool false, .string ⟨#[]⟩, .int .i64 0]) (by simp [results, Tryz.results43, go_sem, (Y2.set3 _ _ _).cel]) rfl ⟨rfl, st3 hB (Nat.le_add_right _ 1) _ _ _⟩
theorem rMake_any (s : ByteArray) (b : Bool) (e : Int) (w : World) (hs : s.size ≤ 8388608) (he1 : -1073741824 ≤ e) (he2 : e ≤ 4611686018427387 ) :
    Calls Tryz.prog 43 #[.agg #[.bool b, .string s], .int .i64 e] w fun r w' => r = .returned (.agg #[.bool (neg (dm (dy (ival b (sval s)) e))), .string (mag (dm (dy (ival b (sval s)) e))), .int .i64 (de (dy (ival b (sval s)) e))]) ∧ Below w.heap.size w w' := by
  have cF := Lib.hid (fun W => rForm_any s b W (by omega))
  have hb := bsz_ival b s
  by_cases hz : ival b (sval s) = 0
  · rw [hz, dy_zero]
    rw [hz] at cF
    exact rMake_zero s b e w cF
  · have heD := (dm_dy e hz).2
    have ht := tz_size (s := s) (fun h0 => hz (by rw [h0, ival_zero]))
    rw [ival_natAbs] at heD
    refine rMake_some s b e _ _ s.size w hz rfl hb hs (by omega) (by omega) cF (Lib.hid fun W => rWOf_any 2 W (by decide) (by decide)) (Lib.hid fun z hzS W => ?_)
    have c := rWDiv_any (mag z) (mag 2) (neg z) (neg 2) W (by rw [mag_size]; omega) (by decide)
    rw [ival_mk, ival_mk] at c
    rwa [if_neg (by rw [sval_mag]; decide)] at c

end Go.Proofs.YtibbhpgpleeglaaGreatDoor

namespace Go.Proofs.YtibbhpgpleeglaaGreatDoor
open Go.RowKit

set_option maxRecDepth 100000 in
set_option maxHeartbeats 1000000 in
theorem rdForm_x (s : ByteArray) (b : Bool) (e : Int) (x : Dyadic) (w : World)
    (cM : Hid (∀ W : World, Calls Tryz.prog 43 #[.agg #[.bool b, .string s], .int .i64 e] W fun r w' => r = .returned (.agg #[.bool (neg (dm (x))), .string (mag (dm (x))), .int .i64 (de (x))]) ∧ Below W.heap.size W w'))
    :
    Calls Tryz.prog 59 #[.agg #[.bool b, .string s, .int .i64 e]] w fun r w' => r = .returned (.agg #[.bool (neg (dm (x))), .string (mag (dm (x))), .int .i64 (de (x))]) ∧ Below w.heap.size w w' := by
  go_enter Tryz.func59, Tryz.ntmps59
  go_upto_region 1 with (fail)
  have X1 := (Bx.new w 29 #[.bool b, .string s, .int .i64 e]).alloc (.cells #[.bool false, .string ⟨#[]⟩, .int .i64 0] 29)
  have X2 := Bx.at1 w (.cells #[.bool b, .string s, .int .i64 e] 29) 29 #[.bool false, .string ⟨#[]⟩, .int .i64 0]
  have hB := b2 w (.cells #[.bool b, .string s, .int .i64 e] 29) (.cells #[.bool false, .string ⟨#[]⟩, .int .i64 0] 29)
  generalize (w.alloc (.cells #[.bool b, .string s, .int .i64 e] 29)).alloc (.cells #[.bool false, .string ⟨#[]⟩, .int .i64 0] 29) = w0 at *
  have hl0 := X1.lt
  have hl1 := X2.lt
  obtain ⟨p1, p2, p5, p3, p4, p6⟩ := X1.three
  obtain ⟨q1, q2, q5, q3, q4, q6⟩ := X2.three
  go_wp2_with fail
  refine (cM.out _).mono ?_
  rintro e w1 ⟨rfl, hb⟩
  replace X1 := X1.later hb
  replace X2 := X2.later hb
  replace hB := nxt hB hb
  clear hb
  clear p1 p2 p3 p4 p5 p6 q1 q2 q3 q4 q5 q6
  obtain ⟨p1, p2, p5, p3, p4, p6⟩ := X1.three
  obtain ⟨q1, q2, q5, q3, q4, q6⟩ := X2.three
  go_wp2_with fail
  exact bodyPost_ret (v := .agg #[.bool (neg (dm (x))), .string (mag (dm (x))), .int .i64 (de (x))]) (by simp [results, Tryz.results59, go_sem, (X2.set3 _ _ _).cel]) rfl ⟨rfl, st3 hB (Nat.le_add_right _ 1) _ _ _⟩
theorem rdForm_any (s : ByteArray) (b : Bool) (e : Int) (w : World) (hs : s.size ≤ 8388608) (he1 : -1073741824 ≤ e) (he2 : e ≤ 4611686018427387) :
    Calls Tryz.prog 59 #[.agg #[.bool b, .string s, .int .i64 e]] w fun r w' => r = .returned (.agg #[.bool (neg (dm (dy (ival b (sval s)) e))), .string (mag (dm (dy (ival b (sval s)) e))), .int .i64 (de (dy (ival b (sval s)) e))]) ∧ Below w.heap.size w w' := by
  exact rdForm_x s b e _ w (Lib.hid fun W => rMake_any s b e W hs he1 he2)

set_option maxRecDepth 100000 in
set_option maxHeartbeats 1000000 in
theorem rdSign_any (s : ByteArray) (b : Bool) (e : Int) (w : World) (hs : s.size ≤ 8388608) :
    Calls Tryz.prog 60 #[.agg #[.bool b, .string s, .int .i64 e]] w fun r w' => r = .returned (.int .i64 (dsgn (dy (ival b (sval s)) e))) ∧ Below w.heap.size w w' := by
  rw [dsgn_dy]
  have cG := Lib.hid (fun W => rWSign_any s b W (by omega))
  generalize sgn (ival b (sval s)) = g at *
  go_enter Tryz.func60, Tryz.ntmps60
  go_upto_region 1 with (fail)
  have X1 := Bx.new w 29 #[.bool b, .string s, .int .i64 e]
  have hB := b1 w (.cells #[.bool b, .string s, .int .i64 e] 29)
  generalize w.alloc (.cells #[.bool b, .string s, .int .i64 e] 29) = w0 at *
  have hl0 := X1.lt
  obtain ⟨p1, p2, p5, p3, p4, p6⟩ := X1.three
  go_wp2_with fail
  refine (cG.out _).mono ?_
  rintro e w1 ⟨rfl, hb⟩
  replace X1 := X1.later hb
  replace hB := nxt hB hb
  clear hb
  clear p1 p2 p3 p4 p5 p6
  obtain ⟨p1, p2, p5, p3, p4, p6⟩ := X1.three
  go_wp2
  go_ret
  exact ⟨rfl, hB⟩
set_option maxRecDepth 100000 in
set_option maxHeartbeats 1000000 in
theorem rdOf_x (n : Int) (x : Dyadic) (w : World)
    (cO : Hid (∀ W : World, Calls Tryz.prog 44 #[.int .i64 n] W fun r w' => r = .returned (.agg #[.bool (neg (n)), .string (mag (n))]) ∧ Below W.heap.size W w'))
    (cM : Hid (∀ W : World, Calls Tryz.prog 43 #[.agg #[.bool (neg (n)), .string (mag (n))], .int .i64 0] W fun r w' => r = .returned (.agg #[.bool (neg (dm (x))), .string (mag (dm (x))), .int .i64 (de (x))]) ∧ Below W.heap.size W w'))
    :
    Calls Tryz.prog 26 #[.int .i64 n] w fun r w' => r = .returned (.agg #[.bool (neg (dm (x))), .string (mag (dm (x))), .int .i64 (de (x))]) ∧ Below w.heap.size w w' := by
  go_enter Tryz.func26, Tryz.ntmps26
  go_upto_region 1 with (fail)
  have X1 := Bx.new w 29 #[.bool false, .string ⟨#[]⟩, .int .i64 0]
  have hB := b1 w (.cells #[.bool false, .string ⟨#[]⟩, .int .i64 0] 29)
  generalize w.alloc (.cells #[.bool false, .string ⟨#[]⟩, .int .i64 0] 29) = w0 at *
  have hl0 := X1.lt
  obtain ⟨p1, p2, p5, p3, p4, p6⟩ := X1.three
  go_wp2_with fail
  refine (cO.out _).mono ?_
  rintro e w1 ⟨rfl, hb⟩
  replace X1 := X1.later hb
  replace hB := nxt hB hb
  clear hb
  clear p1 p2 p3 p4 p5 p6
  obtain ⟨p1, p2, p5, p3, p4, p6⟩ := X1.three
  go_wp2_with fail
  refine (cM.out _).mono ?_
  rintro e w2 ⟨rfl, hb⟩
  replace X1 := X1.later hb
  replace hB := nxt hB hb
  clear hb
  clear p1 p2 p3 p4 p5 p6
  obtain ⟨p1, p2, p5, p3, p4, p6⟩ := X1.three
  go_wp2_with fail
  exact bodyPost_ret (v := .agg #[.bool (neg (dm (x))), .string (mag (dm (x))), .int .i64 (de (x))]) (by simp [results, Tryz.results26, go_sem, (X1.set3 _ _ _).cel]) rfl ⟨rfl, st3 hB (Nat.le_refl _) _ _ _⟩
theorem rdOf_any (n : Int) (w : World) (h1 : -9223372036854775808 ≤ n) (h2 : n ≤ 9223372036854775807) :
    Calls Tryz.prog 26 #[.int .i64 n] w fun r w' => r = .returned (.agg #[.bool (neg (dm (dy n 0))), .string (mag (dm (dy n 0))), .int .i64 (de (dy n 0))]) ∧ Below w.heap.size w w' := by
  have c := Lib.hid (fun W => rMake_any (mag n) (neg n) 0 W (by rw [mag_size]; exact Nat.le_trans (bsz_small h1 h2) (by decide)) (by decide) (by decide))
  rw [ival_mk] at c
  exact rdOf_x n _ w (Lib.hid fun W => rWOf_any n W h1 h2) c

set_option maxRecDepth 100000 in
set_option maxHeartbeats 1000000 in
theorem rdShift_x (s : ByteArray) (b : Bool) (e n : Int) (x : Dyadic) (w : World) (hw : IntKind.i64.wrap (e + n) = e + n)
    (cM : Hid (∀ W : World, Calls Tryz.prog 43 #[.agg #[.bool b, .string s], .int .i64 (e + n)] W fun r w' => r = .returned (.agg #[.bool (neg (dm (x))), .string (mag (dm (x))), .int .i64 (de (x))]) ∧ Below W.heap.size W w'))
    :
    Calls Tryz.prog 27 #[.agg #[.bool b, .string s, .int .i64 e], .int .i64 n] w fun r w' => r = .returned (.agg #[.bool (neg (dm (x))), .string (mag (dm (x))), .int .i64 (de (x))]) ∧ Below w.heap.size w w' := by
  go_enter Tryz.func27, Tryz.ntmps27
  go_upto_region 1 with (fail)
  have X1 := (Bx.new w 29 #[.bool b, .string s, .int .i64 e]).alloc (.cells #[.bool false, .string ⟨#[]⟩, .int .i64 0] 29)
  have X2 := Bx.at1 w (.cells #[.bool b, .string s, .int .i64 e] 29) 29 #[.bool false, .string ⟨#[]⟩, .int .i64 0]
  have hB := b2 w (.cells #[.bool b, .string s, .int .i64 e] 29) (.cells #[.bool false, .string ⟨#[]⟩, .int .i64 0] 29)
  generalize (w.alloc (.cells #[.bool b, .string s, .int .i64 e] 29)).alloc (.cells #[.bool false, .string ⟨#[]⟩, .int .i64 0] 29) = w0 at *
  have hl0 := X1.lt
  have hl1 := X2.lt
  obtain ⟨p1, p2, p5, p3, p4, p6⟩ := X1.three
  obtain ⟨q1, q2, q5, q3, q4, q6⟩ := X2.three
  go_wp2_with fail
  refine (cM.out _).mono ?_
  rintro e w1 ⟨rfl, hb⟩
  replace X1 := X1.later hb
  replace X2 := X2.later hb
  replace hB := nxt hB hb
  clear hb
  clear p1 p2 p3 p4 p5 p6 q1 q2 q3 q4 q5 q6
  obtain ⟨p1, p2, p5, p3, p4, p6⟩ := X1.three
  obtain ⟨q1, q2, q5, q3, q4, q6⟩ := X2.three
  go_wp2_with fail
  exact bodyPost_ret (v := .agg #[.bool (neg (dm (x))), .string (mag (dm (x))), .int .i64 (de (x))]) (by simp [results, Tryz.results27, go_sem, (X2.set3 _ _ _).cel]) rfl ⟨rfl, st3 hB (Nat.le_add_right _ 1) _ _ _⟩
theorem rdShift_any (s : ByteArray) (b : Bool) (e n : Int) (w : World) (hs : s.size ≤ 8388608) (he1 : -1073741824 ≤ e + n) (he2 : e + n ≤ 4611686018427387) :
    Calls Tryz.prog 27 #[.agg #[.bool b, .string s, .int .i64 e], .int .i64 n] w fun r w' => r = .returned (.agg #[.bool (neg (dm (dy (ival b (sval s)) (e + n)))), .string (mag (dm (dy (ival b (sval s)) (e + n)))), .int .i64 (de (dy (ival b (sval s)) (e + n)))]) ∧ Below w.heap.size w w' := by
  exact rdShift_x s b e n _ w (IntWalk.i64_in _ (by omega)) (Lib.hid fun W => rMake_any s b (e + n) W hs he1 he2)

set_option maxRecDepth 100000 in
theorem rdNeg_x (s : ByteArray) (b : Bool) (e m : Int) (x : Dyadic) (w : World)
    (cN : Hid (∀ W : World, Calls Tryz.prog 58 #[.agg #[.bool b, .string s]] W fun r w' => r = .returned (.agg #[.bool (neg (m)), .string (mag (m))]) ∧ Below W.heap.size W w'))
    (cM : Hid (∀ W : World, Calls Tryz.prog 43 #[.agg #[.bool (neg (m)), .string (mag (m))], .int .i64 e] W fun r w' => r = .returned (.agg #[.bool (neg (dm (x))), .string (mag (dm (x))), .int .i64 (de (x))]) ∧ Below W.heap.size W w'))
    :
    Calls Tryz.prog 36 #[.agg #[.bool b, .string s, .int .i64 e]] w fun r w' => r = .returned (.agg #[.bool (neg (dm (x))), .string (mag (dm (x))), .int .i64 (de (x))]) ∧ Below w.heap.size w w' :=
  RetAt.at <| ret_sk ttOk mixed (fun a w => Tryz.call36 a w) Tryz.func36 Tryz.ntmps36 Tryz.results36 _ rfl _ [.reg 6 [], .o 1 2 (.ret (.agg [.val (.bool (neg (m))), .val (.string (mag (m)))])), .o 1 5 (.ret (.val (vN (x))))] (fun W hW hR => ai (rc W Tryz.call58 fun W => cN.out W) <| ai (rc W Tryz.call43 fun W => cM.out W) <| hR) fun W => by kernel_rfl

theorem rdNeg_any (s : ByteArray) (b : Bool) (e : Int) (w : World) (hs : s.size ≤ 8388608) (he1 : -1073741824 ≤ e) (he2 : e ≤ 4611686018427387) :
    Calls Tryz.prog 36 #[.agg #[.bool b, .string s, .int .i64 e]] w fun r w' => r = .returned (.agg #[.bool (neg (dm (-dy (ival b (sval s)) e))), .string (mag (dm (-dy (ival b (sval s)) e))), .int .i64 (de (-dy (ival b (sval s)) e))]) ∧ Below w.heap.size w w' := by
  rw [dy_neg]
  have c := Lib.hid (fun W => rMake_any (mag (-ival b (sval s))) (neg (-ival b (sval s))) e W (by rw [mag_size, bsz_neg]; exact Nat.le_trans (bsz_ival b s) hs) he1 he2)
  rw [ival_mk] at c
  exact rdNeg_x s b e _ _ w (Lib.hid fun W => rWNeg_any s b W (by omega)) c

set_option maxRecDepth 100000 in
theorem rdTimes_x (s t : ByteArray) (b c : Bool) (e f m g : Int) (x : Dyadic) (w : World) (hw : IntKind.i64.wrap (e + f) = g)
    (cN : Hid (∀ W : World, Calls Tryz.prog 57 #[.agg #[.bool b, .string s], .agg #[.bool c, .string t]] W fun r w' => r = .returned (.agg #[.bool (neg (m)), .string (mag (m))]) ∧ Below W.heap.size W w'))
    (cM : Hid (∀ W : World, Calls Tryz.prog 43 #[.agg #[.bool (neg (m)), .string (mag (m))], .int .i64 g] W fun r w' => r = .returned (.agg #[.bool (neg (dm (x))), .string (mag (dm (x))), .int .i64 (de (x))]) ∧ Below W.heap.size W w'))
    :
    Calls Tryz.prog 34 #[.agg #[.bool b, .string s, .int .i64 e], .agg #[.bool c, .string t, .int .i64 f]] w fun r w' => r = .returned (.agg #[.bool (neg (dm (x))), .string (mag (dm (x))), .int .i64 (de (x))]) ∧ Below w.heap.size w w' :=
  RetAt.at <| ret_sk ttOk mixed (fun a w => Tryz.call34 a w) Tryz.func34 Tryz.ntmps34 Tryz.results34 _ rfl _ [.reg 11 [], .o 1 4 (.ret (.agg [.val (.bool (neg (m))), .val (.string (mag (m)))])), .o 1 9 (.eq (.val (.int .i64 g))), .o 1 10 (.ret (.val (vN (x))))] (fun W hW hR => ai (rc W Tryz.call57 fun W => cN.out W) <| ai hw <| ai (rc W Tryz.call43 fun W => cM.out W) <| hR) fun W => by kernel_rfl

theorem rdTimes_any {b c : Bool} {s t : ByteArray} {e f : Int} {x y : Dyadic} (w : World) (n1 : ND b s e x) (n2 : ND c t f y) (hlo : -1073741824 ≤ e + f) :
    Calls Tryz.prog 34 #[.agg #[.bool b, .string s, .int .i64 e], .agg #[.bool c, .string t, .int .i64 f]] w fun r w' => r = .returned (.agg #[.bool (neg (dm (x * y))), .string (mag (dm (x * y))), .int .i64 (de (x * y))]) ∧ Below w.heap.size w w' := by
  have a1 := n1.size
  have a2 := n2.size
  have a3 := n1.hi
  have a4 := n2.hi
  have hm : bsz (ival b (sval s) * ival c (sval t)) ≤ 2097152 := Nat.le_trans (bsz_mul_le (bsz_ival b s) (bsz_ival c t)) (by omega)
  have cc := Lib.hid (fun W => rMake_any (mag (ival b (sval s) * ival c (sval t))) (neg (ival b (sval s) * ival c (sval t))) (e + f) W (by rw [mag_size]; omega) hlo (by omega))
  rw [ival_mk, ← dy_mul, n1.val, n2.val] at cc
  exact rdTimes_x s t _ _ e f _ _ _ w (IntWalk.i64_in _ (by omega)) (Lib.hid fun W => rTimes_any s t _ _ W (by omega) (by omega)) cc

set_option maxRecDepth 100000 in
theorem rdPlus_zx (s t : ByteArray) (b c : Bool) (e f : Int) (x y : Dyadic) (sx : Int) (hsx : sx = 0) (w : World)
    (cF : Hid (∀ W : World, Calls Tryz.prog 59 #[.agg #[.bool b, .string s, .int .i64 e]] W fun r w' => r = .returned (.agg #[.bool (neg (dm (x))), .string (mag (dm (x))), .int .i64 (de (x))]) ∧ Below W.heap.size W w'))
    (cG : Hid (∀ W : World, Calls Tryz.prog 59 #[.agg #[.bool c, .string t, .int .i64 f]] W fun r w' => r = .returned (.agg #[.bool (neg (dm (y))), .string (mag (dm (y))), .int .i64 (de (y))]) ∧ Below W.heap.size W w'))
    (cS : Hid (∀ W : World, Calls Tryz.prog 60 #[.agg #[.bool (neg (dm (x))), .string (mag (dm (x))), .int .i64 (de (x))]] W fun r w' => r = .returned (.int .i64 sx) ∧ Below W.heap.size W w'))
    :
    Calls Tryz.prog 37 #[.agg #[.bool b, .string s, .int .i64 e], .agg #[.bool c, .string t, .int .i64 f]] w fun r w' => r = .returned (.agg #[.bool (neg (dm (y))), .string (mag (dm (y))), .int .i64 (de (y))]) ∧ Below w.heap.size w w' :=
  RetAt.at <| ret_sk ttOk mixed (fun a w => Tryz.call37 a w) Tryz.func37 Tryz.ntmps37 Tryz.results37 _ rfl _ [.reg 4 [], .o 1 1 (.ret (.val (vN (x)))), .o 1 3 (.ret (.val (vN (y)))), .o 2 1 (.ret (.val (.int .i64 sx))), .br true] (fun W hW hR => ai (rc W Tryz.call59 fun W => cF.out W) <| ai (rc W Tryz.call59 fun W => cG.out W) <| ai (rc W Tryz.call60 fun W => cS.out W) <| ai (eq_y hsx) <| hR) fun W => by kernel_rfl

set_option maxRecDepth 100000 in
theorem rdPlus_zy (s t : ByteArray) (b c : Bool) (e f : Int) (x y : Dyadic) (sx sy : Int) (hsx : ¬ sx = 0) (hsy : sy = 0) (w : World)
    (cF : Hid (∀ W : World, Calls Tryz.prog 59 #[.agg #[.bool b, .string s, .int .i64 e]] W fun r w' => r = .returned (.agg #[.bool (neg (dm (x))), .string (mag (dm (x))), .int .i64 (de (x))]) ∧ Below W.heap.size W w'))
    (cG : Hid (∀ W : World, Calls Tryz.prog 59 #[.agg #[.bool c, .string t, .int .i64 f]] W fun r w' => r = .returned (.agg #[.bool (neg (dm (y))), .string (mag (dm (y))), .int .i64 (de (y))]) ∧ Below W.heap.size W w'))
    (cS : Hid (∀ W : World, Calls Tryz.prog 60 #[.agg #[.bool (neg (dm (x))), .string (mag (dm (x))), .int .i64 (de (x))]] W fun r w' => r = .returned (.int .i64 sx) ∧ Below W.heap.size W w'))
    (cT : Hid (∀ W : World, Calls Tryz.prog 60 #[.agg #[.bool (neg (dm (y))), .string (mag (dm (y))), .int .i64 (de (y))]] W fun r w' => r = .returned (.int .i64 sy) ∧ Below W.heap.size W w'))
    :
    Calls Tryz.prog 37 #[.agg #[.bool b, .string s, .int .i64 e], .agg #[.bool c, .string t, .int .i64 f]] w fun r w' => r = .returned (.agg #[.bool (neg (dm (x))), .string (mag (dm (x))), .int .i64 (de (x))]) ∧ Below w.heap.size w w' :=
  RetAt.at <| ret_sk ttOk mixed (fun a w => Tryz.call37 a w) Tryz.func37 Tryz.ntmps37 Tryz.results37 _ rfl _ [.reg 4 [], .o 1 1 (.ret (.val (vN (x)))), .o 1 3 (.ret (.val (vN (y)))), .o 2 1 (.ret (.val (.int .i64 sx))), .br false, .o 4 1 (.ret (.val (.int .i64 sy))), .br true] (fun W hW hR => ai (rc W Tryz.call59 fun W => cF.out W) <| ai (rc W Tryz.call59 fun W => cG.out W) <| ai (rc W Tryz.call60 fun W => cS.out W) <| ai (eq_n hsx) <| ai (rc W Tryz.call60 fun W => cT.out W) <| ai (eq_y hsy) <| hR) fun W => by kernel_rfl

set_option maxRecDepth 100000 in
theorem rdPlus_ge (s t : ByteArray) (b c : Bool) (e f : Int) (x y : Dyadic) (sx sy d m q : Int) (z : Dyadic) (hsx : ¬ sx = 0) (hsy : ¬ sy = 0) (hge : ¬ de x < de y) (hw : IntKind.i64.wrap (de x - de y) = d) (w : World)
    (cF : Hid (∀ W : World, Calls Tryz.prog 59 #[.agg #[.bool b, .string s, .int .i64 e]] W fun r w' => r = .returned (.agg #[.bool (neg (dm (x))), .string (mag (dm (x))), .int .i64 (de (x))]) ∧ Below W.heap.size W w'))
    (cG : Hid (∀ W : World, Calls Tryz.prog 59 #[.agg #[.bool c, .string t, .int .i64 f]] W fun r w' => r = .returned (.agg #[.bool (neg (dm (y))), .string (mag (dm (y))), .int .i64 (de (y))]) ∧ Below W.heap.size W w'))
    (cS : Hid (∀ W : World, Calls Tryz.prog 60 #[.agg #[.bool (neg (dm (x))), .string (mag (dm (x))), .int .i64 (de (x))]] W fun r w' => r = .returned (.int .i64 sx) ∧ Below W.heap.size W w'))
    (cT : Hid (∀ W : World, Calls Tryz.prog 60 #[.agg #[.bool (neg (dm (y))), .string (mag (dm (y))), .int .i64 (de (y))]] W fun r w' => r = .returned (.int .i64 sy) ∧ Below W.heap.size W w'))
    (cH : Hid (∀ W : World, Calls Tryz.prog 62 #[.agg #[.bool (neg (dm (x))), .string (mag (dm (x)))], .int .i64 d] W fun r w' => r = .returned (.agg #[.bool (neg (m)), .string (mag (m))]) ∧ Below W.heap.size W w'))
    (cP : Hid (∀ W : World, Calls Tryz.prog 61 #[.agg #[.bool (neg (m)), .string (mag (m))], .agg #[.bool (neg (dm (y))), .string (mag (dm (y)))]] W fun r w' => r = .returned (.agg #[.bool (neg (q)), .string (mag (q))]) ∧ Below W.heap.size W w'))
    (cM : Hid (∀ W : World, Calls Tryz.prog 43 #[.agg #[.bool (neg (q)), .string (mag (q))], .int .i64 (de (y))] W fun r w' => r = .returned (.agg #[.bool (neg (dm (z))), .string (mag (dm (z))), .int .i64 (de (z))]) ∧ Below W.heap.size W w'))
    :
    Calls Tryz.prog 37 #[.agg #[.bool b, .string s, .int .i64 e], .agg #[.bool c, .string t, .int .i64 f]] w fun r w' => r = .returned (.agg #[.bool (neg (dm (z))), .string (mag (dm (z))), .int .i64 (de (z))]) ∧ Below w.heap.size w w' :=
  RetAt.at <| ret_sk ttOk mixed (fun a w => Tryz.call37 a w) Tryz.func37 Tryz.ntmps37 Tryz.results37 _ rfl _ [.reg 4 [], .o 1 1 (.ret (.val (vN (x)))), .o 1 3 (.ret (.val (vN (y)))), .o 2 1 (.ret (.val (.int .i64 sx))), .br false, .o 4 1 (.ret (.val (.int .i64 sy))), .br false, .br false, .reg 14 [], .o 8 6 (.eq (.val (.int .i64 d))), .o 8 7 (.ret (.agg [.val (.bool (neg (m))), .val (.string (mag (m)))])), .o 8 10 (.ret (.agg [.val (.bool (neg (q))), .val (.string (mag (q)))])), .o 8 13 (.ret (.val (vN (z))))] (fun W hW hR => ai (rc W Tryz.call59 fun W => cF.out W) <| ai (rc W Tryz.call59 fun W => cG.out W) <| ai (rc W Tryz.call60 fun W => cS.out W) <| ai (eq_n hsx) <| ai (rc W Tryz.call60 fun W => cT.out W) <| ai (eq_n hsy) <| ai (lt_n hge) <| ai hw <| ai (rc W Tryz.call62 fun W => cH.out W) <| ai (rc W Tryz.call61 fun W => cP.out W) <| ai (rc W Tryz.call43 fun W => cM.out W) <| hR) fun W => by kernel_rfl

set_option maxRecDepth 100000 in
theorem rdPlus_lt (s t : ByteArray) (b c : Bool) (e f : Int) (x y : Dyadic) (sx sy d m q : Int) (z : Dyadic) (hsx : ¬ sx = 0) (hsy : ¬ sy = 0) (hlt : de x < de y) (hw : IntKind.i64.wrap (de y - de x) = d) (w : World)
    (cF : Hid (∀ W : World, Calls Tryz.prog 59 #[.agg #[.bool b, .string s, .int .i64 e]] W fun r w' => r = .returned (.agg #[.bool (neg (dm (x))), .string (mag (dm (x))), .int .i64 (de (x))]) ∧ Below W.heap.size W w'))
    (cG : Hid (∀ W : World, Calls Tryz.prog 59 #[.agg #[.bool c, .string t, .int .i64 f]] W fun r w' => r = .returned (.agg #[.bool (neg (dm (y))), .string (mag (dm (y))), .int .i64 (de (y))]) ∧ Below W.heap.size W w'))
    (cS : Hid (∀ W : World, Calls Tryz.prog 60 #[.agg #[.bool (neg (dm (x))), .string (mag (dm (x))), .int .i64 (de (x))]] W fun r w' => r = .returned (.int .i64 sx) ∧ Below W.heap.size W w'))
    (cT : Hid (∀ W : World, Calls Tryz.prog 60 #[.agg #[.bool (neg (dm (y))), .string (mag (dm (y))), .int .i64 (de (y))]] W fun r w' => r = .returned (.int .i64 sy) ∧ Below W.heap.size W w'))
    (cH : Hid (∀ W : World, Calls Tryz.prog 62 #[.agg #[.bool (neg (dm (y))), .string (mag (dm (y)))], .int .i64 d] W fun r w' => r = .returned (.agg #[.bool (neg (m)), .string (mag (m))]) ∧ Below W.heap.size W w'))
    (cP : Hid (∀ W : World, Calls Tryz.prog 61 #[.agg #[.bool (neg (m)), .string (mag (m))], .agg #[.bool (neg (dm (x))), .string (mag (dm (x)))]] W fun r w' => r = .returned (.agg #[.bool (neg (q)), .string (mag (q))]) ∧ Below W.heap.size W w'))
    (cM : Hid (∀ W : World, Calls Tryz.prog 43 #[.agg #[.bool (neg (q)), .string (mag (q))], .int .i64 (de (x))] W fun r w' => r = .returned (.agg #[.bool (neg (dm (z))), .string (mag (dm (z))), .int .i64 (de (z))]) ∧ Below W.heap.size W w'))
    :
    Calls Tryz.prog 37 #[.agg #[.bool b, .string s, .int .i64 e], .agg #[.bool c, .string t, .int .i64 f]] w fun r w' => r = .returned (.agg #[.bool (neg (dm (z))), .string (mag (dm (z))), .int .i64 (de (z))]) ∧ Below w.heap.size w w' :=
  RetAt.at <| ret_sk ttOk mixed (fun a w => Tryz.call37 a w) Tryz.func37 Tryz.ntmps37 Tryz.results37 _ rfl _ [.reg 4 [], .o 1 1 (.ret (.val (vN (x)))), .o 1 3 (.ret (.val (vN (y)))), .o 2 1 (.ret (.val (.int .i64 sx))), .br false, .o 4 1 (.ret (.val (.int .i64 sy))), .br false, .br true, .reg 14 [], .o 8 6 (.eq (.val (.int .i64 d))), .o 8 7 (.ret (.agg [.val (.bool (neg (m))), .val (.string (mag (m)))])), .o 8 10 (.ret (.agg [.val (.bool (neg (q))), .val (.string (mag (q)))])), .o 8 13 (.ret (.val (vN (z))))] (fun W hW hR => ai (rc W Tryz.call59 fun W => cF.out W) <| ai (rc W Tryz.call59 fun W => cG.out W) <| ai (rc W Tryz.call60 fun W => cS.out W) <| ai (eq_n hsx) <| ai (rc W Tryz.call60 fun W => cT.out W) <| ai (eq_n hsy) <| ai (lt_y hlt) <| ai hw <| ai (rc W Tryz.call62 fun W => cH.out W) <| ai (rc W Tryz.call61 fun W => cP.out W) <| ai (rc W Tryz.call43 fun W => cM.out W) <| hR) fun W => by kernel_rfl

end Go.Proofs.YtibbhpgpleeglaaGreatDoor

