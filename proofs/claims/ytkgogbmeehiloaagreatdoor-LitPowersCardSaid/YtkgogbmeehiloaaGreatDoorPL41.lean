/- The walks and plain laws beneath the statements. -/
import Derived.Test.YtkgogbmeehiloaaGreatDoorPL37
namespace Go.Proofs.YtkgogbmeehiloaaGreatDoor
open Go Go.RowKit Go.Lib

set_option maxRecDepth 100000 in
set_option maxHeartbeats 1000000 in
theorem size_any (n : Nat) (w : World) (hn : n < 65536) :
    Calls Tryz.prog 28 #[.int .i64 (n : Int)] w fun e w' => (∃ s, e = .returned (.string s) ∧ sval s = n ∧ s.size ≤ 2) ∧ Below w.heap.size w w' := by
  go_enter Tryz.func28, Tryz.ntmps28
  by_cases h : n < 256
  · have hlt : ¬ (255 : Int) < (n : Int) := by omega
    have hw : IntKind.u8.wrap (n : Int) = (n : Int) := by rw [IntKind.wrap_u8]; omega
    go_wp2_with fail
    have hr : Rd (w.alloc (.cells #[.int .u8 (n : Int)] 5)) (some ⟨w.heap.size, 0, none⟩) 1 fun j => .int .u8 (((fun _ => n) j : Nat) : Int) := fun _ => ⟨w.heap.size, 0, rfl, fun j hj => by
      obtain rfl : j = 0 := by omega
      exact (Bx.new w 5 #[.int .u8 (n : Int)]).cel 0⟩
    rw [run_bytes_rd 69 9 5 Tryz.underlying69 Tryz.underlying5 Tryz.underlying9 (some ⟨w.heap.size, 0, none⟩) 1 1 (fun _ => n) hr]
    simp only [Result.andThen_ok]
    go_wp2
    go_ret
    refine ⟨⟨_, rfl, ?_, ?_⟩, b1 w _⟩
    · simp [sval, bval]; omega
    · rw [ba_size]; simp
  · have hlt : (255 : Int) < (n : Int) := by omega
    have hw : IntKind.u8.wrap (n : Int) = ((n % 256 : Nat) : Int) := by rw [IntKind.wrap_u8]; omega
    go_wp2_with fail
    have hr : Rd (w.alloc (.cells #[.int .u8 ((n : Int) / 256), .int .u8 ((n : Int) % 256)] 5)) (some ⟨w.heap.size, 0, none⟩) 2 fun j => .int .u8 (((fun j => if j = 0 then n / 256 else n % 256) j : Nat) : Int) := fun _ => ⟨w.heap.size, 0, rfl, fun j hj => by
      rcases (by omega : j = 0 ∨ j = 1) with rfl | rfl
      · exact (Bx.new w 5 #[.int .u8 ((n : Int) / 256), .int .u8 ((n : Int) % 256)]).cel 0
      · exact (Bx.new w 5 #[.int .u8 ((n : Int) / 256), .int .u8 ((n : Int) % 256)]).cel 1⟩
    rw [run_bytes_rd 69 9 5 Tryz.underlying69 Tryz.underlying5 Tryz.underlying9 (some ⟨w.heap.size, 0, none⟩) 2 2 (fun j => if j = 0 then n / 256 else n % 256) hr]
    simp only [Result.andThen_ok]
    go_wp2
    go_ret
    refine ⟨⟨_, rfl, ?_, ?_⟩, b1 w _⟩
    · simp [sval, bval]; omega
    · rw [ba_size]; simp
theorem zeros_val (a : Nat) : ∀ q, (List.replicate q (0 : UInt8)).foldl (fun a c => a * 256 + c.toNat) a = a * 256 ^ q
  | 0 => by simp
  | q + 1 => by
    rw [List.replicate_succ, List.foldl_cons, zeros_val _ q, Nat.pow_succ]
    simp
    rw [Nat.mul_assoc, Nat.mul_comm 256]
theorem pow_val (n : Nat) (hp : 2 ^ (n % 8) < 256) : sval ⟨((List.range (n / 8 + 1)).map fun j => UInt8.ofNat (if j = 0 then 2 ^ (n % 8) else 0)).toArray⟩ = 2 ^ n := by
  have e1 : ((List.range (n / 8 + 1)).map fun j => UInt8.ofNat (if j = 0 then 2 ^ (n % 8) else 0)) = UInt8.ofNat (2 ^ (n % 8)) :: List.replicate (n / 8) 0 := by
    rw [List.range_succ_eq_map, List.map_cons, List.map_map]
    congr 1
    rw [List.eq_replicate_iff]
    refine ⟨by simp, fun b hb => ?_⟩
    simp at hb
    obtain ⟨_, _, rfl⟩ := hb
    rfl
  rw [e1]
  show bval _ = _
  unfold bval
  rw [List.foldl_cons, zeros_val, show (256 : Nat) = 2 ^ 8 from rfl, ← Nat.pow_mul]
  have e2 : (UInt8.ofNat (2 ^ (n % 8))).toNat = 2 ^ (n % 8) := by simp; omega
  rw [e2, Nat.zero_mul, Nat.zero_add, ← Nat.pow_add]
  congr 1
  omega
set_option maxRecDepth 100000 in
set_option maxHeartbeats 1000000 in
theorem power_any (n : Nat) (w : World) (hn : n < 300) :
    Calls Tryz.prog 29 #[.int .i64 (n : Int)] w fun e w' => (∃ s, e = .returned (.string s) ∧ sval s = 2 ^ n ∧ s.size ≤ 40) ∧ Below w.heap.size w w' := by
  go_enter Tryz.func29, Tryz.ntmps29
  have HL := Lib.hid (show (n : Int) / 8 + 1 = ((n / 8 + 1 : Nat) : Int) by omega)
  have hb2 : 1 * (n / 8 + 1) ≤ 281474976710656 := by omega
  have hb3 : n / 8 + 1 ≤ 9223372036854775807 := by omega
  go_wp2_with (at_make; refine wpList_make_cel rfl (.tmp 6) (.tmp 6) _ rfl 5 (.int .u8 0) 1 under_bytes info_u8 rfl .i64 .i64 _ _ (n / 8 + 1) rfl rfl HL.out HL.out hb2 hb3 ?_; intro w1 hC hB hlt; have g0 := hC.cell (i := 0) (Nat.succ_pos _); have g1 := hC.frozen 0)
  have hcs := hC.set_ 0 (.int .u8 (2 ^ (n % 8) % 256))
  have hp : 2 ^ (n % 8) < 256 := Nat.lt_of_lt_of_le (Nat.pow_lt_pow_right (by decide) (Nat.mod_lt n (by decide : 0 < 8))) (by decide)
  have hpi : (2 : Int) ^ (n % 8) % 256 = ((2 ^ (n % 8) : Nat) : Int) := by
    rw [show (2 : Int) ^ (n % 8) = ((2 ^ (n % 8) : Nat) : Int) by simp]
    generalize 2 ^ (n % 8) = q at *
    omega
  have hr : Rd (w1.setCell ⟨w.heap.size, 0, none⟩ (.int .u8 (2 ^ (n % 8) % 256))) (some ⟨w.heap.size, 0, none⟩) (n / 8 + 1) fun j => .int .u8 (((fun j => if j = 0 then 2 ^ (n % 8) else 0) j : Nat) : Int) := (Cel.rd0 (hcs.congr fun j _ => by
    dsimp only
    by_cases e : j = 0
    · subst e; rw [if_pos rfl, if_pos rfl, hpi]
    · rw [if_neg e, if_neg e]; rfl) (Nat.le_refl _))
  rw [run_bytes_rd 69 9 5 Tryz.underlying69 Tryz.underlying5 Tryz.underlying9 (some ⟨w.heap.size, 0, none⟩) (n / 8 + 1) (n / 8 + 1) (fun j => if j = 0 then 2 ^ (n % 8) else 0) hr]
  have pv := pow_val n hp
  have pz : (⟨((List.range (n / 8 + 1)).map fun j => UInt8.ofNat (if j = 0 then 2 ^ (n % 8) else 0)).toArray⟩ : ByteArray).size ≤ 40 := by rw [ba_size, List.length_map, List.length_range]; omega
  generalize (⟨((List.range (n / 8 + 1)).map fun j => UInt8.ofNat (if j = 0 then 2 ^ (n % 8) else 0)).toArray⟩ : ByteArray) = S at *
  clear hr hcs
  simp only [Result.andThen_ok]
  go_wp2
  go_ret
  exact ⟨⟨_, rfl, pv, pz⟩, hB.setCell (Nat.le_refl _) _⟩
end Go.Proofs.YtkgogbmeehiloaaGreatDoor

namespace Go.Proofs.YtkgogbmeehiloaaGreatDoor
open Go Go.RowKit Go.Lib

theorem natAbs_bsz {z : Int} {n : Nat} (h : bsz z ≤ n) : z.natAbs < 256 ^ n := by
  have h1 := sval_lt (mag z)
  rw [sval_mag, mag_size] at h1
  exact Nat.lt_of_lt_of_le h1 (Nat.pow_le_pow_right (by decide) h)
set_option exponentiation.threshold 400 in
theorem pow_bsz {a : Nat} (h : a < 300) : bsz ((2 ^ a : Nat) : Int) ≤ 40 := by
  refine nd_le_of_lt (k := 8) (n := 40) (by decide) ?_
  show 2 ^ a < (2 ^ 8) ^ 40
  rw [← Nat.pow_mul]
  exact Nat.pow_lt_pow_right (by decide) (by omega)
theorem pow_dy (a : Nat) : dm (dy ((2 ^ a : Nat) : Int) 0) = 1 ∧ de (dy ((2 ^ a : Nat) : Int) 0) = a := by
  have h := dy_shl 1 0 a
  rw [Int.one_mul, Int.zero_add, show (2 : Int) ^ a = ((2 ^ a : Nat) : Int) by simp] at h
  rw [h]
  exact dy_of_odd _ (by decide)
theorem isL (t : ByteArray) (x : Dyadic) (W : World) (hs : t.size ≤ 60000) (hl : litV t.data.toList = (x, 0, 0)) (hT : Tab0 W) : Calls Tryz.prog 23 #[.string t, .agg #[.bool (neg (dm x)), .string (mag (dm x)), .int .i64 (de x)]] W fun r w' => r = .returned (.bool true) ∧ Below W.heap.size W w' := (is_r hs hl W hT).at
theorem shL (Z p : Int) (W : World) (hz : bsz Z ≤ 24) (hp : -300 < p ∧ p < 300) (hT : Tab0 W) : Calls Tryz.prog 30 #[.agg #[.bool (neg (dm (dy Z 0))), .string (mag (dm (dy Z 0))), .int .i64 (de (dy Z 0))], .int .i64 p] W fun r w' => r = .returned (.agg #[.bool (neg (dm (dy Z p))), .string (mag (dm (dy Z p))), .int .i64 (de (dy Z p))]) ∧ Below W.heap.size W w' := by
  have h1 := de_rng hz (by decide)
  have h2 : 0 ≤ de (dy Z 0) ∧ de (dy Z 0) ≤ 192 := by
    have hn : Z.natAbs < 256 ^ 24 := natAbs_bsz hz
    rcases de_bd (e := 0) hn with ⟨_, h⟩ | h
    · omega
    · omega
  have c := ldShift (dy Z 0) p W (Nat.le_trans (bsz_natAbs_le (dm_le Z 0)) (Nat.le_trans hz (by decide))) (by omega) (by omega) hT
  rw [dy_dy, Int.zero_add] at c
  unfold vN at c
  exact c
theorem cat_list (l : List UInt8) (c : UInt8) (r : List UInt8) : (((⟨l.toArray⟩ : ByteArray) ++ (⟨#[c]⟩ : ByteArray)) ++ (⟨r.toArray⟩ : ByteArray)).data.toList = l ++ c :: r := by
  rw [show (⟨#[c]⟩ : ByteArray) = ⟨[c].toArray⟩ from rfl, ba_append, ba_append]; simp
theorem isP (Z K : Int) (hK : -300 < K ∧ K < 300) : litV ((ztext Z ++ (⟨#[112]⟩ : ByteArray)) ++ ztext K).data.toList = (dy Z K, 0, 0) := by
  unfold ztext; rw [cat_list]; exact lit_p Z K (by omega)
theorem isQ (Z : Int) (a : Nat) : litV ((ztext Z ++ (⟨#[47]⟩ : ByteArray)) ++ ztext ((2 ^ a : Nat) : Int)).data.toList = (dy Z (-(a : Int)), 0, 0) := by
  unfold ztext; rw [cat_list, lit_q _ _ (pow_dy a).1, (pow_dy a).2]
theorem isZ (Z : Int) : litV (ztext Z).data.toList = (dy Z 0, 0, 0) := lit_z Z
theorem run_field_num (x0 x1 x2 : Value) (W : World) : (Instr.field 38 (.agg #[x0, x1, x2]) 0).run Tryz.prog W = .ok (.agg #[x0, x1]) W := by kernel_rfl
set_option maxRecDepth 100000 in
set_option maxHeartbeats 4000000 in
theorem litPowers_any (b : Bool) (s : ByteArray) (n mx : Int) (w : World) (hT : Tab0 w) (h10 : Tab10 w) (hx : w.cell? ⟨1, 0, none⟩ = some (.int .i64 mx)) :
    Calls Tryz.prog 7 #[.agg #[.bool b, .string s], .int .i64 n] w fun e w' => e = .returned (.bool true) ∧ Below w.heap.size w w' := by
  have HA := Lib.hid (fun W hb => awakeL mx W (tab_keep hT hb) (h10.later hb) (cell_later hb hx))
  have HT := Lib.hid hT
  have H10 := Lib.hid h10
  clear hT h10 hx
  go_enter Tryz.func7, Tryz.ntmps7
  have hB := b1 w (.cells #[.bool b, .string s] 24)
  have X1 := Bx.new w 24 #[.bool b, .string s]
  obtain ⟨p1, p2, _, _⟩ := X1.two
  by_cases h24 : s.size ≤ 24
  · have hg : ¬ (24 : Int) < (s.size : Int) := by omega
    obtain ⟨Z, hZ⟩ : ∃ Z, ival b (sval s) = Z := ⟨_, rfl⟩
    have hZb : bsz Z ≤ 24 := by rw [← hZ]; exact Nat.le_trans (bsz_ival b s) h24
    have c1 := fun W hb => dPrint_any b s W (by omega) (H10.out.later hb)
    have c2 := fun W hb => dMake_any s b 0 W (by omega) (by omega) (by omega) (tab_keep HT.out hb)
    simp only [hZ] at c1 c2
    replace c1 := Lib.hid c1
    replace c2 := Lib.hid c2
    obtain ⟨K, hK⟩ : ∃ K, n.tmod 300 = K := ⟨_, rfl⟩
    have k1 : -300 < K := by rw [← hK]; exact Int.lt_tmod_of_pos n (by decide)
    have k2 : K < 300 := by rw [← hK]; exact Int.tmod_lt_of_pos n (by decide)
    have c3 := Lib.hid (fun W hb => dOf_any K W (by omega) (by omega) (tab_keep HT.out hb))
    have c4 := (fun W hb => dPrint_m (dm (dy K 0)) W (Nat.le_trans (bsz_natAbs_le (dm_le K 0)) (Nat.le_trans (bsz_small (by omega) (by omega)) (by decide))) (H10.out.later hb))
    obtain ⟨U, hU, hU0⟩ : ∃ U, ztext (dm (dy K 0)) = U ∧ (K = 0 → U = ztext K) := ⟨_, rfl, fun h => by subst h; rfl⟩
    simp only [hU] at c4
    replace c4 := Lib.hid c4
    clear hU
    go_wp2_with fail
    refine (c1.out _ hB).mono ?_
    rintro e w1 ⟨rfl, hb⟩
    replace X1 := X1.later hb
    replace hB := nxt hB hb
    obtain ⟨p1, p2, _, _⟩ := X1.two
    clear hb
    go_wp2_with fail
    refine (c2.out _ hB).mono ?_
    rintro e w2 ⟨rfl, hb⟩
    replace hB := nxt hB hb
    clear hb p1 p2
    have X2 := Bx.new w2 38 #[.bool (neg (dm (dy Z 0))), .string (mag (dm (dy Z 0))), .int .i64 (de (dy Z 0))]
    replace hB := nxtA hB (.cells #[.bool (neg (dm (dy Z 0))), .string (mag (dm (dy Z 0))), .int .i64 (de (dy Z 0))] 38)
    clear X1
    go_wp2_with fail
    refine (c3.out _ hB).mono ?_
    rintro e w3 ⟨rfl, hb⟩
    replace X2 := X2.later hb
    replace hB := nxt hB hb
    clear hb
    go_wp2_with fail
    rw [run_field_num]
    simp only [Result.andThen_ok]
    go_wp2_with fail
    refine (c4.out _ hB).mono ?_
    rintro e w4 ⟨rfl, hb⟩
    replace X2 := X2.later hb
    replace hB := nxt hB hb
    clear hb c1 c2 c3 c4
    obtain ⟨a, ha⟩ : ∃ a : Nat, max K (-K) = (a : Int) := ⟨K.natAbs, by omega⟩
    have ha2 : a < 300 := by omega
    have c8 := Lib.hid (fun W => power_any a W ha2)
    have zZ := zt_bsz hZb
    have zK := zt_small (z := K) (by omega)
    have zA := zt_bsz (z := ((2 ^ a : Nat) : Int)) (n := 40) (pow_bsz ha2)
    by_cases hk0 : K = 0
    · obtain rfl : U = ztext K := hU0 hk0
      have hkb : (K == 0) = true := by simpa using hk0
      have hkn : (K != 0) = false := by simpa using hk0
      clear hU0 hk0
      have c9 := Lib.hid (fun (s2 : ByteArray) W (h1 : sval s2 = 2 ^ a) (h2 : s2.size ≤ 40) hb => show Calls Tryz.prog 11 #[.agg #[.bool false, .string s2]] W fun e w' => e = .returned (.string (ztext ((2 ^ a : Nat) : Int))) ∧ Below W.heap.size W w' by
        have c := dPrint_any false s2 W (by omega) (H10.out.later hb)
        rw [h1] at c; exact c)
      have cA := Lib.hid (fun W hb => isL (ztext Z) (dy Z 0) W (by omega) (isZ Z) (tab_keep HT.out hb))
      have cB := Lib.hid (fun W hb => isL ((ztext Z ++ (⟨#[112]⟩ : ByteArray)) ++ ztext K) (dy Z K) W (by rw [ByteArray.size_append, ByteArray.size_append, show (⟨#[112]⟩ : ByteArray).size = 1 from rfl]; omega) (isP Z K ⟨k1, k2⟩) (tab_keep HT.out hb))
      have cC := Lib.hid (fun W hb => isL ((ztext Z ++ (⟨#[47]⟩ : ByteArray)) ++ ztext ((2 ^ a : Nat) : Int)) (dy Z (-(a : Int))) W (by rw [ByteArray.size_append, ByteArray.size_append, show (⟨#[47]⟩ : ByteArray).size = 1 from rfl]; omega) (isQ Z a) (tab_keep HT.out hb))
      have cD := Lib.hid (fun W hb => shL Z K W hZb ⟨k1, k2⟩ (tab_keep HT.out hb))
      have cE := Lib.hid (fun W hb => shL Z (-(a : Int)) W hZb (by omega) (tab_keep HT.out hb))
      have hq1 : ¬ 9223372036854775807 < (ztext Z).size + (⟨#[112]⟩ : ByteArray).size := by rw [show (⟨#[112]⟩ : ByteArray).size = 1 from rfl]; omega
      have hq2 : ¬ 9223372036854775807 < (ztext Z ++ (⟨#[112]⟩ : ByteArray)).size + (ztext K).size := by rw [ByteArray.size_append, show (⟨#[112]⟩ : ByteArray).size = 1 from rfl]; omega
      have hq3 : ¬ 9223372036854775807 < (ztext Z).size + (⟨#[47]⟩ : ByteArray).size := by rw [show (⟨#[47]⟩ : ByteArray).size = 1 from rfl]; omega
      have hq4 : ¬ 9223372036854775807 < (ztext Z ++ (⟨#[47]⟩ : ByteArray)).size + (ztext ((2 ^ a : Nat) : Int)).size := by rw [ByteArray.size_append, show (⟨#[47]⟩ : ByteArray).size = 1 from rfl]; omega
      generalize ztext ((2 ^ a : Nat) : Int) = ta at *
      go_wp2_with fail
      refine (c8.out _).mono ?_
      rintro e w7 ⟨⟨s2, rfl, hs2, hz2⟩, hb⟩
      replace X2 := X2.later hb
      replace hB := nxt hB hb
      clear hb
      go_wp2_with fail
      refine (c9.out s2 _ hs2 hz2 hB).mono ?_
      rintro e w8 ⟨rfl, hb⟩
      replace X2 := X2.later hb
      replace hB := nxt hB hb
      clear hb hs2 hz2
      obtain ⟨q1, q2, q3, _, _, _⟩ := X2.three
      go_wp2_with fail
      refine (cA.out _ hB).mono ?_
      rintro e wy ⟨rfl, hb⟩
      replace X2 := X2.later hb
      replace hB := nxt hB hb
      replace q1 := cell_later hb q1
      replace q2 := cell_later hb q2
      replace q3 := cell_later hb q3
      clear hb
      go_wp2_with fail
      refine (cD.out _ hB).mono ?_
      rintro e wy ⟨rfl, hb⟩
      replace X2 := X2.later hb
      replace hB := nxt hB hb
      replace q1 := cell_later hb q1
      replace q2 := cell_later hb q2
      replace q3 := cell_later hb q3
      clear hb
      go_wp2_with fail
      refine (cB.out _ hB).mono ?_
      rintro e wy ⟨rfl, hb⟩
      replace X2 := X2.later hb
      replace hB := nxt hB hb
      replace q1 := cell_later hb q1
      replace q2 := cell_later hb q2
      replace q3 := cell_later hb q3
      clear hb
      go_wp2_with fail
      refine (cE.out _ hB).mono ?_
      rintro e wy ⟨rfl, hb⟩
      replace X2 := X2.later hb
      replace hB := nxt hB hb
      replace q1 := cell_later hb q1
      replace q2 := cell_later hb q2
      replace q3 := cell_later hb q3
      clear hb
      go_wp2_with fail
      refine (cC.out _ hB).mono ?_
      rintro e wy ⟨rfl, hb⟩
      replace X2 := X2.later hb
      replace hB := nxt hB hb
      replace q1 := cell_later hb q1
      replace q2 := cell_later hb q2
      replace q3 := cell_later hb q3
      clear hb
      go_wp2_with fail
      refine (HA.out _ hB).mono ?_
      rintro e wz ⟨rfl, hb⟩
      go_wp2
      go_ret
      exact ⟨rfl, nxt hB hb⟩
    · have hkb : (K == 0) = false := by simpa using hk0
      have hkn : (K != 0) = true := by simpa using hk0
      clear hU0
      have c5 := Lib.hid (fun W => size_any a W (by omega))
      have c6 := Lib.hid (fun (s1 : ByteArray) W (h1 : sval s1 = a) (h2 : s1.size ≤ 2) hb => show Calls Tryz.prog 11 #[.agg #[.bool (decide (K < 0)), .string s1]] W fun e w' => e = .returned (.string (ztext K)) ∧ Below W.heap.size W w' by
        have c := dPrint_any (decide (K < 0)) s1 W (by omega) (H10.out.later hb)
        rw [h1, show ival (decide (K < 0)) a = K from by unfold ival; by_cases h : K < 0 <;> simp [h] <;> omega] at c; exact c)
      go_wp2_with fail
      refine (c5.out _).mono ?_
      rintro e w5 ⟨⟨s1, rfl, hs1, hz1⟩, hb⟩
      replace X2 := X2.later hb
      replace hB := nxt hB hb
      clear hb
      go_wp2_with fail
      refine (c6.out s1 _ hs1 hz1 hB).mono ?_
      rintro e w6 ⟨rfl, hb⟩
      replace X2 := X2.later hb
      replace hB := nxt hB hb
      clear hb hs1 hz1 c5 c6
      have c9 := Lib.hid (fun (s2 : ByteArray) W (h1 : sval s2 = 2 ^ a) (h2 : s2.size ≤ 40) hb => show Calls Tryz.prog 11 #[.agg #[.bool false, .string s2]] W fun e w' => e = .returned (.string (ztext ((2 ^ a : Nat) : Int))) ∧ Below W.heap.size W w' by
        have c := dPrint_any false s2 W (by omega) (H10.out.later hb)
        rw [h1] at c; exact c)
      have cA := Lib.hid (fun W hb => isL (ztext Z) (dy Z 0) W (by omega) (isZ Z) (tab_keep HT.out hb))
      have cB := Lib.hid (fun W hb => isL ((ztext Z ++ (⟨#[112]⟩ : ByteArray)) ++ ztext K) (dy Z K) W (by rw [ByteArray.size_append, ByteArray.size_append, show (⟨#[112]⟩ : ByteArray).size = 1 from rfl]; omega) (isP Z K ⟨k1, k2⟩) (tab_keep HT.out hb))
      have cC := Lib.hid (fun W hb => isL ((ztext Z ++ (⟨#[47]⟩ : ByteArray)) ++ ztext ((2 ^ a : Nat) : Int)) (dy Z (-(a : Int))) W (by rw [ByteArray.size_append, ByteArray.size_append, show (⟨#[47]⟩ : ByteArray).size = 1 from rfl]; omega) (isQ Z a) (tab_keep HT.out hb))
      have cD := Lib.hid (fun W hb => shL Z K W hZb ⟨k1, k2⟩ (tab_keep HT.out hb))
      have cE := Lib.hid (fun W hb => shL Z (-(a : Int)) W hZb (by omega) (tab_keep HT.out hb))
      have hq1 : ¬ 9223372036854775807 < (ztext Z).size + (⟨#[112]⟩ : ByteArray).size := by rw [show (⟨#[112]⟩ : ByteArray).size = 1 from rfl]; omega
      have hq2 : ¬ 9223372036854775807 < (ztext Z ++ (⟨#[112]⟩ : ByteArray)).size + (ztext K).size := by rw [ByteArray.size_append, show (⟨#[112]⟩ : ByteArray).size = 1 from rfl]; omega
      have hq3 : ¬ 9223372036854775807 < (ztext Z).size + (⟨#[47]⟩ : ByteArray).size := by rw [show (⟨#[47]⟩ : ByteArray).size = 1 from rfl]; omega
      have hq4 : ¬ 9223372036854775807 < (ztext Z ++ (⟨#[47]⟩ : ByteArray)).size + (ztext ((2 ^ a : Nat) : Int)).size := by rw [ByteArray.size_append, show (⟨#[47]⟩ : ByteArray).size = 1 from rfl]; omega
      generalize ztext ((2 ^ a : Nat) : Int) = ta at *
      go_wp2_with fail
      refine (c8.out _).mono ?_
      rintro e w7 ⟨⟨s2, rfl, hs2, hz2⟩, hb⟩
      replace X2 := X2.later hb
      replace hB := nxt hB hb
      clear hb
      go_wp2_with fail
      refine (c9.out s2 _ hs2 hz2 hB).mono ?_
      rintro e w8 ⟨rfl, hb⟩
      replace X2 := X2.later hb
      replace hB := nxt hB hb
      clear hb hs2 hz2
      obtain ⟨q1, q2, q3, _, _, _⟩ := X2.three
      go_wp2_with fail
      refine (cA.out _ hB).mono ?_
      rintro e wy ⟨rfl, hb⟩
      replace X2 := X2.later hb
      replace hB := nxt hB hb
      replace q1 := cell_later hb q1
      replace q2 := cell_later hb q2
      replace q3 := cell_later hb q3
      clear hb
      go_wp2_with fail
      refine (cD.out _ hB).mono ?_
      rintro e wy ⟨rfl, hb⟩
      replace X2 := X2.later hb
      replace hB := nxt hB hb
      replace q1 := cell_later hb q1
      replace q2 := cell_later hb q2
      replace q3 := cell_later hb q3
      clear hb
      go_wp2_with fail
      refine (cB.out _ hB).mono ?_
      rintro e wy ⟨rfl, hb⟩
      replace X2 := X2.later hb
      replace hB := nxt hB hb
      replace q1 := cell_later hb q1
      replace q2 := cell_later hb q2
      replace q3 := cell_later hb q3
      clear hb
      go_wp2_with fail
      refine (cE.out _ hB).mono ?_
      rintro e wy ⟨rfl, hb⟩
      replace X2 := X2.later hb
      replace hB := nxt hB hb
      replace q1 := cell_later hb q1
      replace q2 := cell_later hb q2
      replace q3 := cell_later hb q3
      clear hb
      go_wp2_with fail
      refine (cC.out _ hB).mono ?_
      rintro e wy ⟨rfl, hb⟩
      replace X2 := X2.later hb
      replace hB := nxt hB hb
      replace q1 := cell_later hb q1
      replace q2 := cell_later hb q2
      replace q3 := cell_later hb q3
      clear hb
      go_wp2_with fail
      refine (HA.out _ hB).mono ?_
      rintro e wz ⟨rfl, hb⟩
      go_wp2
      go_ret
      exact ⟨rfl, nxt hB hb⟩
  · have hg : (24 : Int) < (s.size : Int) := by omega
    clear X1
    go_wp2_with fail
    refine (HA.out _ hB).mono ?_
    rintro e w5 ⟨rfl, hb⟩
    go_wp2
    go_ret
    exact ⟨rfl, nxt hB hb⟩
end Go.Proofs.YtkgogbmeehiloaaGreatDoor

