/- The walks and plain laws beneath the statements. -/
import Derived.Test.YtkgogbmeehiloaaGreatDoorPK29
import Derived.Test.YtkgogbmeehiloaaGreatDoorPK30
namespace Go.Proofs.YtkgogbmeehiloaaGreatDoor
open Go Go.RowKit Go.Lib Go.Sort

theorem bytesq {s t : ByteArray} : (s.toList == t.toList) = decide (s = t) := by
  rw [ByteArray.toList_eq, ByteArray.toList_eq]
  obtain ⟨⟨x⟩⟩ := s
  obtain ⟨⟨y⟩⟩ := t
  by_cases h : x = y
  · subst h; simp
  · simp [h]
theorem dy_sameq {x y : Dyadic} : ((neg (dm x) == neg (dm y) && (mag (dm x)).toList == (mag (dm y)).toList) && de x == de y) = decide (x = y) := by
  by_cases h : x = y
  · subst h; simp
  · rw [decide_eq_false h, Bool.and_eq_false_iff]
    by_cases h3 : de x = de y
    · left
      rw [bytesq]
      by_cases h1 : neg (dm x) = neg (dm y)
      · by_cases h2 : mag (dm x) = mag (dm y)
        · refine absurd ?_ h
          have e1 := ival_mk (dm x)
          have e2 := ival_mk (dm y)
          rw [h1, h2, e2] at e1
          rw [← dy_dm x, ← dy_dm y, ← e1, h3]
        · simp [h2]
      · simp [h1]
    · right; simpa using h3
theorem lnum_eq (W : World) (p q : Operand) (x y : Dyadic) : RunOk Tryz.prog W (do eqGuard .eql 38 p q (vN x) (vN y); binOp .eql 38 (vN x) (vN y)) (.bool (decide (x = y))) := by
  rw [← dy_sameq]; exact num_eql W p q _ _ _ _ _ _
theorem lnum_eq1 (W : World) (p q : Operand) (x y : Dyadic) (h : x = y) : RunOk Tryz.prog W (do eqGuard .eql 38 p q (vN x) (vN y); binOp .eql 38 (vN x) (vN y)) (.bool true) := by
  have c := lnum_eq W p q x y
  rwa [decide_eq_true h] at c
/-! Sizes. -/
theorem dm_bsz {b : Bool} {s : ByteArray} {e : Int} {n : Nat} (hs : s.size ≤ n) : bsz (dm (dy (ival b (sval s)) e)) ≤ n := Nat.le_trans (bsz_natAbs_le (dm_le _ _)) (Nat.le_trans (bsz_ival b s) hs)
theorem zt_bsz {z : Int} {n : Nat} (h : bsz z ≤ n) : (ztext z).size ≤ 3 * n + 2 := by
  have h1 := ztext_size z
  have h2 := lt_bsz z
  have h3 : z.natAbs < 256 ^ n := Nat.lt_of_lt_of_le h2 (Nat.pow_le_pow_right (by decide) h)
  have h4 := nDigits_256 h3
  omega
theorem zt_small {z : Int} (h : -1000000 ≤ z ∧ z ≤ 1000000) : (ztext z).size ≤ 8 := by
  have h1 := ztext_size z
  have h2 : nDigits z.natAbs ≤ 7 := nDigits_le (by omega) (by decide)
  omega
theorem de_small {b : Bool} {s : ByteArray} {e : Int} (hs : s.size ≤ 1000) (he : -100000 ≤ e ∧ e ≤ 100000) : -1000000 ≤ de (dy (ival b (sval s)) e) ∧ de (dy (ival b (sval s)) e) ≤ 1000000 := by
  have h1 : (ival b (sval s)).natAbs < 256 ^ s.size := by rw [ival_natAbs]; exact sval_lt s
  rcases de_bd (e := e) h1 with ⟨_, h2⟩ | h2
  · omega
  · omega
theorem cat1 {b : Bool} {s : ByteArray} {e : Int} (hs : s.size ≤ 1000) : (ztext (dm (dy (ival b (sval s)) e))).size + (⟨#[112]⟩ : ByteArray).size ≤ 9223372036854775807 := by
  have h := zt_bsz (dm_bsz (b := b) (e := e) hs)
  show _ + 1 ≤ _
  omega
theorem cat2 {b : Bool} {s : ByteArray} {e : Int} (hs : s.size ≤ 1000) (he : -100000 ≤ e ∧ e ≤ 100000) : (ztext (dm (dy (ival b (sval s)) e)) ++ (⟨#[112]⟩ : ByteArray)).size + (ztext (de (dy (ival b (sval s)) e))).size ≤ 9223372036854775807 := by
  have h := zt_bsz (dm_bsz (b := b) (e := e) hs)
  have h2 := zt_small (de_small (b := b) hs he)
  rw [ByteArray.size_append]
  show _ + 1 + _ ≤ _
  omega
/-! Contracts. -/
theorem itoa_any2 (n : Int) (W : World) (h : -1000000 ≤ n ∧ n ≤ 1000000) (hT : Tab10 W) : Calls Tryz.prog 47 #[.int .i64 n] W fun e w' => e = .returned (.string (ztext n)) ∧ Below W.heap.size W w' := by
  refine (Tryz.strconv_Itoa n (by omega) (by omega) W hT).mono ?_
  rintro e w' ⟨rfl, k, os, rfl⟩
  have hg : Below W.heap.size W (grow (W.drewN k) os) := ⟨rfl, rfl, rfl, by show W.heap.size ≤ (W.heap ++ os).size; rw [Array.size_append]; omega, fun j hj => by show (W.heap ++ os)[j]? = _; rw [Array.getElem?_append_left hj]⟩
  exact ⟨rfl, hg⟩
theorem lMake (z e : Int) (W : World) (hs : bsz z ≤ 65536) (he : -1000000 ≤ e ∧ e ≤ 1000000) (hT : Tab0 W) : Calls Tryz.prog 26 #[.agg #[.bool (neg z), .string (mag z)], .int .i64 e] W fun r w' => r = .returned (vN (dy z e)) ∧ Below W.heap.size W w' := by
  have c := dMake_any (mag z) (neg z) e W (by rw [mag_size]; omega) (by omega) (by omega) hT
  rwa [ival_mk] at c
theorem lOf (z : Int) (W : World) (h1 : -9223372036854775808 ≤ z) (h2 : z ≤ 9223372036854775807) : Calls Tryz.prog 77 #[.int .i64 z] W fun r w' => r = .returned (vN (dy z 0)) ∧ Below W.heap.size W w' := rdOf_any z W h1 h2
theorem lrShift (x : Dyadic) (p : Int) (W : World) (hs : bsz (dm x) ≤ 65536) (h1 : -100000 ≤ de x + p) (h2 : de x + p ≤ 100000) : Calls Tryz.prog 76 #[.agg #[.bool (neg (dm x)), .string (mag (dm x)), .int .i64 (de x)], .int .i64 p] W fun r w' => r = .returned (vN (dy (dm x) (de x + p))) ∧ Below W.heap.size W w' := by
  have c := rdShift_any (mag (dm x)) (neg (dm x)) (de x) p W (by rw [mag_size]; omega) (by omega) (by omega)
  rwa [ival_mk] at c
/-! Parts of a text. -/
def takeS (s : ByteArray) (k : Nat) : ByteArray := ⟨(s.data.toList.take k).toArray⟩
def dropS (s : ByteArray) (k : Nat) : ByteArray := ⟨(s.data.toList.drop k).toArray⟩
theorem takeS_list (s : ByteArray) (k : Nat) : (takeS s k).data.toList = s.data.toList.take k := by simp [takeS]
theorem dropS_list (s : ByteArray) (k : Nat) : (dropS s k).data.toList = s.data.toList.drop k := by simp [dropS]
theorem takeS_size (s : ByteArray) (k : Nat) : (takeS s k).size ≤ s.size := by
  have h : (takeS s k).data.toList.length = (takeS s k).size := by simp
  have h2 : s.data.toList.length = s.size := by simp
  rw [takeS_list, List.length_take] at h; omega
theorem dropS_size (s : ByteArray) (k : Nat) : (dropS s k).size ≤ s.size := by
  have h : (dropS s k).data.toList.length = (dropS s k).size := by simp
  have h2 : s.data.toList.length = s.size := by simp
  rw [dropS_list, List.length_drop] at h; omega
end Go.Proofs.YtkgogbmeehiloaaGreatDoor

namespace Go.Proofs.YtkgogbmeehiloaaGreatDoor
open Go Go.RowKit Go.Lib

theorem take_ext (s : ByteArray) (k : Nat) : s.extract 0 k = takeS s k := by
  apply ByteArray.ext
  rw [ByteArray.data_extract]
  unfold takeS
  apply Array.ext'
  simp
theorem drop_ext (s : ByteArray) (k : Nat) : s.extract k s.size = dropS s k := by
  apply ByteArray.ext
  rw [ByteArray.data_extract]
  unfold dropS
  apply Array.ext'
  have h : s.data.toList.length = s.size := by simp
  simp
  rw [List.take_of_length_le (by simp)]
theorem str_cutl (W : World) (s : ByteArray) (k : Nat) (h : k ≤ s.size) : RunOk Tryz.prog W (Instr.sliceAt 9 (.string s) none (some (.int .i64 (k : Int))) none) (.string (takeS s k)) := fun W' _ => by
  rw [run_sliceAt_string (h := Tryz.underlying9), run_slice_string_h (ht := Tryz.underlying9) (h0 := by omega) (h2 := by omega), ← take_ext]; rfl
theorem str_cutr (W : World) (s : ByteArray) (k : Nat) (h : k ≤ s.size) : RunOk Tryz.prog W (Instr.sliceAt 9 (.string s) (some (.int .i64 (k : Int))) none none) (.string (dropS s k)) := fun W' _ => by
  rw [run_sliceAt_string (h := Tryz.underlying9), run_slice_string_l (ht := Tryz.underlying9) (h0 := by omega) (h1 := by omega), ← drop_ext]; rfl
theorem dParseP (s : ByteArray) (W : World) (hs : s.size ≤ 65536) : Calls Tryz.prog 9 #[.string s] W fun e w' => e = .returned (.tuple #[vI (pz s.data.toList), .int .i64 (pI s.data.toList), .int .i64 (pE s.data.toList)]) ∧ Below W.heap.size W w' := by
  have c := (parse_r hs W).at
  rwa [dpV_parts] at c
theorem wSmallP (z : Int) (W : World) (hs : bsz z ≤ 65536) : Calls Tryz.prog 53 #[.agg #[.bool (neg z), .string (mag z)]] W fun e w' => e = .returned (.tuple #[.int .i64 (smN z), .bool (smB z)]) ∧ Below W.heap.size W w' := by
  have c := wSmall_any (mag z) (neg z) W (by rw [mag_size]; omega)
  rwa [ival_mk, smallV_parts] at c
theorem pz_bsz {l : List UInt8} {n : Nat} (h : l.length ≤ n) : bsz (pz l) ≤ n := by
  unfold pz
  cases e : parseAt l with
  | some i => exact Nat.le_trans (show bsz 0 ≤ 0 by decide) (Nat.zero_le _)
  | none =>
    have h1 := bsz_itoa (parseZ l)
    rw [itoa_parse e] at h1
    exact Nat.le_trans h1 h
theorem tk_len (s : ByteArray) (k : Nat) : (takeS s k).data.toList.length ≤ s.size := by
  have h := takeS_size s k
  simpa using h
theorem dr_len (s : ByteArray) (k : Nat) : (dropS s k).data.toList.length ≤ s.size := by
  have h := dropS_size s k
  simpa using h
theorem sgK_sz (s : ByteArray) : sgK s.data.toList ≤ s.size := by
  have h := sgK_le s.data.toList
  simpa using h
theorem sgC_0 {s : ByteArray} (h : (sgC s.data.toList == 0) = false) : sgK s.data.toList + 1 ≤ s.size := by
  have h1 := ben h
  have h2 := sgK_sz s
  rcases Nat.lt_or_ge (sgK s.data.toList) s.size with h3 | h3
  · exact h3
  · exact absurd (by unfold sgC; rw [if_pos (by have h4 : s.data.toList.length = s.size := by simp
                                                omega)]) h1
theorem kI1 {s : ByteArray} (hs : s.size ≤ 60000) : IntKind.i64.wrap ((sgK s.data.toList : Int) + 1) = ((sgK s.data.toList + 1 : Nat) : Int) := wnat1 (by have := sgK_sz s; omega)
theorem kI2 {s : ByteArray} (hs : s.size ≤ 60000) : IntKind.i64.wrap (((sgK s.data.toList + 1 : Nat) : Int) + pI (dropS s (sgK s.data.toList + 1)).data.toList) = (sgK s.data.toList : Int) + 1 + pI (dropS s (sgK s.data.toList + 1)).data.toList := by
  have h1 := sgK_sz s
  have h2 := pI_bd (dropS s (sgK s.data.toList + 1)).data.toList
  have h3 := dr_len s (sgK s.data.toList + 1)
  rw [IntWalk.i64_in _ (by omega)]; omega
theorem nde {z : Int} {n : Nat} (h : bsz z ≤ n) (hn : n ≤ 60000) : IntKind.i64.wrap (0 - de (dy z 0)) = -de (dy z 0) := by
  have h1 : z.natAbs < 256 ^ n := Nat.lt_of_lt_of_le (lt_bsz z) (Nat.pow_le_pow_right (by decide) h)
  have h2 := de_bd (e := 0) h1
  rw [IntWalk.i64_in _ (by rcases h2 with h2 | h2 <;> omega)]; omega
theorem de_rng {z : Int} {n : Nat} (h : bsz z ≤ n) (hn : n ≤ 60000) : -1000000 ≤ -de (dy z 0) ∧ -de (dy z 0) ≤ 1000000 := by
  have h1 : z.natAbs < 256 ^ n := Nat.lt_of_lt_of_le (lt_bsz z) (Nat.pow_le_pow_right (by decide) h)
  have h2 := de_bd (e := 0) h1
  rcases h2 with h2 | h2 <;> omega
theorem litW_eq {l : List UInt8} {x : Dyadic} {i e : Int} (h : litV l = (x, i, e)) : (.tuple #[vN x, .int .i64 i, .int .i64 e] : Value) = litW l := by unfold litW; rw [h]
section
variable {s : ByteArray}
theorem lw1 (h : (pE (takeS s (sgK s.data.toList)).data.toList != 0) = true) : litV s.data.toList = (0, pI (takeS s (sgK s.data.toList)).data.toList, pE (takeS s (sgK s.data.toList)).data.toList) := by
  obtain ⟨h1, i, h2, h3⟩ := pE_ne h
  rw [h1, h3]
  rw [takeS_list] at h2
  unfold litV; rw [h2]
theorem lw2 (h : (pE (takeS s (sgK s.data.toList)).data.toList != 0) = false) (h0 : (sgC s.data.toList == 0) = true) : litV s.data.toList = (dy (pz (takeS s (sgK s.data.toList)).data.toList) 0, 0, 0) := by
  obtain ⟨h1, h2⟩ := pE_eq h
  rw [h2]
  rw [takeS_list] at h1 ⊢
  unfold litV; rw [h1, if_pos (bey h0)]
theorem lw3 (h : (pE (takeS s (sgK s.data.toList)).data.toList != 0) = false) (h0 : (sgC s.data.toList == 0) = false) (hd : (pE (dropS s (sgK s.data.toList + 1)).data.toList != 0) = true) : litV s.data.toList = (0, (sgK s.data.toList : Int) + 1 + pI (dropS s (sgK s.data.toList + 1)).data.toList, pE (dropS s (sgK s.data.toList + 1)).data.toList) := by
  obtain ⟨h1, _⟩ := pE_eq h
  obtain ⟨h4, i, h5, h6⟩ := pE_ne hd
  rw [h4, h6]
  rw [takeS_list] at h1
  rw [dropS_list] at h5
  unfold litV; rw [h1, if_neg (ben h0), h5]
theorem lw_in (h : (pE (takeS s (sgK s.data.toList)).data.toList != 0) = false) (h0 : (sgC s.data.toList == 0) = false) (hd : (pE (dropS s (sgK s.data.toList + 1)).data.toList != 0) = false) : litV s.data.toList = if sgC s.data.toList = 47 then (if dm (dy (pz (dropS s (sgK s.data.toList + 1)).data.toList) 0) = 1 then (dy (pz (takeS s (sgK s.data.toList)).data.toList) (-de (dy (pz (dropS s (sgK s.data.toList + 1)).data.toList) 0)), 0, 0) else (0, 0, 1))
      else if -32768 ≤ pz (dropS s (sgK s.data.toList + 1)).data.toList ∧ pz (dropS s (sgK s.data.toList + 1)).data.toList ≤ 32768 then (dy (pz (takeS s (sgK s.data.toList)).data.toList) (pz (dropS s (sgK s.data.toList + 1)).data.toList), 0, 0) else (0, 0, 3) := by
  obtain ⟨h1, h2⟩ := pE_eq h
  obtain ⟨h3, h4⟩ := pE_eq hd
  rw [h2, h4]
  rw [takeS_list] at h1 ⊢
  rw [dropS_list] at h3 ⊢
  conv => lhs; unfold litV
  rw [h1, if_neg (ben h0), h3]
theorem lw4 (h : (pE (takeS s (sgK s.data.toList)).data.toList != 0) = false) (h0 : (sgC s.data.toList == 0) = false) (hd : (pE (dropS s (sgK s.data.toList + 1)).data.toList != 0) = false) (hq : (sgC s.data.toList == 47) = true) (hp : decide (dm (dy (pz (dropS s (sgK s.data.toList + 1)).data.toList) 0) = 1) = true) : litV s.data.toList = (dy (pz (takeS s (sgK s.data.toList)).data.toList) (-de (dy (pz (dropS s (sgK s.data.toList + 1)).data.toList) 0)), 0, 0) := by
  rw [lw_in h h0 hd, if_pos (bey hq), if_pos (of_decide_eq_true hp)]
theorem lw5 (h : (pE (takeS s (sgK s.data.toList)).data.toList != 0) = false) (h0 : (sgC s.data.toList == 0) = false) (hd : (pE (dropS s (sgK s.data.toList + 1)).data.toList != 0) = false) (hq : (sgC s.data.toList == 47) = true) (hp : decide (dm (dy (pz (dropS s (sgK s.data.toList + 1)).data.toList) 0) = 1) = false) : litV s.data.toList = (0, 0, 1) := by
  rw [lw_in h h0 hd, if_pos (bey hq), if_neg (of_decide_eq_false hp)]
theorem sm_in {z : Int} (hb : smB z = true) : smN z = z := by
  unfold smB at hb; unfold smN; rw [if_pos (of_decide_eq_true hb)]
theorem lw6 (h : (pE (takeS s (sgK s.data.toList)).data.toList != 0) = false) (h0 : (sgC s.data.toList == 0) = false) (hd : (pE (dropS s (sgK s.data.toList + 1)).data.toList != 0) = false) (hq : (sgC s.data.toList == 47) = false) (hb : smB (pz (dropS s (sgK s.data.toList + 1)).data.toList) = true) (h1 : decide ((smN (pz (dropS s (sgK s.data.toList + 1)).data.toList)) > 32768) = false) (h2 : decide ((smN (pz (dropS s (sgK s.data.toList + 1)).data.toList)) < (-32768)) = false) : litV s.data.toList = (dy (pz (takeS s (sgK s.data.toList)).data.toList) (smN (pz (dropS s (sgK s.data.toList + 1)).data.toList)), 0, 0) := by
  rw [sm_in hb] at h1 h2 ⊢
  have := of_decide_eq_false h1
  have := of_decide_eq_false h2
  rw [lw_in h h0 hd, if_neg (ben hq), if_pos (by omega)]
theorem lw7 (h : (pE (takeS s (sgK s.data.toList)).data.toList != 0) = false) (h0 : (sgC s.data.toList == 0) = false) (hd : (pE (dropS s (sgK s.data.toList + 1)).data.toList != 0) = false) (hq : (sgC s.data.toList == 47) = false) (hb : smB (pz (dropS s (sgK s.data.toList + 1)).data.toList) = false ∨ smN (pz (dropS s (sgK s.data.toList + 1)).data.toList) > 32768 ∨ smN (pz (dropS s (sgK s.data.toList + 1)).data.toList) < -32768) : litV s.data.toList = (0, 0, 3) := by
  rw [lw_in h h0 hd, if_neg (ben hq), if_neg ?_]
  intro hin
  have hb1 : smB (pz (dropS s (sgK s.data.toList + 1)).data.toList) = true := decide_eq_true (by omega)
  rw [hb1, sm_in hb1] at hb
  rcases hb with hb | hb | hb
  · cases hb
  · omega
  · omega
theorem sm_w {z : Int} (h1 : decide ((smN z) > 32768) = false) (h2 : decide ((smN z) < (-32768)) = false) : -1000000 ≤ smN z ∧ smN z ≤ 1000000 := by
  have := of_decide_eq_false h1
  have := of_decide_eq_false h2
  omega
end
end Go.Proofs.YtkgogbmeehiloaaGreatDoor

namespace Go.Proofs.YtkgogbmeehiloaaGreatDoor
open Go Go.RowKit Go.Lib


set_option maxRecDepth 100000 in
theorem lprint_r {b : Bool} {s : ByteArray} {e : Int} (hs : s.size ≤ 1000) (he : -100000 ≤ e ∧ e ≤ 100000) (w : World) (hT : Tab0 w) (h10 : Tab10 w) : RetAt Tryz.prog w 17 #[rN b s e] (.string (ntext (dy (ival b (sval s)) e))) := 
  ret_sk ttOk mixed (fun a w => Tryz.call17 a w) Tryz.func17 Tryz.ntmps17 Tryz.results17 _ rfl _ [.o 1 1 (.ret (.val (vN (dy (ival b (sval s)) e)))), .both [.o 3 2 (.ret (.val (.string (ztext (dm (dy (ival b (sval s)) e))))))] [.reg 9 [], .o 4 2 (.ret (.val (.string (ztext (dm (dy (ival b (sval s)) e)))))), .o 4 3 (.set (.string (ztext (dm (dy (ival b (sval s)) e)) ++ (⟨#[112]⟩ : ByteArray)))), .o 4 6 (.ret (.val (.string (ztext (de (dy (ival b (sval s)) e)))))), .o 4 7 (.set (.string (ntext (dy (ival b (sval s)) e))))]] (fun W hW hR => (fun (h10 : Tab10 W) => (fun (hT : Tab0 W) => ai (rt hT Tryz.call22 fun W h => dForm_any s b e W (by omega) (by omega) (by omega) h) <| ai (fun hz : ((de (dy (ival b (sval s)) e)) == 0) = true => ai (rt10 h10 Tryz.call11 fun W h => dPrint_m (dm (dy (ival b (sval s)) e)) W (Nat.le_trans (dm_bsz hs) (by decide)) h) <| (show (.string (ztext (dm (dy (ival b (sval s)) e))) : Value) = .string (ntext (dy (ival b (sval s)) e)) from congrArg Value.string (ntext_z hz))) fun hz : ((de (dy (ival b (sval s)) e)) == 0) = false => ai (rt10 h10 Tryz.call11 fun W h => dPrint_m (dm (dy (ival b (sval s)) e)) W (Nat.le_trans (dm_bsz hs) (by decide)) h) <| ai (str_add W (.tmp 14) (.const (.string ⟨#[112]⟩)) (ztext (dm (dy (ival b (sval s)) e))) ⟨#[112]⟩ (cat1 hs)) <| ai (rt10 h10 Tryz.call47 fun W h => itoa_any2 (de (dy (ival b (sval s)) e)) W (de_small hs he) h) <| ai (str_addc W (.tmp 15) (.tmp 18) (ztext (dm (dy (ival b (sval s)) e)) ++ (⟨#[112]⟩ : ByteArray)) (ztext (de (dy (ival b (sval s)) e))) (ntext (dy (ival b (sval s)) e)) (cat2 hs he) (ntext_p hz)) <| hR) (tab_keep hT hW)) (h10.later hW)) fun W => by kernel_rfl

set_option maxRecDepth 100000 in
theorem power_r {z : Int} (hz : bsz z ≤ 65536) (w : World) (hT : Tab0 w) : RetAt Tryz.prog w 52 #[vI (z)] (.tuple #[.int .i64 (de (dy z 0)), .bool (decide ((dm (dy z 0)) = 1))]) := 
  ret_sk ttOk mixed (fun a w => Tryz.call52 a w) Tryz.func52 Tryz.ntmps52 Tryz.results52 _ rfl _ [.o 1 1 (.ret (.val (vN (dy z 0)))), .reg 8 [], .o 2 4 (.ret (.val (vI (1)))), .o 2 5 (.set (.bool (decide ((dm (dy z 0)) = 1))))] (fun W hW hR => (fun (hT : Tab0 W) => ai (rt hT Tryz.call26 fun W h => lMake z 0 W hz (by decide) h) <| ai (rc W Tryz.call56 fun W => wOf_any 1 W (by decide) (by decide)) <| ai (int_eq W (.tmp 10) (.tmp 11) (dm (dy z 0)) 1) <| hR) (tab_keep hT hW)) fun W => by kernel_rfl

set_option maxRecDepth 100000 in
theorem lparse_r {s : ByteArray} (hs : s.size ≤ 60000) (w : World) (hT : Tab0 w) : RetAt Tryz.prog w 25 #[.string s] (litW s.data.toList) := 
  ret_sk ttOk mixed (fun a w => Tryz.call25 a w) Tryz.func25 Tryz.ntmps25 Tryz.results25 _ rfl _ [.o 1 1 (.ret (.tup [.val (.int .i32 (sgC s.data.toList)), .val (.int .i64 (sgK s.data.toList : Int))])), .o 2 2 (.set (.string (takeS s (sgK s.data.toList)))), .o 2 3 (.ret (.tup [.val (vI (pz (takeS s (sgK s.data.toList)).data.toList)), .val (.int .i64 (pI (takeS s (sgK s.data.toList)).data.toList)), .val (.int .i64 (pE (takeS s (sgK s.data.toList)).data.toList))])), .both [] [.both [.o 6 1 (.ret (.val (vN (dy (pz (takeS s (sgK s.data.toList)).data.toList) 0))))] [.o 7 2 (.eq (.val (.int .i64 ((sgK s.data.toList + 1 : Nat) : Int)))), .o 7 3 (.set (.string (dropS s (sgK s.data.toList + 1)))), .o 7 4 (.ret (.tup [.val (vI (pz (dropS s (sgK s.data.toList + 1)).data.toList)), .val (.int .i64 (pI (dropS s (sgK s.data.toList + 1)).data.toList)), .val (.int .i64 (pE (dropS s (sgK s.data.toList + 1)).data.toList))])), .both [.o 9 2 (.eq (.val (.int .i64 ((sgK s.data.toList + 1 : Nat) : Int)))), .o 9 4 (.eq (.val (.int .i64 ((sgK s.data.toList : Int) + 1 + pI (dropS s (sgK s.data.toList + 1)).data.toList))))] [.both [.o 11 1 (.ret (.tup [.val (.int .i64 (de (dy (pz (dropS s (sgK s.data.toList + 1)).data.toList) 0))), .val (.bool (decide ((dm (dy (pz (dropS s (sgK s.data.toList + 1)).data.toList) 0)) = 1)))])), .both [] [.o 14 2 (.eq (.val (.int .i64 (-de (dy (pz (dropS s (sgK s.data.toList + 1)).data.toList) 0))))), .o 14 3 (.ret (.val (vN (dy (pz (takeS s (sgK s.data.toList)).data.toList) (-de (dy (pz (dropS s (sgK s.data.toList + 1)).data.toList) 0))))))]] [.o 15 1 (.ret (.tup [.val (.int .i64 (smN (pz (dropS s (sgK s.data.toList + 1)).data.toList))), .val (.bool (smB (pz (dropS s (sgK s.data.toList + 1)).data.toList)))])), .gb 16 3 [.g 16 4 true, .o 16 5 (.pk false), .gb 16 7 [.g 16 8 true, .o 16 9 (.pk false), .both [] [.o 18 2 (.ret (.val (vN (dy (pz (takeS s (sgK s.data.toList)).data.toList) (smN (pz (dropS s (sgK s.data.toList + 1)).data.toList))))))]] [.g 16 8 false, .o 16 9 (.pk true)]] [.g 16 4 false, .o 16 5 (.pk true)]]]]]] (fun W hW hR => (fun (hT : Tab0 W) => ai (rc W Tryz.call51 fun W => sign_any s W (by omega)) <| ai (str_cutl W s (sgK s.data.toList) (sgK_sz s)) <| ai (rc W Tryz.call9 fun W => dParseP (takeS s (sgK s.data.toList)) W (by have := takeS_size s (sgK s.data.toList); omega)) <| ai (fun h : ((pE (takeS s (sgK s.data.toList)).data.toList) != 0) = true => (show (.tuple #[rN false ⟨#[]⟩ 0, .int .i64 (pI (takeS s (sgK s.data.toList)).data.toList), .int .i64 (pE (takeS s (sgK s.data.toList)).data.toList)] : Value) = litW s.data.toList from litW_eq (lw1 h))) fun h : ((pE (takeS s (sgK s.data.toList)).data.toList) != 0) = false => ai (fun h0 : ((sgC s.data.toList) == 0) = true => ai (rt hT Tryz.call26 fun W h => lMake (pz (takeS s (sgK s.data.toList)).data.toList) 0 W (Nat.le_trans (pz_bsz (tk_len s (sgK s.data.toList))) (by omega)) (by decide) h) <| (show (.tuple #[vN (dy (pz (takeS s (sgK s.data.toList)).data.toList) 0), .int .i64 0, .int .i64 0] : Value) = litW s.data.toList from litW_eq (lw2 h h0))) fun h0 : ((sgC s.data.toList) == 0) = false => ai (show IntKind.i64.wrap ((sgK s.data.toList : Int) + 1) = ((sgK s.data.toList + 1 : Nat) : Int) from kI1 (by omega)) <| ai (str_cutr W s (sgK s.data.toList + 1) (sgC_0 h0)) <| ai (rc W Tryz.call9 fun W => dParseP (dropS s (sgK s.data.toList + 1)) W (by have := dropS_size s (sgK s.data.toList + 1); omega)) <| ai (fun hd : ((pE (dropS s (sgK s.data.toList + 1)).data.toList) != 0) = true => ai (show IntKind.i64.wrap ((sgK s.data.toList : Int) + 1) = ((sgK s.data.toList + 1 : Nat) : Int) from kI1 (by omega)) <| ai (show IntKind.i64.wrap (((sgK s.data.toList + 1 : Nat) : Int) + pI (dropS s (sgK s.data.toList + 1)).data.toList) = (sgK s.data.toList : Int) + 1 + pI (dropS s (sgK s.data.toList + 1)).data.toList from kI2 (by omega)) <| (show (.tuple #[rN false ⟨#[]⟩ 0, .int .i64 ((sgK s.data.toList : Int) + 1 + pI (dropS s (sgK s.data.toList + 1)).data.toList), .int .i64 (pE (dropS s (sgK s.data.toList + 1)).data.toList)] : Value) = litW s.data.toList from litW_eq (lw3 h h0 hd))) fun hd : ((pE (dropS s (sgK s.data.toList + 1)).data.toList) != 0) = false => ai (fun hq : ((sgC s.data.toList) == 47) = true => ai (rt hT Tryz.call52 fun W h => (power_r (z := pz (dropS s (sgK s.data.toList + 1)).data.toList) (Nat.le_trans (pz_bsz (dr_len s (sgK s.data.toList + 1))) (by omega)) W h).at) <| ai (fun hp : (!(decide ((dm (dy (pz (dropS s (sgK s.data.toList + 1)).data.toList) 0)) = 1))) = true => (show (.tuple #[rN false ⟨#[]⟩ 0, .int .i64 0, .int .i64 1] : Value) = litW s.data.toList from litW_eq (lw5 h h0 hd hq (by simpa using hp)))) fun hp : (!(decide ((dm (dy (pz (dropS s (sgK s.data.toList + 1)).data.toList) 0)) = 1))) = false => ai (nde (pz_bsz (dr_len s (sgK s.data.toList + 1))) hs) <| ai (rt hT Tryz.call26 fun W h => lMake (pz (takeS s (sgK s.data.toList)).data.toList) (-de (dy (pz (dropS s (sgK s.data.toList + 1)).data.toList) 0)) W (Nat.le_trans (pz_bsz (tk_len s (sgK s.data.toList))) (by omega)) (de_rng (pz_bsz (dr_len s (sgK s.data.toList + 1))) hs) h) <| (show (.tuple #[vN (dy (pz (takeS s (sgK s.data.toList)).data.toList) (-de (dy (pz (dropS s (sgK s.data.toList + 1)).data.toList) 0))), .int .i64 0, .int .i64 0] : Value) = litW s.data.toList from litW_eq (lw4 h h0 hd hq (by simpa using hp)))) fun hq : ((sgC s.data.toList) == 47) = false => ai (rc W Tryz.call53 fun W => wSmallP (pz (dropS s (sgK s.data.toList + 1)).data.toList) W (Nat.le_trans (pz_bsz (dr_len s (sgK s.data.toList + 1))) (by omega))) <| ai (fun hb : (!(smB (pz (dropS s (sgK s.data.toList + 1)).data.toList))) = false => ai hb <| ai hb <| ai (fun hu : (decide ((smN (pz (dropS s (sgK s.data.toList + 1)).data.toList)) > 32768)) = false => ai hu <| ai hu <| ai (fun hv : (decide ((smN (pz (dropS s (sgK s.data.toList + 1)).data.toList)) < (-32768))) = true => (show (.tuple #[rN false ⟨#[]⟩ 0, .int .i64 0, .int .i64 3] : Value) = litW s.data.toList from litW_eq (lw7 h h0 hd hq (.inr (.inr (of_decide_eq_true hv)))))) fun hv : (decide ((smN (pz (dropS s (sgK s.data.toList + 1)).data.toList)) < (-32768))) = false => ai (rt hT Tryz.call26 fun W h => lMake (pz (takeS s (sgK s.data.toList)).data.toList) (smN (pz (dropS s (sgK s.data.toList + 1)).data.toList)) W (Nat.le_trans (pz_bsz (tk_len s (sgK s.data.toList))) (by omega)) (sm_w hu hv) h) <| (show (.tuple #[vN (dy (pz (takeS s (sgK s.data.toList)).data.toList) (smN (pz (dropS s (sgK s.data.toList + 1)).data.toList))), .int .i64 0, .int .i64 0] : Value) = litW s.data.toList from litW_eq (lw6 h h0 hd hq (by simpa using hb) hu hv))) fun hu : (decide ((smN (pz (dropS s (sgK s.data.toList + 1)).data.toList)) > 32768)) = (!false) => ai hu <| ai hu <| (show (.tuple #[rN false ⟨#[]⟩ 0, .int .i64 0, .int .i64 3] : Value) = litW s.data.toList from litW_eq (lw7 h h0 hd hq (.inr (.inl (of_decide_eq_true hu)))))) fun hb : (!(smB (pz (dropS s (sgK s.data.toList + 1)).data.toList))) = (!false) => ai hb <| ai hb <| (show (.tuple #[rN false ⟨#[]⟩ 0, .int .i64 0, .int .i64 3] : Value) = litW s.data.toList from litW_eq (lw7 h h0 hd hq (.inl (by simpa using hb))))) (tab_keep hT hW)) fun W => by kernel_rfl

theorem num_b {n p : Int} (hn : -1000 ≤ n ∧ n ≤ 1000) (hp : -1000 ≤ p ∧ p ≤ 1000) : -100000 ≤ de (dy n 0) + p ∧ de (dy n 0) + p ≤ 100000 := by
  have h1 : n.natAbs < 256 ^ 2 := by show n.natAbs < 65536; omega
  rcases de_bd (e := 0) h1 with ⟨_, h2⟩ | h2
  · omega
  · omega

set_option maxRecDepth 100000 in
theorem num_r {n p : Int} (hn : -1000 ≤ n ∧ n ≤ 1000) (hp : -1000 ≤ p ∧ p ≤ 1000) (w : World) : RetAt Tryz.prog w 45 #[.int .i64 n, .int .i64 p] (vN (dy (dm (dy n 0)) (de (dy n 0) + p))) := 
  ret_sk ttOk mixed (fun a w => Tryz.call45 a w) Tryz.func45 Tryz.ntmps45 Tryz.results45 _ rfl _ [.o 1 1 (.ret (.val (vN (dy n 0)))), .o 1 3 (.ret (.val (vN (dy (dm (dy n 0)) (de (dy n 0) + p)))))] (fun W hW hR => ai (rc W Tryz.call77 fun W => lOf n W (by omega) (by omega)) <| ai (rc W Tryz.call76 fun W => lrShift (dy n 0) p W (Nat.le_trans (bsz_natAbs_le (dm_le n 0)) (Nat.le_trans (bsz_small (by omega) (by omega)) (by decide))) (num_b hn hp).1 (num_b hn hp).2) <| hR) fun W => by kernel_rfl

theorem lParse_at {s : ByteArray} {x : Dyadic} {i e : Int} (hl : litV s.data.toList = (x, i, e)) (W : World) (hs : s.size ≤ 60000) (hT : Tab0 W) : Calls Tryz.prog 25 #[.string s] W fun r w' => r = .returned (.tuple #[vN x, .int .i64 i, .int .i64 e]) ∧ Below W.heap.size W w' := by
  have c := (lparse_r hs W hT).at
  rwa [← litW_eq hl] at c

set_option maxRecDepth 100000 in
theorem is_r {s : ByteArray} {x : Dyadic} (hs : s.size ≤ 60000) (hl : litV s.data.toList = (x, 0, 0)) (w : World) (hT : Tab0 w) : RetAt Tryz.prog w 23 #[.string s, vN (x)] (.bool true) := 
  ret_sk ttOk mixed (fun a w => Tryz.call23 a w) Tryz.func23 Tryz.ntmps23 Tryz.results23 _ rfl _ [.o 1 1 (.ret (.tup [.val (vN (x)), .val (.int .i64 0), .val (.int .i64 0)])), .o 2 2 (.set (.bool true))] (fun W hW hR => (fun (hT : Tab0 W) => ai (rt hT Tryz.call25 fun W h => lParse_at hl W hs h) <| ai (lnum_eq1 W (.tmp 14) (.tmp 15) x x rfl) <| hR) (tab_keep hT hW)) fun W => by kernel_rfl

set_option maxRecDepth 100000 in
theorem wrong_r {s : ByteArray} {i e : Int} (hs : s.size ≤ 60000) (hl : litV s.data.toList = (0, i, e)) (w : World) (hT : Tab0 w) : RetAt Tryz.prog w 46 #[.string s, .int .i64 i, .int .i64 e] (.bool true) := 
  ret_sk ttOk mixed (fun a w => Tryz.call46 a w) Tryz.func46 Tryz.ntmps46 Tryz.results46 _ rfl _ [.o 1 1 (.ret (.tup [.val (vN (0)), .val (.int .i64 i), .val (.int .i64 e)])), .o 2 2 (.set (.bool true)), .g 2 9 true, .g 2 10 true, .g 2 11 true, .o 2 12 (.pk true)] (fun W hW hR => (fun (hT : Tab0 W) => ai (rt hT Tryz.call25 fun W h => lParse_at hl W hs h) <| ai (lnum_eq1 W (.tmp 16) (.tmp 17) 0 0 rfl) <| ai (show (i == i) = true from beq_self_eq_true _) <| ai (show (i == i) = true from beq_self_eq_true _) <| ai (show (i == i) = true from beq_self_eq_true _) <| ai (show (i == i) = true from beq_self_eq_true _) <| (show (.bool (e == e) : Value) = .bool true from congrArg Value.bool (beq_self_eq_true _))) (tab_keep hT hW)) fun W => by kernel_rfl

set_option maxRecDepth 100000 in
theorem far_n {b : Bool} {s : ByteArray} {e : Int} (hf : s.size ≤ 24 ∧ -32000 ≤ e ∧ e ≤ 32000) (w : World) : RetAt Tryz.prog w 16 #[rN b s e] (.bool false) := 
  ret_sk ttOk mixed (fun a w => Tryz.call16 a w) Tryz.func16 Tryz.ntmps16 Tryz.results16 _ rfl _ [.g 1 6 true, .g 1 7 true, .g 1 8 true, .o 1 9 (.pk false), .g 1 11 true, .g 1 12 true, .g 1 13 true, .o 1 14 (.pk false)] (fun W hW hR => ai (show (decide ((s.size : Int) > 24)) = false from decide_eq_false (by omega)) <| ai (show (decide ((s.size : Int) > 24)) = false from decide_eq_false (by omega)) <| ai (show (decide ((s.size : Int) > 24)) = false from decide_eq_false (by omega)) <| ai (show (decide ((s.size : Int) > 24)) = false from decide_eq_false (by omega)) <| ai (show (decide (e < (-32000))) = false from decide_eq_false (by omega)) <| ai (show (decide (e < (-32000))) = false from decide_eq_false (by omega)) <| ai (show (decide (e < (-32000))) = false from decide_eq_false (by omega)) <| ai (show (decide (e < (-32000))) = false from decide_eq_false (by omega)) <| (show (.bool (decide (e > 32000)) : Value) = .bool false from congrArg Value.bool (decide_eq_false (by omega)))) fun W => by kernel_rfl

set_option maxRecDepth 100000 in
theorem far_y {b : Bool} {s : ByteArray} {e : Int} (hf : ¬ (s.size ≤ 24 ∧ -32000 ≤ e ∧ e ≤ 32000)) (w : World) : RetAt Tryz.prog w 16 #[rN b s e] (.bool true) := 
  ret_sk ttOk mixed (fun a w => Tryz.call16 a w) Tryz.func16 Tryz.ntmps16 Tryz.results16 _ rfl _ [.gb 1 6 [.g 1 7 true, .g 1 8 true, .o 1 9 (.pk false), .gb 1 11 [.g 1 12 true, .g 1 13 true, .o 1 14 (.pk false)] [.g 1 12 false, .g 1 13 false, .o 1 14 (.pk true)]] [.g 1 7 false, .g 1 8 false, .o 1 9 (.pk true)]] (fun W hW hR => ai (fun h1 : (decide ((s.size : Int) > 24)) = false => ai h1 <| ai h1 <| ai h1 <| ai (fun h2 : (decide (e < (-32000))) = false => ai h2 <| ai h2 <| ai h2 <| (show (.bool (decide (e > 32000)) : Value) = .bool true from congrArg Value.bool (by first | exact h3 | (have a1 := of_decide_eq_false h1; have a2 := of_decide_eq_false h2; have a3 : decide (e > 32000) = true := decide_eq_true (by omega); exact a3)))) fun h2 : (decide (e < (-32000))) = (!false) => ai h2 <| ai h2 <| ai h2 <| hR) fun h1 : (decide ((s.size : Int) > 24)) = (!false) => ai h1 <| ai h1 <| ai h1 <| hR) fun W => by kernel_rfl

end Go.Proofs.YtkgogbmeehiloaaGreatDoor

