/- The walks and plain laws beneath the statements. -/
import Derived.Test.YtkgogbmeehiloaaGreatDoorPK17
import Derived.Test.YtkgogbmeehiloaaGreatDoorPK26
import Derived.Test.YtkgogbmeehiloaaGreatDoorPK27
namespace Go.Proofs.YtkgogbmeehiloaaGreatDoor
open Go.RowKit Go.Lib

/-- 10 to the 18th. -/
def TB : Nat := 1000000000000000000
theorem TB_pos : 0 < TB := by decide
theorem smallV_in {z : Int} (h1 : -9223372036854775808 ≤ z) (h2 : z ≤ 9223372036854775807) : smallV z = .tuple #[.int .i64 z, .bool true] := by unfold smallV; rw [if_pos ⟨h1, h2⟩]
set_option maxRecDepth 100000 in
set_option maxHeartbeats 400000 in
theorem part_any (s : ByteArray) (w : World) (hs : s.size ≤ 16777216) (hv : sval s < 9223372036854775808) :
    Calls Tryz.prog 68 #[.string s] w fun e w' => e = .returned (.int .u64 (sval s : Nat)) ∧ Below w.heap.size w w' := by
  have c := Lib.hid (fun W => wSmall_any s false W hs)
  rw [show ival false (sval s) = (sval s : Int) from rfl, smallV_in (by omega) (by omega)] at c
  have hw : IntKind.u64.wrap (sval s : Int) = (sval s : Int) := by rw [IntKind.wrap_u64]; omega
  generalize sval s = v at *
  clear hv
  go_enter Tryz.func68, Tryz.ntmps68
  go_wp2_with fail
  refine (c.out _).mono ?_
  rintro e w1 ⟨rfl, hb⟩
  go_wp2
  go_ret
  exact ⟨rfl, hb⟩
theorem info_str : (Tryz.prog.info? 9).map (fun i => (i.zero, i.size, i.bytes)) = some (some (.string ⟨#[]⟩), 1, 16) := by kernel_rfl
/-- What a slice of texts has. -/
def padF (v j : Nat) : Value := .string ⟨(lowD 18 (v / TB ^ j)).toArray⟩
def figF (v k j : Nat) : Value := if j = k then .string ⟨(decDigits (v / TB ^ k)).toArray⟩ else padF v j
theorem dec_TB {v : Nat} (h : v / TB ≠ 0) : decDigits v = decDigits (v / TB) ++ lowD 18 v := dec_low 18 v h
theorem div_TB (v k : Nat) : v / TB ^ (k + 1) = v / TB ^ k / TB := by rw [Nat.div_div_eq_div_mul, Nat.pow_succ]
theorem rep48 : ∀ n, repeatL [48] n = List.replicate n 48
  | 0 => rfl
  | n + 1 => by rw [repeatL, rep48 n, List.replicate_succ]; rfl
theorem ba_append (l m : List UInt8) : (⟨l.toArray⟩ : ByteArray) ++ ⟨m.toArray⟩ = ⟨(l ++ m).toArray⟩ := by
  apply ByteArray.ext
  rw [ByteArray.data_append]
  simp
theorem pad_TB (r : Nat) (hr : r < TB) : (⟨(repeatL [48] (18 - nDigits r)).toArray⟩ : ByteArray) ++ ⟨(decDigits r).toArray⟩ = ⟨(lowD 18 r).toArray⟩ := by
  rw [lowD_pad 18 r (nDigits_le hr (by decide)), rep48, ba_append]
theorem ba_size (l : List UInt8) : (⟨l.toArray⟩ : ByteArray).size = l.length := by show l.toArray.size = _; simp
def svO : Value → Nat | .string s => sval s | _ => 0
theorem nDigits_mono {u v : Nat} (h : u ≤ v) : nDigits u ≤ nDigits v := nDigits_le (Nat.lt_of_le_of_lt h (lt_pow_nDigits v)) (nDigits_pos v)
theorem nDigits_256 {v n : Nat} (h : v < 256 ^ n) : nDigits v ≤ 3 * n + 1 := by
  refine nDigits_le ?_ (Nat.succ_pos _)
  have h1 : 256 ^ n ≤ 1000 ^ n := Nat.pow_le_pow_left (by decide) n
  have h2 : (1000 : Nat) ^ n = 10 ^ (3 * n) := by rw [show (1000 : Nat) = 10 ^ 3 from rfl, ← Nat.pow_mul]
  have h3 : (10 : Nat) ^ (3 * n) ≤ 10 ^ (3 * n + 1) := Nat.pow_le_pow_right (by decide) (Nat.le_succ _)
  omega
theorem TB_lt {v n k : Nat} (h : v < 256 ^ n) (hk : TB ^ k ≤ v) : k < n := by
  have h1 : 256 ^ k ≤ TB ^ k := Nat.pow_le_pow_left (by decide) k
  exact (Nat.pow_lt_pow_iff_right (a := 256) (by decide)).1 (by omega)
theorem TB_ne {v k j : Nat} (h : TB ^ k ≤ v) (hj : j ≤ k) : v / TB ^ j ≠ 0 := by
  have h1 : TB ^ j ≤ TB ^ k := Nat.pow_le_pow_right (by decide) hj
  have h2 : 0 < v / TB ^ j := Nat.div_pos (by omega) (Nat.pow_pos TB_pos)
  omega
theorem str_cells (l m : List UInt8) : byteCells l ++ strCells ⟨m.toArray⟩ = byteCells (l ++ m) := by simp [byteCells, strCells]
/-- What the builder has when the texts from p on are in it. -/
def bldL (v k p : Nat) : List UInt8 := if p = k + 1 then [] else decDigits (v / TB ^ p)
theorem bldL_len (v k p : Nat) : (bldL v k p).length ≤ nDigits v := by
  unfold bldL
  split
  · exact Nat.zero_le _
  · rw [dec_len]; exact nDigits_mono (Nat.div_le_self _ _)
def figL (v k q : Nat) : List UInt8 := if q = k then decDigits (v / TB ^ k) else lowD 18 (v / TB ^ q)
theorem figF_L (v k q : Nat) : figF v k q = .string ⟨(figL v k q).toArray⟩ := by unfold figF figL padF; split <;> rfl
theorem figL_len (v k q : Nat) : (figL v k q).length ≤ nDigits v + 18 := by
  unfold figL
  split
  · rw [dec_len]; exact Nat.le_trans (nDigits_mono (Nat.div_le_self _ _)) (Nat.le_add_right _ _)
  · rw [lowD_len]; exact Nat.le_add_left _ _
theorem bldL_step {v k q : Nat} (hq : q ≤ k) (h : k = 0 ∨ TB ^ k ≤ v) : bldL v k (q + 1) ++ figL v k q = bldL v k q := by
  unfold bldL figL
  rw [if_neg (show ¬ q = k + 1 by omega)]
  by_cases e : q = k
  · subst e; rw [if_pos rfl, if_pos rfl]; rfl
  · rw [if_neg (by omega), if_neg e, div_TB]
    have h1 : v / TB ^ (q + 1) ≠ 0 := by
      rcases h with h | h
      · omega
      · exact TB_ne h (by omega)
    rw [div_TB] at h1
    exact (dec_TB h1).symm

set_option maxRecDepth 100000 in
set_option maxHeartbeats 2000000 in
theorem figures_any (s : ByteArray) (w : World) (hs : s.size ≤ 65536) (hT : Tab10 w) :
    Calls Tryz.prog 41 #[.string s] w fun e w' => e = .returned (.string ⟨(decDigits (sval s)).toArray⟩) ∧ Below w.heap.size w w' := by
  have cO := Lib.hid (fun W => nOf_any 1000000000000000000 W (by decide))
  have cD := Lib.hid (fun (m : ByteArray) W (h : m.size ≤ 65536) => nDiv_any m (nstr TB) W (by omega) (by rw [nstr_size]; decide))
  have hTz : sval (nstr TB) = TB := sval_nstr _
  simp only [hTz, if_neg (Nat.ne_of_gt TB_pos)] at cD
  have cP := Lib.hid (fun (r : Nat) W (h : r < TB) => part_any (nstr r) W (by rw [nstr_size]; exact Nat.le_trans (nd_le_of_lt (k := 8) (n := 8) (by decide) (Nat.lt_trans h (by decide))) (by decide)) (by rw [sval_nstr]; exact Nat.lt_trans h (by decide)))
  simp only [sval_nstr] at cP
  have cF := Lib.hid (fun (r : Nat) W (h : r < TB) (hb : Below w.heap.size w W) => fmt_any r (Nat.lt_trans h (by decide)) W (hT.later hb))
  have cR := Lib.hid (fun (c : Nat) W (h : c ≤ 18) => Tryz.strings_Repeat (⟨#[48]⟩ : ByteArray) c W (by omega) (by show 1 * c ≤ _; omega))
  clear hT hTz
  generalize hv : sval s = v at *
  have hvs : v < 256 ^ s.size := hv ▸ sval_lt s
  have hnd := Lib.hid (nDigits_256 hvs)
  have HVS := Lib.hid hvs
  have HV := Lib.hid hv
  clear hv hvs
  go_enter Tryz.func41, Tryz.ntmps41
  go_wp2_with fail
  go_loopw [0, 3] (fun mg out wr => ∃ (k : Nat) (m : ByteArray), mg = .string m ∧ sval m = v / TB ^ k ∧ m.size ≤ 65536 ∧ k ≤ s.size ∧ Hid (k = 0 ∨ TB ^ k ≤ v) ∧ OwnR wr w.heap.size 9 out k (padF v) ∧ Below w.heap.size w wr) (fun mg _ _ => svO mg)
  case atStart => exact ⟨0, s, rfl, by rw [Nat.pow_zero, Nat.div_one]; exact HV.out, hs, Nat.zero_le _, Lib.hid (.inl rfl), OwnR.nil_ _ _ _ _, Below.refl _ _⟩
  case round =>
    obtain ⟨k, m, rfl, hm, hms, hk, hk0, hown, hB⟩ := hrel
    have HM := Lib.hid hm
    have hr : v / TB ^ k % TB < TB := Nat.mod_lt _ TB_pos
    have c1 := Lib.hid (fun W => cD.out m W hms)
    rw [hm, ← div_TB] at c1
    have c2 := Lib.hid (fun W => cP.out _ W hr)
    have c3 := Lib.hid (fun W hb => cF.out _ W hr hb)
    have h63 : k + 1 ≤ 9223372036854775807 := by omega
    have hby : (k + 1) * 16 ≤ 140737488355328 := by omega
    by_cases hq : v / TB ^ (k + 1) = 0
    · have he : (nstr (v / TB ^ (k + 1))).toList = [] := nstr_empty.2 hq
      have hV : v / TB ^ k % TB = v / TB ^ k := by
        rw [div_TB] at hq
        exact Nat.mod_eq_of_lt (by have := Nat.div_eq_zero_iff.1 hq; have := TB_pos; omega)
      have HF := Lib.hid (show figF v k = fun j => if j = k then .string ⟨(decDigits (v / TB ^ k % TB)).toArray⟩ else padF v j by rw [hV]; rfl)
      clear hr hV hq hm cD cP cF cR HM
      generalize nstr (v / TB ^ (k + 1)) = q at *
      generalize nstr (v / TB ^ k % TB) = r at *
      generalize (⟨(decDigits (v / TB ^ k % TB)).toArray⟩ : ByteArray) = d at *
      generalize v / TB ^ k % TB = R at *
      go_wp2_with fail
      refine (cO.out _).mono ?_
      rintro e w1 ⟨rfl, hb⟩
      replace hB := nxt hB hb
      replace hown := hown.below hb (Nat.le_refl _)
      clear hb
      go_wp2_with fail
      refine (c1.out _).mono ?_
      rintro e w2 ⟨rfl, hb⟩
      replace hB := nxt hB hb
      replace hown := hown.below hb (Nat.le_refl _)
      clear hb
      go_wp2_with fail
      refine (c2.out _).mono ?_
      rintro e w3 ⟨rfl, hb⟩
      replace hB := nxt hB hb
      replace hown := hown.below hb (Nat.le_refl _)
      clear hb
      go_wp2_with fail
      refine (c3.out _ hB).mono ?_
      rintro e w4 ⟨rfl, hb⟩
      replace hB := nxt hB hb
      replace hown := hown.below hb (Nat.le_refl _)
      clear hb
      go_wp2_with (at_builtin; refine wpList_append1 rfl (.tmp 22) (.tmp 24) _ rfl w.heap.size 9 (.string ⟨#[]⟩) 16 Tryz.underlying66 info_str rfl _ k (padF v) _ rfl rfl hown rfl h63 hby hB.size ?_; intro v' w5 hown2 hB2 hg2)
      replace hB2 := hB.trans hB2
      rw [← HF.out] at hown2
      obtain ⟨A, c, rfl, hkc, hrd, _⟩ := hown2.rd
      have hbl := Lib.fresh_isBuilder 95 5 w5
      have cS := Lib.hid (fun (b : Nat) (l : List UInt8) W h hB => Tryz.Builder_String_any w5.heap.size b l W h hB)
      have cW := Lib.hid (fun (b : Nat) (bs : List Value) (x : ByteArray) W h hl hB => bldWrite w5.heap.size b bs x W h hl hB)
      have hL := b1 w5 (.cells #[.pointer none, .slice none 0 0] 95)
      clear c1 c2 c3 cO hown
      have HB := Lib.hid hB2
      have hk1 : ((k + 1 : Nat) : Int) ≤ 65537 := by omega
      have hln : ∀ W, (Builtin.len_ #[66] 3 #[.slice A (k + 1) c]).run Tryz.prog W = .ok (.int .i64 ((k + 1 : Nat) : Int)) W := fun W => by
        rw [run_len_slice (P := Tryz.prog) (h := Tryz.underlying66)]; rfl
      go_wp2_with fail
      simp only [hln, Result.andThen_ok]
      go_wp2
      go_loopw [9] (fun i wr => ∃ p : Nat, p ≤ k + 1 ∧ i = .int .i64 ((p : Int) - 1) ∧ Lib.IsBuilder 95 5 w5.heap.size w5.heap.size (byteCells (bldL v k p)) wr ∧ Below w5.heap.size w5 wr) (fun i _ => (RowKit.intOf i + 1).toNat)
      case atStart =>
        refine ⟨k + 1, Nat.le_refl _, by simp, ?_, hL⟩
        unfold bldL; rw [if_pos rfl]; exact hbl
      case round =>
        obtain ⟨p, hp, rfl, hbw, hBw⟩ := hrel
        rcases p with _ | q
        · have cs := Lib.hid (cS.out _ _ wr hbw hBw.size)
          have hlt : ¬ (0 : Int) ≤ ((0 : Nat) : Int) - 1 := by omega
          have hd : decide ((0 : Int) ≤ ((0 : Nat) : Int) - 1) = false := decide_eq_false hlt
          have HE := Lib.hid (show bldL v k 0 = decDigits v by unfold bldL; rw [if_neg (by omega), Nat.pow_zero, Nat.div_one])
          go_wp2_with fail
          refine cs.out.mono ?_
          rintro e w8 ⟨rfl, hb⟩
          go_wp2
          go_ret
          exact ⟨by rw [HE.out]; rfl, nxt HB.out (hBw.trans hb)⟩
        · have hq : q ≤ k := by omega
          obtain ⟨b, off, rfl, hc⟩ := hrd (by omega)
          have g1 := cell_later hBw (hc q (by omega))
          rw [figF_L] at g1
          have hfl := figL_len v k q
          have hbl2 := bldL_len v k (q + 1)
          have hN := hnd.out
          have cw := Lib.hid (cW.out _ _ (⟨(figL v k q).toArray⟩ : ByteArray) wr hbw (by rw [byteCells_length, ba_size]; omega) hBw.size)
          have HS := Lib.hid (bldL_step hq hk0.out)
          clear hc hbl2 hfl hN hbw
          have e1 : ((q + 1 : Nat) : Int) - 1 = (q : Int) := by omega
          rw [e1]
          have hlt : (0 : Int) ≤ (q : Int) := by omega
          have hd : decide ((0 : Int) ≤ (q : Int)) = true := decide_eq_true hlt
          have hqk : (q : Int) < ((k + 1 : Nat) : Int) := by omega
          go_wp2_with fail
          refine cw.out.mono ?_
          rintro e w8 ⟨rfl, hbd, hb⟩
          go_wp2
          refine ⟨⟨q, by omega, by go_num, .inr ?_, hBw.trans hb⟩, by simp [RowKit.intOf]⟩
          rw [← HS.out, ← str_cells]
          exact hbd
    · have he : (nstr (v / TB ^ (k + 1))).toList.isEmpty = false := by
        rw [List.isEmpty_eq_false_iff]; exact fun h => hq (nstr_empty.1 h)
      have hge : TB ^ (k + 1) ≤ v := by
        rcases Nat.lt_or_ge v (TB ^ (k + 1)) with h | h
        · exact absurd (Nat.div_eq_of_lt h) hq
        · exact h
      have hks : k + 1 ≤ s.size := Nat.le_of_lt (TB_lt (k := k + 1) HVS.out hge)
      have hlt : v / TB ^ (k + 1) < v / TB ^ k := by
        rw [div_TB] at hq ⊢
        exact Nat.div_lt_self (Nat.pos_of_ne_zero fun h => hq (by rw [h, Nat.zero_div])) (by decide)
      have hqs : (nstr (v / TB ^ (k + 1))).size ≤ 65536 := by
        rw [nstr_size]
        refine Nat.le_trans (nd_le_of_lt (k := 8) (n := s.size) (by decide) ?_) hs
        exact Nat.lt_of_le_of_lt (Nat.div_le_self _ _) HVS.out
      have hnr : nDigits (v / TB ^ k % TB) ≤ 18 := nDigits_le hr (by decide)
      have hds : (⟨(decDigits (v / TB ^ k % TB)).toArray⟩ : ByteArray).size = nDigits (v / TB ^ k % TB) := by rw [ba_size, dec_len]
      have hcc : ¬ 9223372036854775807 < (⟨(repeatL [48] (18 - nDigits (v / TB ^ k % TB))).toArray⟩ : ByteArray).size + (⟨(decDigits (v / TB ^ k % TB)).toArray⟩ : ByteArray).size := by
        rw [hds, ba_size, rep48, List.length_replicate]; omega
      have hw : IntKind.i64.wrap (18 - ((⟨(decDigits (v / TB ^ k % TB)).toArray⟩ : ByteArray).size : Int)) = ((18 - nDigits (v / TB ^ k % TB) : Nat) : Int) := by
        rw [hds, IntWalk.i64_in _ (by omega)]; omega
      have c4 := Lib.hid (fun W => cR.out (18 - nDigits (v / TB ^ k % TB)) W (Nat.sub_le _ _))
      have HP := Lib.hid (pad_TB _ hr)
      have HM2 := Lib.hid (show sval (nstr (v / TB ^ (k + 1))) = v / TB ^ (k + 1) from sval_nstr _)
      have HD := Lib.hid (show lowD 18 (v / TB ^ k % TB) = lowD 18 (v / TB ^ k) from lowD_mod 18 _)
      have HGE := Lib.hid hge
      have HLT := Lib.hid hlt
      clear hr hq hm cD cP cF cR hge hlt hds hnr
      generalize nstr (v / TB ^ (k + 1)) = q at *
      generalize nstr (v / TB ^ k % TB) = r at *
      generalize (⟨(decDigits (v / TB ^ k % TB)).toArray⟩ : ByteArray) = d at *
      generalize 18 - nDigits (v / TB ^ k % TB) = z at *
      generalize (⟨(repeatL [48] z).toArray⟩ : ByteArray) = x at *
      generalize v / TB ^ k % TB = R at *
      go_wp2_with fail
      refine (cO.out _).mono ?_
      rintro e w1 ⟨rfl, hb⟩
      replace hB := nxt hB hb
      replace hown := hown.below hb (Nat.le_refl _)
      clear hb
      go_wp2_with fail
      refine (c1.out _).mono ?_
      rintro e w2 ⟨rfl, hb⟩
      replace hB := nxt hB hb
      replace hown := hown.below hb (Nat.le_refl _)
      clear hb
      go_wp2_with fail
      refine (c2.out _).mono ?_
      rintro e w3 ⟨rfl, hb⟩
      replace hB := nxt hB hb
      replace hown := hown.below hb (Nat.le_refl _)
      clear hb
      go_wp2_with fail
      refine (c3.out _ hB).mono ?_
      rintro e w4 ⟨rfl, hb⟩
      replace hB := nxt hB hb
      replace hown := hown.below hb (Nat.le_refl _)
      clear hb
      go_wp2_with fail
      refine (c4.out _).mono ?_
      rintro e w5 ⟨rfl, hb⟩
      replace hB := nxt hB hb
      replace hown := hown.below hb (Nat.le_refl _)
      clear hb
      go_wp2_with (at_builtin; refine wpList_append1 rfl (.tmp 26) (.tmp 33) _ rfl w.heap.size 9 (.string ⟨#[]⟩) 16 Tryz.underlying66 info_str rfl _ k (padF v) _ rfl rfl hown rfl h63 hby hB.size ?_; intro v' w6 hown2 hB2 hg2)
      refine ⟨⟨k + 1, q, rfl, HM2.out, hqs, hks, Lib.hid (.inr HGE.out), hown2.congr fun j hj => ?_, hB.trans hB2⟩, ?_⟩
      · by_cases e : j = k
        · subst e; rw [if_pos rfl]; unfold padF; rw [← HD.out, ← HP.out]
        · rw [if_neg e]
      · show sval q < sval m
        rw [HM2.out, HM.out]; exact HLT.out
end Go.Proofs.YtkgogbmeehiloaaGreatDoor

