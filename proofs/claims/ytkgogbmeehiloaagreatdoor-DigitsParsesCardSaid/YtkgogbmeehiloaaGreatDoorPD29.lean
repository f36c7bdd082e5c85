/- The walks and plain laws beneath the statements. -/
import Derived.Test.YtkgogbmeehiloaaGreatDoorPD24
import Derived.Test.YtkgogbmeehiloaaGreatDoorPD28
import Derived.Test.YtkgogbmeehiloaaGreatDoorPD14
import Derived.Deep.DeepCutAuto
import Derived.RegionTactic
import Derived.Test.YtkgogbmeehiloaaGreatDoorPD22
namespace Go.Proofs.YtkgogbmeehiloaaGreatDoor
open Go Go.RowKit Go.Lib

/-- A natural number's text. -/
def dtext (v : Nat) : ByteArray := ⟨(decDigits v).toArray⟩
theorem dtext_size (v : Nat) : (dtext v).size = nDigits v := by unfold dtext; rw [ba_size, dec_len]
theorem dFig (s : ByteArray) (W : World) (hs : s.size ≤ 65536) (hT : Tab10 W) : Calls Tryz.prog 41 #[.string s] W fun e w' => e = .returned (.string (dtext (sval s))) ∧ Below W.heap.size W w' := figures_any s W hs hT
theorem drFig (s : ByteArray) (W : World) (hs : s.size ≤ 65536) : Calls Tryz.prog 14 #[.string s] W fun e w' => e = .returned (.string (dtext (sval s))) ∧ Below W.heap.size W w' := rFigures_any s W hs
theorem fig_sz {s : ByteArray} (hs : s.size ≤ 65536) : (⟨#[45]⟩ : ByteArray).size + (dtext (sval s)).size ≤ 9223372036854775807 := by
  have h := nDigits_256 (sval_lt s)
  rw [dtext_size]
  show 1 + _ ≤ _
  omega
theorem print_n {b : Bool} {s : ByteArray} (h : decide (sgn (ival b (sval s)) < 0) = true) : (⟨#[45]⟩ : ByteArray) ++ dtext (sval s) = ztext (ival b (sval s)) := by
  have h1 := sgn_lt.1 (of_decide_eq_true h)
  unfold ztext itoa dtext
  rw [if_pos h1, ival_natAbs]
  exact ba_append [45] _
theorem print_p {b : Bool} {s : ByteArray} (h : decide (sgn (ival b (sval s)) < 0) = false) : dtext (sval s) = ztext (ival b (sval s)) := by
  have h1 : ¬ ival b (sval s) < 0 := fun h2 => of_decide_eq_false h (sgn_lt.2 h2)
  unfold ztext itoa dtext
  rw [if_neg h1]
  have h2 := ival_natAbs b (sval s)
  rw [show (ival b (sval s)).toNat = sval s by omega]
/-! Parse. -/
def cutB (s : ByteArray) : Bool := hasPrefix s.data.toList [45]
def cutS (s : ByteArray) : ByteArray := ⟨(trimPrefix s.data.toList [45]).toArray⟩
theorem cut_any2 (s : ByteArray) (W : World) : Calls Tryz.prog 33 #[.string s, .string ⟨#[45]⟩] W fun e w' => e = .returned (.tuple #[.string (cutS s), .bool (cutB s)]) ∧ Below W.heap.size W w' :=
  (Tryz.strings_CutPrefix s ⟨#[45]⟩ W).mono fun e w' ⟨h1, h2⟩ => ⟨h1, by rw [h2]; exact Below.refl _ _⟩
theorem cutS_list (s : ByteArray) : (cutS s).data.toList = trimPrefix s.data.toList [45] := by simp [cutS]
theorem cut_yes {s : ByteArray} (h : cutB s = true) : ∃ l, s.data.toList = 45 :: l ∧ (cutS s).data.toList = l := by
  rw [cutS_list]
  unfold cutB at h
  unfold trimPrefix
  rw [if_pos h]
  unfold hasPrefix at h
  cases e : s.data.toList with
  | nil => rw [e] at h; cases h
  | cons c l =>
    rw [e] at h
    have hc : c = 45 := by
      have h2 : (45 == c) = true := by simpa using h
      exact (beq_iff_eq.1 h2).symm
    subst hc
    exact ⟨l, rfl, rfl⟩
theorem cut_no {s : ByteArray} (h : cutB s = false) : cutS s = s ∧ ∀ c l, s.data.toList = c :: l → (c == 45) = false := by
  unfold cutB at h
  refine ⟨?_, fun c l e => ?_⟩
  · unfold cutS trimPrefix
    rw [if_neg (by rw [h]; decide)]
  · unfold hasPrefix at h
    rw [e] at h
    cases e2 : c == 45 with
    | false => rfl
    | true =>
      have : c = 45 := by simpa using e2
      subst this
      simp at h
theorem cut_sz {s : ByteArray} {n : Nat} (hs : s.size ≤ n) : (cutS s).size ≤ n := by
  have h1 : (cutS s).data.toList.length = (cutS s).size := by simp
  have h2 : s.data.toList.length = s.size := by simp
  cases h : cutB s with
  | true =>
    obtain ⟨l, e1, e2⟩ := cut_yes h
    rw [e2] at h1
    rw [e1] at h2
    simp at h2; omega
  | false => rw [(cut_no h).1]; exact hs
/-- What Parse answers. -/
def dpV (l : List UInt8) : Value := match parseAt l with
  | some i => .tuple #[.agg #[.bool false, .string ⟨#[]⟩], .int .i64 i, .int .i64 2]
  | none => .tuple #[.agg #[.bool (neg (parseZ l)), .string (mag (parseZ l))], .int .i64 0, .int .i64 0]
theorem spoI_cases (l : List UInt8) : (∃ i : Nat, spoil l = some i ∧ spoI l = i) ∨ (spoil l = none ∧ spoI l = -1) := by
  unfold spoI
  cases h : spoil l with
  | some i => exact .inl ⟨i, rfl, rfl⟩
  | none => exact .inr ⟨rfl, rfl⟩
theorem spoil_le {l : List UInt8} {i : Nat} (h : spoil l = some i) : i ≤ l.length := by
  unfold spoil at h
  split at h
  · rename_i j hj
    have h1 := List.mem_of_find?_eq_some hj
    have h2 := List.mem_range.1 h1
    injection h with h; omega
  · split at h
    · injection h with h; omega
    · cases h
theorem spoI_le (s : ByteArray) : -1 ≤ spoI s.data.toList ∧ spoI s.data.toList ≤ s.size := by
  rcases spoI_cases s.data.toList with ⟨i, h1, h2⟩ | ⟨_, h2⟩
  · have := spoil_le h1
    have h3 : s.data.toList.length = s.size := by simp
    omega
  · omega
theorem spoI_w {s : ByteArray} (hs : s.size ≤ 65536) : IntKind.i64.wrap (spoI (cutS s).data.toList + 1) = spoI (cutS s).data.toList + 1 := by
  have h := spoI_le (cutS s)
  have h2 := cut_sz hs
  exact IntWalk.i64_in _ (by omega)
theorem cut_pos {s : ByteArray} (h : (spoI (cutS s).data.toList != 0) = true) : 0 < (cutS s).size := by
  rcases Nat.eq_zero_or_pos (cutS s).size with h2 | h2
  · have : (cutS s).data.toList = [] := List.length_eq_zero_iff.1 (by simpa using h2)
    rw [this] at h; exact absurd h (by decide)
  · exact h2
theorem cut_digs {s : ByteArray} (h : decide (spoI (cutS s).data.toList ≥ 0) = false) : digs (cutS s) := by
  have h1 := of_decide_eq_false h
  rcases spoI_cases (cutS s).data.toList with ⟨i, _, h2⟩ | ⟨h2, _⟩
  · omega
  · have hg := spoil_none.1 h2
    intro j hj
    have h3 := isDig_iff.1 (badB_dig (hg.2 j (by simpa using hj)))
    exact h3
theorem head48 {s : ByteArray} (hp : 0 < s.size) : (s.data.toList.head? == some 48) = decide (byt s 0 = 48) := by
  obtain ⟨c, l, e, hc⟩ := list_cons s hp
  rw [e]
  by_cases h : byt s 0 = 48
  · have : c = 48 := UInt8.toNat_inj.1 (by rw [hc, h]; rfl)
    rw [decide_eq_true h, this]; rfl
  · have : ¬ c = 48 := fun e2 => h (by rw [← hc, e2]; rfl)
    rw [decide_eq_false h]
    simpa using this
theorem parse_neg {s : ByteArray} (h : cutB s = true) : parseAt s.data.toList = (match (cutS s).data.toList.head? == some 48 with | true => some 1 | false => (spoil (cutS s).data.toList).map (· + 1)) ∧ parseZ s.data.toList = -(dval (cutS s).data.toList : Int) := by
  obtain ⟨l, e1, e2⟩ := cut_yes h
  rw [e1, e2]
  exact ⟨rfl, rfl⟩
theorem parse_pos {s : ByteArray} (h : cutB s = false) : parseAt s.data.toList = spoil (cutS s).data.toList ∧ parseZ s.data.toList = (dval (cutS s).data.toList : Int) := by
  obtain ⟨e1, e2⟩ := cut_no h
  rw [e1]
  cases e : s.data.toList with
  | nil => exact ⟨rfl, rfl⟩
  | cons c l =>
    simp only [parseAt, parseZ, e2 c l e]
    exact ⟨trivial, trivial⟩
/-- Spoilt at the nought behind the sign. -/
theorem dp_1 {s : ByteArray} (hn : cutB s = true) (h0 : (spoI (cutS s).data.toList != 0) = true) (h48 : ((byt (cutS s) 0 : Int) == 48) = true) : (.tuple #[.agg #[.bool false, .string ⟨#[]⟩], .int .i64 1, .int .i64 2] : Value) = dpV s.data.toList := by
  have h1 := (parse_neg hn).1
  have h2 := bey h48
  rw [head48 (cut_pos h0), decide_eq_true (by omega)] at h1
  unfold dpV; rw [h1]; rfl
theorem dp_2 {s : ByteArray} (hn : cutB s = true) (h0 : ¬ ((spoI (cutS s).data.toList != 0) = true ∧ byt (cutS s) 0 = 48)) (hg : decide (spoI (cutS s).data.toList ≥ 0) = true) : (.tuple #[.agg #[.bool false, .string ⟨#[]⟩], .int .i64 (spoI (cutS s).data.toList + 1), .int .i64 2] : Value) = dpV s.data.toList := by
  have h1 := (parse_neg hn).1
  have h2 := of_decide_eq_true hg
  rcases spoI_cases (cutS s).data.toList with ⟨i, h3, h4⟩ | ⟨_, h4⟩
  · have hh : ((cutS s).data.toList.head? == some 48) = false := by
      by_cases hp : 0 < (cutS s).size
      · rw [head48 hp]
        by_cases e : byt (cutS s) 0 = 48
        · have hz : ¬ (spoI (cutS s).data.toList != 0) = true := fun h => h0 ⟨h, e⟩
          have hz2 : spoI (cutS s).data.toList = 0 := by simpa using hz
          have hi : i = 0 := by omega
          subst hi
          exfalso
          unfold spoil at h3
          split at h3
          · rename_i j hj
            obtain rfl : j = 0 := by injection h3
            have hb := List.find?_some hj
            have hb2 : badB (cutS s).data.toList 0 = false := by
              have h5 := badB_ok (s := cutS s) (p := 0) (by omega) (by omega)
              rw [h5]; rfl
            rw [hb2] at hb; cases hb
          · split at h3
            · rename_i hnil
              have h6 : (cutS s).data.toList.length = 0 := by rw [hnil]; rfl
              have h7 : (cutS s).data.toList.length = (cutS s).size := by simp
              omega
            · cases h3
        · exact decide_eq_false e
      · have h7 : (cutS s).data.toList.length = (cutS s).size := by simp
        have : (cutS s).data.toList = [] := List.length_eq_zero_iff.1 (by omega)
        rw [this]; rfl
    rw [hh, h3] at h1
    unfold dpV; rw [h1, h4]
    rfl
  · omega
theorem dp_3 {s : ByteArray} (hn : cutB s = false) (hg : decide (spoI (cutS s).data.toList ≥ 0) = true) : (.tuple #[.agg #[.bool false, .string ⟨#[]⟩], .int .i64 (spoI (cutS s).data.toList), .int .i64 2] : Value) = dpV s.data.toList := by
  have h1 := (parse_pos hn).1
  have h2 := of_decide_eq_true hg
  rcases spoI_cases (cutS s).data.toList with ⟨i, h3, h4⟩ | ⟨_, h4⟩
  · rw [h3] at h1
    unfold dpV; rw [h1, h4]
  · omega
theorem dp_4 {s : ByteArray} (hn : cutB s = true) (h0 : ¬ ((spoI (cutS s).data.toList != 0) = true ∧ byt (cutS s) 0 = 48)) (hg : decide (spoI (cutS s).data.toList ≥ 0) = false) : (.tuple #[.agg #[.bool (neg (ival true (dval (cutS s).data.toList))), .string (mag (ival true (dval (cutS s).data.toList)))], .int .i64 0, .int .i64 0] : Value) = dpV s.data.toList := by
  obtain ⟨h1, h5⟩ := parse_neg hn
  have h2 := of_decide_eq_false hg
  rcases spoI_cases (cutS s).data.toList with ⟨i, h3, h4⟩ | ⟨h3, h4⟩
  · omega
  · have hne : (spoI (cutS s).data.toList != 0) = true := by rw [h4]; rfl
    have hh : ((cutS s).data.toList.head? == some 48) = false := by
      rw [head48 (cut_pos hne)]
      exact decide_eq_false fun e => h0 ⟨hne, e⟩
    rw [hh, h3] at h1
    unfold dpV; rw [h1, h5]; rfl
theorem dp_5 {s : ByteArray} (hn : cutB s = false) (hg : decide (spoI (cutS s).data.toList ≥ 0) = false) : (.tuple #[.agg #[.bool (neg (ival false (dval (cutS s).data.toList))), .string (mag (ival false (dval (cutS s).data.toList)))], .int .i64 0, .int .i64 0] : Value) = dpV s.data.toList := by
  obtain ⟨h1, h5⟩ := parse_pos hn
  have h2 := of_decide_eq_false hg
  rcases spoI_cases (cutS s).data.toList with ⟨i, h3, h4⟩ | ⟨h3, h4⟩
  · omega
  · rw [h3] at h1
    unfold dpV; rw [h1, h5]; rfl
theorem wFormV (b : Bool) (v : Nat) (W : World) : Calls Tryz.prog 35 #[.agg #[.bool b, .string (nstr v)]] W fun e w' => e = .returned (.agg #[.bool (neg (ival b v)), .string (mag (ival b v))]) ∧ Below W.heap.size W w' := by
  have c := wForm_any (nstr v) b W
  rwa [sval_nstr] at c
set_option maxRecDepth 100000 in
theorem int_eq (W : World) (p q : Operand) (x y : Int) : RunOk Tryz.prog W (do eqGuard .eql 24 p q (vI x) (vI y); binOp .eql 24 (vI x) (vI y)) (.bool (decide (x = y))) := fun W' _ => by
  have h : (neg x = neg y ∧ (mag x).toList = (mag y).toList) ↔ x = y := by
    rw [ByteArray.toList_eq, ByteArray.toList_eq]
    exact ⟨fun h => mk_inj h.1 (ByteArray.ext (by simpa using h.2)), fun h => by rw [h]; exact ⟨rfl, rfl⟩⟩
  unfold vI
  simp [go_sem]
  by_cases e : x = y
  · subst e; simp
  · have h2 := mt h.1 e
    by_cases h3 : neg x = neg y <;> by_cases h4 : (mag x).toList = (mag y).toList <;> simp_all
end Go.Proofs.YtkgogbmeehiloaaGreatDoor

namespace Go.Proofs.YtkgogbmeehiloaaGreatDoor
open Go Go.RowKit


set_option maxRecDepth 100000 in
theorem print_r {b : Bool} {s : ByteArray} (hs : s.size ≤ 65536) (w : World) (h10 : Tab10 w) : RetAt Tryz.prog w 11 #[.agg #[.bool b, .string s]] (.string (ztext (ival b (sval s)))) := 
  ret_sk ttOk mixed (fun a w => Tryz.call11 a w) Tryz.func11 Tryz.ntmps11 Tryz.results11 _ rfl _ [.o 1 2 (.ret (.val (.string (dtext (sval s))))), .o 2 1 (.ret (.val (.int .i64 (sgn (ival b (sval s)))))), .both [.o 3 1 (.set (.string (⟨#[45]⟩ ++ (dtext (sval s)))))] []] (fun W hW hR => (fun (h10 : Tab10 W) => ai (rt10 h10 Tryz.call41 fun W h => dFig s W hs h) <| ai (rc W Tryz.call42 fun W => wSign_any s b W) <| ai (fun hn : (decide ((sgn (ival b (sval s))) < 0)) = true => ai (str_add W (.const (.string ⟨#[45]⟩)) (.tmp 10) ⟨#[45]⟩ (dtext (sval s)) (fig_sz hs)) <| (show (.string (⟨#[45]⟩ ++ (dtext (sval s))) : Value) = .string (ztext (ival b (sval s))) from congrArg Value.string (print_n hn))) fun hn : (decide ((sgn (ival b (sval s))) < 0)) = false => (show (.string (dtext (sval s)) : Value) = .string (ztext (ival b (sval s))) from congrArg Value.string (print_p hn))) (h10.later hW)) fun W => by kernel_rfl

set_option maxRecDepth 100000 in
theorem rprint_r {b : Bool} {s : ByteArray} (hs : s.size ≤ 65536) (w : World) : RetAt Tryz.prog w 12 #[.agg #[.bool b, .string s]] (.string (ztext (ival b (sval s)))) := 
  ret_sk ttOk mixed (fun a w => Tryz.call12 a w) Tryz.func12 Tryz.ntmps12 Tryz.results12 _ rfl _ [.o 1 1 (.ret (.val (.int .i64 (sgn (ival b (sval s)))))), .both [.o 2 2 (.ret (.val (.string (dtext (sval s))))), .o 2 3 (.set (.string (⟨#[45]⟩ ++ (dtext (sval s)))))] [.o 3 2 (.ret (.val (.string (dtext (sval s)))))]] (fun W hW hR => ai (rc W Tryz.call43 fun W => rWSign_any s b W (by omega)) <| ai (fun hn : (decide ((sgn (ival b (sval s))) < 0)) = true => ai (rc W Tryz.call14 fun W => drFig s W hs) <| ai (str_add W (.const (.string ⟨#[45]⟩)) (.tmp 8) ⟨#[45]⟩ (dtext (sval s)) (fig_sz hs)) <| (show (.string (⟨#[45]⟩ ++ (dtext (sval s))) : Value) = .string (ztext (ival b (sval s))) from congrArg Value.string (print_n hn))) fun hn : (decide ((sgn (ival b (sval s))) < 0)) = false => ai (rc W Tryz.call14 fun W => drFig s W hs) <| (show (.string (dtext (sval s)) : Value) = .string (ztext (ival b (sval s))) from congrArg Value.string (print_p hn))) fun W => by kernel_rfl

set_option maxRecDepth 100000 in
theorem len_r {b : Bool} {s : ByteArray} (hs : s.size ≤ 65536) (w : World) (h10 : Tab10 w) : RetAt Tryz.prog w 13 #[.agg #[.bool b, .string s]] (.int .i64 (Lib.nDigits (sval s) : Int)) := 
  ret_sk ttOk mixed (fun a w => Tryz.call13 a w) Tryz.func13 Tryz.ntmps13 Tryz.results13 _ rfl _ [.o 1 2 (.ret (.val (.string (dtext (sval s))))), .o 1 3 (.eq (.val (.int .i64 (Lib.nDigits (sval s) : Int))))] (fun W hW hR => (fun (h10 : Tab10 W) => ai (rt10 h10 Tryz.call41 fun W h => dFig s W hs h) <| ai (show ((dtext (sval s)).size : Int) = (Lib.nDigits (sval s) : Int) from congrArg Int.ofNat (dtext_size _)) <| hR) (h10.later hW)) fun W => by kernel_rfl

set_option maxRecDepth 100000 in
theorem parse_r {s : ByteArray} (hs : s.size ≤ 65536) (w : World) : RetAt Tryz.prog w 9 #[.string s] (dpV s.data.toList) := 
  ret_sk ttOk mixed (fun a w => Tryz.call9 a w) Tryz.func9 Tryz.ntmps9 Tryz.results9 _ rfl _ [.o 1 1 (.ret (.tup [.val (.string (cutS s)), .val (.bool (cutB s))])), .o 2 1 (.ret (.val (.int .i64 (spoI (cutS s).data.toList)))), .gb 3 2 [.g 3 3 true, .o 3 4 (.pk true), .gb 3 6 [.g 3 7 true, .o 3 7 (.set (.int .u8 (byt (cutS s) 0 : Int))), .g 3 8 true, .o 3 9 (.pk true), .both [.br true, .o 6 2 (.eq (.val (.int .i64 1)))] [.gb 5 3 [.o 5 4 (.pk true), .br true, .o 6 2 (.eq (.val (.int .i64 (spoI (cutS s).data.toList + 1))))] [.o 5 4 (.pk false), .br false, .br false, .o 9 2 (.ret (.val (.string (nstr (dval (cutS s).data.toList))))), .o 9 4 (.ret (.val (vI (ival (cutB s) (dval (cutS s).data.toList)))))]]] [.g 3 7 false, .g 3 8 false, .o 3 9 (.pk false), .g 5 3 true, .o 5 4 (.pk true), .br true, .o 6 2 (.eq (.val (.int .i64 (spoI (cutS s).data.toList + 1))))]] [.g 3 3 false, .o 3 4 (.pk false), .gb 5 3 [.o 5 4 (.pk true), .br false, .br true] [.o 5 4 (.pk false), .br false, .br false, .o 9 2 (.ret (.val (.string (nstr (dval (cutS s).data.toList))))), .o 9 4 (.ret (.val (vI (ival (cutB s) (dval (cutS s).data.toList)))))]]] (fun W hW hR => ai (rc W Tryz.call33 fun W => cut_any2 s W) <| ai (rc W Tryz.call34 fun W => spoilt_any (cutS s) W (by have := cut_sz hs; omega)) <| ai (fun hn : (cutB s) = true => ai hn <| ai hn <| ai (fun h0 : ((spoI (cutS s).data.toList) != 0) = true => ai h0 <| ai (str_idx W (cutS s) 0 (cut_pos h0)) <| ai h0 <| ai h0 <| ai (fun h48 : ((byt (cutS s) 0 : Int) == 48) = true => ai hn <| ai (show IntKind.i64.wrap (0 + 1) = 1 from by decide) <| (show (.tuple #[.agg #[.bool false, .string ⟨#[]⟩], .int .i64 1, .int .i64 2] : Value) = dpV s.data.toList from dp_1 hn h0 h48)) fun h48 : ((byt (cutS s) 0 : Int) == 48) = false => ai (fun hg : (decide ((spoI (cutS s).data.toList) ≥ 0)) = true => ai hg <| ai hn <| ai (spoI_w hs) <| (show (.tuple #[.agg #[.bool false, .string ⟨#[]⟩], .int .i64 (spoI (cutS s).data.toList + 1), .int .i64 2] : Value) = dpV s.data.toList from dp_2 hn (fun h => ben h48 (by omega)) hg)) fun hg : (decide ((spoI (cutS s).data.toList) ≥ 0)) = (!true) => ai hg <| ai (rfl : false = false) <| ai hg <| ai (rc W Tryz.call36 fun W => value_any (cutS s) W (cut_sz hs) (cut_digs hg)) <| ai (rc W Tryz.call35 fun W => wFormV (cutB s) (dval (cutS s).data.toList) W) <| (show (.tuple #[vI (ival (cutB s) (dval (cutS s).data.toList)), .int .i64 0, .int .i64 0] : Value) = dpV s.data.toList from by rw [hn]; exact dp_4 hn (fun h => ben h48 (by omega)) hg)) fun h0 : ((spoI (cutS s).data.toList) != 0) = (!true) => ai h0 <| ai h0 <| ai h0 <| ai (show decide ((spoI (cutS s).data.toList) ≥ 0) = true from decide_eq_true (by have := h0; simp at this; omega)) <| ai (show decide ((spoI (cutS s).data.toList) ≥ 0) = true from decide_eq_true (by have := h0; simp at this; omega)) <| ai hn <| ai (spoI_w hs) <| (show (.tuple #[.agg #[.bool false, .string ⟨#[]⟩], .int .i64 (spoI (cutS s).data.toList + 1), .int .i64 2] : Value) = dpV s.data.toList from dp_2 hn (fun h => absurd h.1 (by rw [h0]; decide)) (decide_eq_true (by have := h0; simp at this; omega)))) fun hn : (cutB s) = (!true) => ai hn <| ai hn <| ai (fun hg : (decide ((spoI (cutS s).data.toList) ≥ 0)) = true => ai hg <| ai hn <| ai hg <| (show (.tuple #[.agg #[.bool false, .string ⟨#[]⟩], .int .i64 (spoI (cutS s).data.toList), .int .i64 2] : Value) = dpV s.data.toList from dp_3 hn hg)) fun hg : (decide ((spoI (cutS s).data.toList) ≥ 0)) = (!true) => ai hg <| ai (rfl : false = false) <| ai hg <| ai (rc W Tryz.call36 fun W => value_any (cutS s) W (cut_sz hs) (cut_digs hg)) <| ai (rc W Tryz.call35 fun W => wFormV (cutB s) (dval (cutS s).data.toList) W) <| (show (.tuple #[vI (ival (cutB s) (dval (cutS s).data.toList)), .int .i64 0, .int .i64 0] : Value) = dpV s.data.toList from by rw [hn]; exact dp_5 hn hg)) fun W => by kernel_rfl

end Go.Proofs.YtkgogbmeehiloaaGreatDoor

namespace Go.Proofs.YtkgogbmeehiloaaGreatDoor
open Go Go.RowKit Go.Lib

theorem dPrint_any (b : Bool) (s : ByteArray) (W : World) (hs : s.size ≤ 65536) (h : Tab10 W) : Calls Tryz.prog 11 #[.agg #[.bool b, .string s]] W fun e w' => e = .returned (.string (ztext (ival b (sval s)))) ∧ Below W.heap.size W w' := (print_r hs W h).at
theorem drPrint_any (b : Bool) (s : ByteArray) (W : World) (hs : s.size ≤ 65536) : Calls Tryz.prog 12 #[.agg #[.bool b, .string s]] W fun e w' => e = .returned (.string (ztext (ival b (sval s)))) ∧ Below W.heap.size W w' := (rprint_r hs W).at
theorem dPrint_m (z : Int) (W : World) (hs : bsz z ≤ 65536) (h : Tab10 W) : Calls Tryz.prog 11 #[.agg #[.bool (neg z), .string (mag z)]] W fun e w' => e = .returned (.string (ztext z)) ∧ Below W.heap.size W w' := by
  have c := dPrint_any (neg z) (mag z) W (by rw [mag_size]; exact hs) h
  rwa [ival_mk] at c
theorem dLen_any (b : Bool) (s : ByteArray) (W : World) (hs : s.size ≤ 65536) (h : Tab10 W) : Calls Tryz.prog 13 #[.agg #[.bool b, .string s]] W fun e w' => e = .returned (.int .i64 (nDigits (sval s) : Int)) ∧ Below W.heap.size W w' := (len_r hs W h).at
theorem parse_ok (s : ByteArray) (z : Int) (W : World) (hs : s.size ≤ 65536) (h1 : parseAt s.data.toList = none) (h2 : parseZ s.data.toList = z) : Calls Tryz.prog 9 #[.string s] W fun e w' => e = .returned (.tuple #[vI z, .int .i64 0, .int .i64 0]) ∧ Below W.heap.size W w' := by
  have c := (parse_r hs W).at
  unfold dpV at c
  rw [h1] at c
  dsimp only at c
  rw [h2] at c
  exact c
theorem parse_bad (s : ByteArray) (i : Nat) (W : World) (hs : s.size ≤ 65536) (h1 : parseAt s.data.toList = some i) : Calls Tryz.prog 9 #[.string s] W fun e w' => e = .returned (.tuple #[.agg #[.bool false, .string ⟨#[]⟩], .int .i64 (i : Int), .int .i64 2]) ∧ Below W.heap.size W w' := by
  have c := (parse_r hs W).at
  unfold dpV at c
  rw [h1] at c
  exact c
theorem rparse_ok (s : ByteArray) (z : Int) (W : World) (hs : s.size ≤ 65536) (h1 : parseAt s.data.toList = none) (h2 : parseZ s.data.toList = z) : Calls Tryz.prog 10 #[.string s] W fun e w' => e = .returned (.tuple #[vI z, .int .i64 (-1)]) ∧ Below W.heap.size W w' := by
  have c := rParse_any s W hs
  unfold rpV at c
  rw [h1] at c
  dsimp only at c
  rw [h2] at c
  exact c
theorem rparse_bad (s : ByteArray) (i : Nat) (W : World) (hs : s.size ≤ 65536) (h1 : parseAt s.data.toList = some i) : Calls Tryz.prog 10 #[.string s] W fun e w' => e = .returned (.tuple #[.agg #[.bool false, .string ⟨#[]⟩], .int .i64 (i : Int)]) ∧ Below W.heap.size W w' := by
  have c := rParse_any s W hs
  unfold rpV at c
  rw [h1] at c
  exact c
theorem ztext_lit {s : ByteArray} {z : Int} (h : parseAt s.data.toList = none) (h2 : parseZ s.data.toList = z) : ztext z = s := by
  unfold ztext
  rw [← h2, itoa_parse h]
theorem str_eql1 (W : World) (x y : Operand) (a b : ByteArray) (h : a = b) : RunOk Tryz.prog W (do eqGuard .eql 9 x y (.string a) (.string b); binOp .eql 9 (.string a) (.string b)) (.bool true) := by
  have c := str_eql W x y a b
  rwa [decide_eq_true h] at c
theorem int_eq1 (W : World) (p q : Operand) (x y : Int) (h : x = y) : RunOk Tryz.prog W (do eqGuard .eql 24 p q (vI x) (vI y); binOp .eql 24 (vI x) (vI y)) (.bool true) := by
  have c := int_eq W p q x y
  rwa [decide_eq_true h] at c
theorem w10 {d : Nat} : IntKind.i64.wrap ((d % 10 : Nat) : Int) = ((d % 10 : Nat) : Int) := IntWalk.i64_in _ (by omega)
end Go.Proofs.YtkgogbmeehiloaaGreatDoor

namespace Go.Proofs.YtkgogbmeehiloaaGreatDoor
open Go Go.RowKit Go.Lib


set_option maxRecDepth 100000 in
theorem spoilt_r {s : ByteArray} {i : Nat} (hs : s.size ≤ 65536) (h1 : parseAt s.data.toList = some i) (w : World) : RetAt Tryz.prog w 32 #[.string s, .int .i64 (i : Int)] (.bool true) := 
  ret_sk ttOk mixed (fun a w => Tryz.call32 a w) Tryz.func32 Tryz.ntmps32 Tryz.results32 _ rfl _ [.o 1 1 (.ret (.tup [.agg [.val (.bool false), .val (.string ⟨#[]⟩)], .val (.int .i64 (i : Int)), .val (.int .i64 2)])), .o 2 2 (.set (.bool true)), .g 2 9 true, .g 2 10 true, .o 2 11 (.pk true)] (fun W hW hR => ai (rc W Tryz.call9 fun W => parse_bad s i W hs h1) <| ai (int_eq1 W (.tmp 14) (.tmp 15) 0 0 rfl) <| ai (show ((i : Int) == (i : Int)) = true from beq_self_eq_true _) <| ai (show ((i : Int) == (i : Int)) = true from beq_self_eq_true _) <| ai (show ((i : Int) == (i : Int)) = true from beq_self_eq_true _) <| hR) fun W => by kernel_rfl

theorem spoiltLaw_any (s : ByteArray) (i : Nat) (W : World) (hs : s.size ≤ 65536) (h1 : parseAt s.data.toList = some i) : Calls Tryz.prog 32 #[.string s, .int .i64 (i : Int)] W fun e w' => e = .returned (.bool true) ∧ Below W.heap.size W w' := (spoilt_r hs h1 W).at

set_option maxRecDepth 100000 in
theorem dawake_r  (w : World) (h10 : Tab10 w) : RetAt Tryz.prog w 8 #[] (.bool true) := 
  ret_sk ttOk mixed (fun a w => Tryz.call8 a w) Tryz.func8 Tryz.ntmps8 Tryz.results8 _ rfl _ [.o 1 0 (.ret (.tup [.val (vI ((-12))), .val (.int .i64 0), .val (.int .i64 0)])), .o 2 0 (.ret (.tup [.val (vI ((-1000000000000000000000))), .val (.int .i64 0), .val (.int .i64 0)])), .reg 44 [], .o 3 1 (.ret (.val (.string (ztext (0))))), .o 3 2 (.set (.bool true)), .o 3 5 (.ret (.val (.string (ztext ((-1000000000000000000000)))))), .o 3 6 (.set (.bool true)), .o 3 14 (.ret (.val (vI ((-12))))), .o 3 15 (.set (.bool true)), .o 3 26 (.ret (.val (.bool true))), .o 3 29 (.ret (.val (.bool true))), .o 3 32 (.ret (.val (.bool true))), .o 3 35 (.ret (.val (.bool true))), .o 3 38 (.ret (.val (.bool true))), .o 3 41 (.ret (.val (.bool true)))] (fun W hW hR => (fun (h10 : Tab10 W) => ai (rc W Tryz.call9 fun W => parse_ok ⟨#[45, 49, 50]⟩ (-12) W (by decide) (by kernel_rfl) (by kernel_rfl)) <| ai (rc W Tryz.call9 fun W => parse_ok ⟨#[45, 49, 48, 48, 48, 48, 48, 48, 48, 48, 48, 48, 48, 48, 48, 48, 48, 48, 48, 48, 48, 48, 48]⟩ (-1000000000000000000000) W (by decide) (by kernel_rfl) (by kernel_rfl)) <| ai (rt10 h10 Tryz.call11 fun W h => dPrint_m (0) W ((by decide)) h) <| ai (str_eql1 W (.tmp 18) (.const (.string ⟨#[48]⟩)) (ztext (0)) ⟨#[48]⟩ (ztext_lit (by kernel_rfl) (by kernel_rfl))) <| ai (rt10 h10 Tryz.call11 fun W h => dPrint_m ((-1000000000000000000000)) W ((by decide)) h) <| ai (str_eql1 W (.tmp 22) (.const (.string ⟨#[45, 49, 48, 48, 48, 48, 48, 48, 48, 48, 48, 48, 48, 48, 48, 48, 48, 48, 48, 48, 48, 48, 48]⟩)) (ztext ((-1000000000000000000000))) ⟨#[45, 49, 48, 48, 48, 48, 48, 48, 48, 48, 48, 48, 48, 48, 48, 48, 48, 48, 48, 48, 48, 48, 48]⟩ (ztext_lit (by kernel_rfl) (by kernel_rfl))) <| ai (rc W Tryz.call31 fun W => rWOf_any (-12) W (by decide) (by decide)) <| ai (int_eq1 W (.tmp 30) (.tmp 31) (-12) (-12) rfl) <| ai (rc W Tryz.call32 fun W => spoiltLaw_any ⟨#[]⟩ 0 W (by decide) (by kernel_rfl)) <| ai (rc W Tryz.call32 fun W => spoiltLaw_any ⟨#[45]⟩ 1 W (by decide) (by kernel_rfl)) <| ai (rc W Tryz.call32 fun W => spoiltLaw_any ⟨#[45, 48]⟩ 1 W (by decide) (by kernel_rfl)) <| ai (rc W Tryz.call32 fun W => spoiltLaw_any ⟨#[48, 49]⟩ 1 W (by decide) (by kernel_rfl)) <| ai (rc W Tryz.call32 fun W => spoiltLaw_any ⟨#[49, 97]⟩ 1 W (by decide) (by kernel_rfl)) <| ai (rc W Tryz.call32 fun W => spoiltLaw_any ⟨#[43, 49]⟩ 0 W (by decide) (by kernel_rfl)) <| hR) (h10.later hW)) fun W => by kernel_rfl

theorem dawake_any (W : World) (h : Tab10 W) : Calls Tryz.prog 8 #[] W fun e w' => e = .returned (.bool true) ∧ Below W.heap.size W w' := (dawake_r W h).at

set_option maxRecDepth 100000 in
theorem prints_r {b : Bool} {s : ByteArray} (w : World) (h10 : Tab10 w) : RetAt Tryz.prog w 4 #[.agg #[.bool b, .string s]] (.bool true) := 
  ret_sk ttOk mixed (fun a w => Tryz.call4 a w) Tryz.func4 Tryz.ntmps4 Tryz.results4 _ rfl _ [.both [.o 2 0 (.ret (.val (.bool true)))] [.reg 18 [], .o 3 1 (.ret (.val (.string (ztext (ival b (sval s)))))), .o 3 3 (.ret (.val (.string (ztext (ival b (sval s)))))), .o 3 4 (.set (.bool true)), .o 3 7 (.ret (.val (.int .i64 (Lib.nDigits (sval s) : Int)))), .o 3 10 (.ret (.val (.string (dtext (sval s))))), .o 3 11 (.eq (.val (.int .i64 (Lib.nDigits (sval s) : Int)))), .g 3 15 true, .o 3 15 (.ret (.val (.bool true))), .o 3 16 (.pk true)]] (fun W hW hR => (fun (h10 : Tab10 W) => ai (fun h60 : (decide ((s.size : Int) > 60)) = true => ai (rt10 h10 Tryz.call8 fun W h => dawake_any W h) <| hR) fun h60 : (decide ((s.size : Int) > 60)) = false => ai (rt10 h10 Tryz.call11 fun W h => dPrint_any b s W (by have := of_decide_eq_false h60; omega) h) <| ai (rc W Tryz.call12 fun W => drPrint_any b s W (by have := of_decide_eq_false h60; omega)) <| ai (str_eql1 W (.tmp 9) (.tmp 11) (ztext (ival b (sval s))) (ztext (ival b (sval s))) rfl) <| ai (rt10 h10 Tryz.call13 fun W h => dLen_any b s W (by have := of_decide_eq_false h60; omega) h) <| ai (rc W Tryz.call14 fun W => drFig s W (by have := of_decide_eq_false h60; omega)) <| ai (show ((dtext (sval s)).size : Int) = (Lib.nDigits (sval s) : Int) from congrArg Int.ofNat (dtext_size _)) <| ai (show ((Lib.nDigits (sval s) : Int) == (Lib.nDigits (sval s) : Int)) = true from beq_self_eq_true _) <| ai (rt10 h10 Tryz.call8 fun W h => dawake_any W h) <| ai (show ((Lib.nDigits (sval s) : Int) == (Lib.nDigits (sval s) : Int)) = true from beq_self_eq_true _) <| hR) (h10.later hW)) fun W => by kernel_rfl

set_option maxRecDepth 100000 in
theorem parses_b {s : ByteArray} {i : Nat} (h1 : parseAt s.data.toList = some i) (w : World) (h10 : Tab10 w) : RetAt Tryz.prog w 3 #[.string s] (.bool true) := 
  ret_sk ttOk mixed (fun a w => Tryz.call3 a w) Tryz.func3 Tryz.ntmps3 Tryz.results3 _ rfl _ [.both [.o 2 0 (.ret (.val (.bool true)))] [.o 3 1 (.ret (.tup [.agg [.val (.bool false), .val (.string ⟨#[]⟩)], .val (.int .i64 (i : Int)), .val (.int .i64 2)])), .o 4 1 (.ret (.tup [.agg [.val (.bool false), .val (.string ⟨#[]⟩)], .val (.int .i64 (i : Int))])), .br true, .o 6 2 (.set (.bool true)), .g 6 9 true, .g 6 10 true, .o 6 11 (.pk true), .o 6 13 (.ret (.val (.bool true)))]] (fun W hW hR => (fun (h10 : Tab10 W) => ai (fun h100 : (decide ((s.size : Int) > 100)) = true => ai (rt10 h10 Tryz.call8 fun W h => dawake_any W h) <| hR) fun h100 : (decide ((s.size : Int) > 100)) = false => ai (rc W Tryz.call9 fun W => parse_bad s i W (by have := of_decide_eq_false h100; omega) h1) <| ai (rc W Tryz.call10 fun W => rparse_bad s i W (by have := of_decide_eq_false h100; omega) h1) <| ai (show decide ((i : Int) ≥ 0) = true from decide_eq_true (by omega)) <| ai (int_eq1 W (.tmp 25) (.tmp 26) 0 0 rfl) <| ai (show ((i : Int) == (i : Int)) = true from beq_self_eq_true _) <| ai (show ((i : Int) == (i : Int)) = true from beq_self_eq_true _) <| ai (show ((i : Int) == (i : Int)) = true from beq_self_eq_true _) <| ai (rt10 h10 Tryz.call8 fun W h => dawake_any W h) <| hR) (h10.later hW)) fun W => by kernel_rfl

set_option maxRecDepth 100000 in
theorem parses_g {s : ByteArray} (h1 : parseAt s.data.toList = none) (w : World) (h10 : Tab10 w) : RetAt Tryz.prog w 3 #[.string s] (.bool true) := 
  ret_sk ttOk mixed (fun a w => Tryz.call3 a w) Tryz.func3 Tryz.ntmps3 Tryz.results3 _ rfl _ [.both [.o 2 0 (.ret (.val (.bool true)))] [.o 3 1 (.ret (.tup [.val (vI (parseZ s.data.toList)), .val (.int .i64 0), .val (.int .i64 0)])), .o 4 1 (.ret (.tup [.val (vI (parseZ s.data.toList)), .val (.int .i64 (-1))])), .o 7 2 (.set (.bool true)), .o 7 12 (.ret (.val (.bool true)))]] (fun W hW hR => (fun (h10 : Tab10 W) => ai (fun h100 : (decide ((s.size : Int) > 100)) = true => ai (rt10 h10 Tryz.call8 fun W h => dawake_any W h) <| hR) fun h100 : (decide ((s.size : Int) > 100)) = false => ai (rc W Tryz.call9 fun W => parse_ok s (parseZ s.data.toList) W (by have := of_decide_eq_false h100; omega) h1 rfl) <| ai (rc W Tryz.call10 fun W => rparse_ok s (parseZ s.data.toList) W (by have := of_decide_eq_false h100; omega) h1 rfl) <| ai (int_eq1 W (.tmp 40) (.tmp 41) (parseZ s.data.toList) (parseZ s.data.toList) rfl) <| ai (rt10 h10 Tryz.call8 fun W h => dawake_any W h) <| hR) (h10.later hW)) fun W => by kernel_rfl

theorem digitsPrints_any (b : Bool) (s : ByteArray) (W : World) (h : Tab10 W) : Calls Tryz.prog 4 #[.agg #[.bool b, .string s]] W fun e w' => e = .returned (.bool true) ∧ Below W.heap.size W w' := (prints_r W h).at
theorem digitsParses_any (s : ByteArray) (W : World) (h : Tab10 W) : Calls Tryz.prog 3 #[.string s] W fun e w' => e = .returned (.bool true) ∧ Below W.heap.size W w' := by
  cases h1 : parseAt s.data.toList with
  | some i => exact (parses_b h1 W h).at
  | none => exact (parses_g h1 W h).at

end Go.Proofs.YtkgogbmeehiloaaGreatDoor

