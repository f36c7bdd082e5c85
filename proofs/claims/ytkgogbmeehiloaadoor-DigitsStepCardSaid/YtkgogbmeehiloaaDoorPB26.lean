/- The walks and plain laws beneath the statements. -/
import Derived.Test.YtkgogbmeehiloaaDoorPB22
import Derived.Test.YtkgogbmeehiloaaDoorPB25
import Derived.Test.YtkgogbmeehiloaaDoorPB10
import Derived.Test.YtkgogbmeehiloaaDoorPB14
import Derived.Deep.DeepCutAuto
import Derived.RegionTactic
import Derived.Test.YtkgogbmeehiloaaDoorPB20
namespace Go.Proofs.YtkgogbmeehiloaaDoor
open Go Go.RowKit Go.Lib

/-- A natural number's text. -/
def dtext (v : Nat) : ByteArray := ⟨(decDigits v).toArray⟩
theorem dtext_size (v : Nat) : (dtext v).size = nDigits v := by unfold dtext; rw [ba_size, dec_len]
theorem dFig (s : ByteArray) (W : World) (hs : s.size ≤ 65536) (hT : Tab10 W) : Calls Tryd.prog 17 #[.string s] W fun e w' => e = .returned (.string (dtext (sval s))) ∧ Below W.heap.size W w' := figures_any s W hs hT
theorem fig_sz {s : ByteArray} (hs : s.size ≤ 65536) : (⟨#[45]⟩ : ByteArray).size + (dtext (sval s)).size ≤ 9223372036854775807 := by
  have h := nDigits_256 (sval_lt s)
  rw [dtext_size]
  show 1 + _ ≤ _
  omega
theorem print_n {b : Bool} {s : ByteArray} (h : decide (sgn (ival b (sval s)) < 0) = true) : (⟨#[45]⟩ : ByteArray) ++ dtext (sval s) = ztext (ival b (sval s)) := by
  have h1 := sgn_lt.1 (of_decide_eq_true h)
  unfold ztext itoa dtext
  rw [if_pos h1, ival_natAbs]
  exact ba_append [45] _
theorem print_p {b : Bool} {s : ByteArray} (h : decide (sgn (ival b (sval s)) < 0) = false) : dtext (sval s) = ztext (ival b (sval s)) := by
  have h1 : ¬ ival b (sval s) < 0 := fun h2 => of_decide_eq_false h (sgn_lt.2 h2)
  unfold ztext itoa dtext
  rw [if_neg h1]
  have h2 := ival_natAbs b (sval s)
  rw [show (ival b (sval s)).toNat = sval s by omega]
/-! Parse. -/
def cutB (s : ByteArray) : Bool := hasPrefix s.data.toList [45]
def cutS (s : ByteArray) : ByteArray := ⟨(trimPrefix s.data.toList [45]).toArray⟩
theorem cut_any2 (s : ByteArray) (W : World) : Calls Tryd.prog 18 #[.string s, .string ⟨#[45]⟩] W fun e w' => e = .returned (.tuple #[.string (cutS s), .bool (cutB s)]) ∧ Below W.heap.size W w' :=
  (Tryd.strings_CutPrefix s ⟨#[45]⟩ W).mono fun e w' ⟨h1, h2⟩ => ⟨h1, by rw [h2]; exact Below.refl _ _⟩
theorem cutS_list (s : ByteArray) : (cutS s).data.toList = trimPrefix s.data.toList [45] := by simp [cutS]
theorem cut_yes {s : ByteArray} (h : cutB s = true) : ∃ l, s.data.toList = 45 :: l ∧ (cutS s).data.toList = l := by
  rw [cutS_list]
  unfold cutB at h
  unfold trimPrefix
  rw [if_pos h]
  unfold hasPrefix at h
  cases e : s.data.toList with
  | nil => rw [e] at h; cases h
  | cons c l =>
    rw [e] at h
    have hc : c = 45 := by
      have h2 : (45 == c) = true := by simpa using h
      exact (beq_iff_eq.1 h2).symm
    subst hc
    exact ⟨l, rfl, rfl⟩
theorem cut_no {s : ByteArray} (h : cutB s = false) : cutS s = s ∧ ∀ c l, s.data.toList = c :: l → (c == 45) = false := by
  unfold cutB at h
  refine ⟨?_, fun c l e => ?_⟩
  · unfold cutS trimPrefix
    rw [if_neg (by rw [h]; decide)]
  · unfold hasPrefix at h
    rw [e] at h
    cases e2 : c == 45 with
    | false => rfl
    | true =>
      have : c = 45 := by simpa using e2
      subst this
      simp at h
theorem cut_sz {s : ByteArray} {n : Nat} (hs : s.size ≤ n) : (cutS s).size ≤ n := by
  have h1 : (cutS s).data.toList.length = (cutS s).size := by simp
  have h2 : s.data.toList.length = s.size := by simp
  cases h : cutB s with
  | true =>
    obtain ⟨l, e1, e2⟩ := cut_yes h
    rw [e2] at h1
    rw [e1] at h2
    simp at h2; omega
  | false => rw [(cut_no h).1]; exact hs
/-- What Parse answers. -/
def dpV (l : List UInt8) : Value := match parseAt l with
  | some i => .tuple #[.agg #[.bool false, .string ⟨#[]⟩], .int .i64 i, .int .i64 2]
  | none => .tuple #[.agg #[.bool (neg (parseZ l)), .string (mag (parseZ l))], .int .i64 0, .int .i64 0]
theorem spoI_cases (l : List UInt8) : (∃ i : Nat, spoil l = some i ∧ spoI l = i) ∨ (spoil l = none ∧ spoI l = -1) := by
  unfold spoI
  cases h : spoil l with
  | some i => exact .inl ⟨i, rfl, rfl⟩
  | none => exact .inr ⟨rfl, rfl⟩
theorem spoil_le {l : List UInt8} {i : Nat} (h : spoil l = some i) : i ≤ l.length := by
  unfold spoil at h
  split at h
  · rename_i j hj
    have h1 := List.mem_of_find?_eq_some hj
    have h2 := List.mem_range.1 h1
    injection h with h; omega
  · split at h
    · injection h with h; omega
    · cases h
theorem spoI_le (s : ByteArray) : -1 ≤ spoI s.data.toList ∧ spoI s.data.toList ≤ s.size := by
  rcases spoI_cases s.data.toList with ⟨i, h1, h2⟩ | ⟨_, h2⟩
  · have := spoil_le h1
    have h3 : s.data.toList.length = s.size := by simp
    omega
  · omega
theorem spoI_w {s : ByteArray} (hs : s.size ≤ 65536) : IntKind.i64.wrap (spoI (cutS s).data.toList + 1) = spoI (cutS s).data.toList + 1 := by
  have h := spoI_le (cutS s)
  have h2 := cut_sz hs
  exact IntWalk.i64_in _ (by omega)
theorem cut_pos {s : ByteArray} (h : (spoI (cutS s).data.toList != 0) = true) : 0 < (cutS s).size := by
  rcases Nat.eq_zero_or_pos (cutS s).size with h2 | h2
  · have : (cutS s).data.toList = [] := List.length_eq_zero_iff.1 (by simpa using h2)
    rw [this] at h; exact absurd h (by decide)
  · exact h2
theorem cut_digs {s : ByteArray} (h : decide (spoI (cutS s).data.toList ≥ 0) = false) : digs (cutS s) := by
  have h1 := of_decide_eq_false h
  rcases spoI_cases (cutS s).data.toList with ⟨i, _, h2⟩ | ⟨h2, _⟩
  · omega
  · have hg := spoil_none.1 h2
    intro j hj
    have h3 := isDig_iff.1 (badB_dig (hg.2 j (by simpa using hj)))
    exact h3
theorem head48 {s : ByteArray} (hp : 0 < s.size) : (s.data.toList.head? == some 48) = decide (byt s 0 = 48) := by
  obtain ⟨c, l, e, hc⟩ := list_cons s hp
  rw [e]
  by_cases h : byt s 0 = 48
  · have : c = 48 := UInt8.toNat_inj.1 (by rw [hc, h]; rfl)
    rw [decide_eq_true h, this]; rfl
  · have : ¬ c = 48 := fun e2 => h (by rw [← hc, e2]; rfl)
    rw [decide_eq_false h]
    simpa using this
theorem parse_neg {s : ByteArray} (h : cutB s = true) : parseAt s.data.toList = (match (cutS s).data.toList.head? == some 48 with | true => some 1 | false => (spoil (cutS s).data.toList).map (· + 1)) ∧ parseZ s.data.toList = -(dval (cutS s).data.toList : Int) := by
  obtain ⟨l, e1, e2⟩ := cut_yes h
  rw [e1, e2]
  exact ⟨rfl, rfl⟩
theorem parse_pos {s : ByteArray} (h : cutB s = false) : parseAt s.data.toList = spoil (cutS s).data.toList ∧ parseZ s.data.toList = (dval (cutS s).data.toList : Int) := by
  obtain ⟨e1, e2⟩ := cut_no h
  rw [e1]
  cases e : s.data.toList with
  | nil => exact ⟨rfl, rfl⟩
  | cons c l =>
    simp only [parseAt, parseZ, e2 c l e]
    exact ⟨trivial, trivial⟩
/-- Spoilt at the nought behind the sign. -/
theorem dp_1 {s : ByteArray} (hn : cutB s = true) (h0 : (spoI (cutS s).data.toList != 0) = true) (h48 : ((byt (cutS s) 0 : Int) == 48) = true) : (.tuple #[.agg #[.bool false, .string ⟨#[]⟩], .int .i64 1, .int .i64 2] : Value) = dpV s.data.toList := by
  have h1 := (parse_neg hn).1
  have h2 := bey h48
  rw [head48 (cut_pos h0), decide_eq_true (by omega)] at h1
  unfold dpV; rw [h1]; rfl
theorem dp_2 {s : ByteArray} (hn : cutB s = true) (h0 : ¬ ((spoI (cutS s).data.toList != 0) = true ∧ byt (cutS s) 0 = 48)) (hg : decide (spoI (cutS s).data.toList ≥ 0) = true) : (.tuple #[.agg #[.bool false, .string ⟨#[]⟩], .int .i64 (spoI (cutS s).data.toList + 1), .int .i64 2] : Value) = dpV s.data.toList := by
  have h1 := (parse_neg hn).1
  have h2 := of_decide_eq_true hg
  rcases spoI_cases (cutS s).data.toList with ⟨i, h3, h4⟩ | ⟨_, h4⟩
  · have hh : ((cutS s).data.toList.head? == some 48) = false := by
      by_cases hp : 0 < (cutS s).size
      · rw [head48 hp]
        by_cases e : byt (cutS s) 0 = 48
        · have hz : ¬ (spoI (cutS s).data.toList != 0) = true := fun h => h0 ⟨h, e⟩
          have hz2 : spoI (cutS s).data.toList = 0 := by simpa using hz
          have hi : i = 0 := by omega
          subst hi
          exfalso
          unfold spoil at h3
          split at h3
          · rename_i j hj
            obtain rfl : j = 0 := by injection h3
            have hb := List.find?_some hj
            have hb2 : badB (cutS s).data.toList 0 = false := by
              have h5 := badB_ok (s := cutS s) (p := 0) (by omega) (by omega)
              rw [h5]; rfl
            rw [hb2] at hb; cases hb
          · split at h3
            · rename_i hnil
              have h6 : (cutS s).data.toList.length = 0 := by rw [hnil]; rfl
              have h7 : (cutS s).data.toList.length = (cutS s).size := by simp
              omega
            · cases h3
        · exact decide_eq_false e
      · have h7 : (cutS s).data.toList.length = (cutS s).size := by simp
        have : (cutS s).data.toList = [] := List.length_eq_zero_iff.1 (by omega)
        rw [this]; rfl
    rw [hh, h3] at h1
    unfold dpV; rw [h1, h4]
    rfl
  · omega
theorem dp_3 {s : ByteArray} (hn : cutB s = false) (hg : decide (spoI (cutS s).data.toList ≥ 0) = true) : (.tuple #[.agg #[.bool false, .string ⟨#[]⟩], .int .i64 (spoI (cutS s).data.toList), .int .i64 2] : Value) = dpV s.data.toList := by
  have h1 := (parse_pos hn).1
  have h2 := of_decide_eq_true hg
  rcases spoI_cases (cutS s).data.toList with ⟨i, h3, h4⟩ | ⟨_, h4⟩
  · rw [h3] at h1
    unfold dpV; rw [h1, h4]
  · omega
theorem dp_4 {s : ByteArray} (hn : cutB s = true) (h0 : ¬ ((spoI (cutS s).data.toList != 0) = true ∧ byt (cutS s) 0 = 48)) (hg : decide (spoI (cutS s).data.toList ≥ 0) = false) : (.tuple #[.agg #[.bool (neg (ival true (dval (cutS s).data.toList))), .string (mag (ival true (dval (cutS s).data.toList)))], .int .i64 0, .int .i64 0] : Value) = dpV s.data.toList := by
  obtain ⟨h1, h5⟩ := parse_neg hn
  have h2 := of_decide_eq_false hg
  rcases spoI_cases (cutS s).data.toList with ⟨i, h3, h4⟩ | ⟨h3, h4⟩
  · omega
  · have hne : (spoI (cutS s).data.toList != 0) = true := by rw [h4]; rfl
    have hh : ((cutS s).data.toList.head? == some 48) = false := by
      rw [head48 (cut_pos hne)]
      exact decide_eq_false fun e => h0 ⟨hne, e⟩
    rw [hh, h3] at h1
    unfold dpV; rw [h1, h5]; rfl
theorem dp_5 {s : ByteArray} (hn : cutB s = false) (hg : decide (spoI (cutS s).data.toList ≥ 0) = false) : (.tuple #[.agg #[.bool (neg (ival false (dval (cutS s).data.toList))), .string (mag (ival false (dval (cutS s).data.toList)))], .int .i64 0, .int .i64 0] : Value) = dpV s.data.toList := by
  obtain ⟨h1, h5⟩ := parse_pos hn
  have h2 := of_decide_eq_false hg
  rcases spoI_cases (cutS s).data.toList with ⟨i, h3, h4⟩ | ⟨h3, h4⟩
  · omega
  · rw [h3] at h1
    unfold dpV; rw [h1, h5]; rfl
theorem wFormV (b : Bool) (v : Nat) (W : World) : Calls Tryd.prog 8 #[.agg #[.bool b, .string (nstr v)]] W fun e w' => e = .returned (.agg #[.bool (neg (ival b v)), .string (mag (ival b v))]) ∧ Below W.heap.size W w' := by
  have c := wForm_any (nstr v) b W
  rwa [sval_nstr] at c
set_option maxRecDepth 100000 in
theorem int_eq (W : World) (p q : Operand) (x y : Int) : RunOk Tryd.prog W (do eqGuard .eql 23 p q (vI x) (vI y); binOp .eql 23 (vI x) (vI y)) (.bool (decide (x = y))) := fun W' _ => by
  have h : (neg x = neg y ∧ (mag x).toList = (mag y).toList) ↔ x = y := by
    rw [ByteArray.toList_eq, ByteArray.toList_eq]
    exact ⟨fun h => mk_inj h.1 (ByteArray.ext (by simpa using h.2)), fun h => by rw [h]; exact ⟨rfl, rfl⟩⟩
  unfold vI
  simp [go_sem]
  by_cases e : x = y
  · subst e; simp
  · have h2 := mt h.1 e
    by_cases h3 : neg x = neg y <;> by_cases h4 : (mag x).toList = (mag y).toList <;> simp_all
set_option maxRecDepth 100000 in
theorem int_ne (W : World) (p q : Operand) (x y : Int) : RunOk Tryd.prog W (do eqGuard .neq 23 p q (vI x) (vI y); binOp .neq 23 (vI x) (vI y)) (.bool (!decide (x = y))) := fun W' _ => by
  have h : (neg x = neg y ∧ (mag x).toList = (mag y).toList) ↔ x = y := by
    rw [ByteArray.toList_eq, ByteArray.toList_eq]
    exact ⟨fun h => mk_inj h.1 (ByteArray.ext (by simpa using h.2)), fun h => by rw [h]; exact ⟨rfl, rfl⟩⟩
  unfold vI
  simp [go_sem]
  by_cases e : x = y
  · subst e; simp
  · have h2 := mt h.1 e
    by_cases h3 : neg x = neg y <;> by_cases h4 : (mag x).toList = (mag y).toList <;> simp_all
end Go.Proofs.YtkgogbmeehiloaaDoor

namespace Go.Proofs.YtkgogbmeehiloaaDoor
open Go Go.RowKit


set_option maxRecDepth 100000 in
theorem print_r {b : Bool} {s : ByteArray} (hs : s.size ≤ 65536) (w : World) (h10 : Tab10 w) : RetAt Tryd.prog w 6 #[.agg #[.bool b, .string s]] (.string (ztext (ival b (sval s)))) := 
  ret_sk ttOk mixed (fun a w => Tryd.call6 a w) Tryd.func6 Tryd.ntmps6 Tryd.results6 _ rfl _ [.o 1 2 (.ret (.val (.string (dtext (sval s))))), .o 2 1 (.ret (.val (.int .i64 (sgn (ival b (sval s)))))), .both [.o 3 1 (.set (.string (⟨#[45]⟩ ++ (dtext (sval s)))))] []] (fun W hW hR => (fun (h10 : Tab10 W) => ai (rt10 h10 Tryd.call17 fun W h => dFig s W hs h) <| ai (rc W Tryd.call10 fun W => wSign_any s b W) <| ai (fun hn : (decide ((sgn (ival b (sval s))) < 0)) = true => ai (str_add W (.const (.string ⟨#[45]⟩)) (.tmp 10) ⟨#[45]⟩ (dtext (sval s)) (fig_sz hs)) <| (show (.string (⟨#[45]⟩ ++ (dtext (sval s))) : Value) = .string (ztext (ival b (sval s))) from congrArg Value.string (print_n hn))) fun hn : (decide ((sgn (ival b (sval s))) < 0)) = false => (show (.string (dtext (sval s)) : Value) = .string (ztext (ival b (sval s))) from congrArg Value.string (print_p hn))) (h10.later hW)) fun W => by kernel_rfl

set_option maxRecDepth 100000 in
theorem len_r {b : Bool} {s : ByteArray} (hs : s.size ≤ 65536) (w : World) (h10 : Tab10 w) : RetAt Tryd.prog w 14 #[.agg #[.bool b, .string s]] (.int .i64 (Lib.nDigits (sval s) : Int)) := 
  ret_sk ttOk mixed (fun a w => Tryd.call14 a w) Tryd.func14 Tryd.ntmps14 Tryd.results14 _ rfl _ [.o 1 2 (.ret (.val (.string (dtext (sval s))))), .o 1 3 (.eq (.val (.int .i64 (Lib.nDigits (sval s) : Int))))] (fun W hW hR => (fun (h10 : Tab10 W) => ai (rt10 h10 Tryd.call17 fun W h => dFig s W hs h) <| ai (show ((dtext (sval s)).size : Int) = (Lib.nDigits (sval s) : Int) from congrArg Int.ofNat (dtext_size _)) <| hR) (h10.later hW)) fun W => by kernel_rfl

set_option maxRecDepth 100000 in
theorem parse_r {s : ByteArray} (hs : s.size ≤ 65536) (w : World) : RetAt Tryd.prog w 7 #[.string s] (dpV s.data.toList) := 
  ret_sk ttOk mixed (fun a w => Tryd.call7 a w) Tryd.func7 Tryd.ntmps7 Tryd.results7 _ rfl _ [.o 1 1 (.ret (.tup [.val (.string (cutS s)), .val (.bool (cutB s))])), .o 2 1 (.ret (.val (.int .i64 (spoI (cutS s).data.toList)))), .gb 3 2 [.g 3 3 true, .o 3 4 (.pk true), .gb 3 6 [.g 3 7 true, .o 3 7 (.set (.int .u8 (byt (cutS s) 0 : Int))), .g 3 8 true, .o 3 9 (.pk true), .both [.br true, .o 6 2 (.eq (.val (.int .i64 1)))] [.gb 5 3 [.o 5 4 (.pk true), .br true, .o 6 2 (.eq (.val (.int .i64 (spoI (cutS s).data.toList + 1))))] [.o 5 4 (.pk false), .br false, .br false, .o 9 2 (.ret (.val (.string (nstr (dval (cutS s).data.toList))))), .o 9 4 (.ret (.val (vI (ival (cutB s) (dval (cutS s).data.toList)))))]]] [.g 3 7 false, .g 3 8 false, .o 3 9 (.pk false), .g 5 3 true, .o 5 4 (.pk true), .br true, .o 6 2 (.eq (.val (.int .i64 (spoI (cutS s).data.toList + 1))))]] [.g 3 3 false, .o 3 4 (.pk false), .gb 5 3 [.o 5 4 (.pk true), .br false, .br true] [.o 5 4 (.pk false), .br false, .br false, .o 9 2 (.ret (.val (.string (nstr (dval (cutS s).data.toList))))), .o 9 4 (.ret (.val (vI (ival (cutB s) (dval (cutS s).data.toList)))))]]] (fun W hW hR => ai (rc W Tryd.call18 fun W => cut_any2 s W) <| ai (rc W Tryd.call19 fun W => spoilt_any (cutS s) W (by have := cut_sz hs; omega)) <| ai (fun hn : (cutB s) = true => ai hn <| ai hn <| ai (fun h0 : ((spoI (cutS s).data.toList) != 0) = true => ai h0 <| ai (str_idx W (cutS s) 0 (cut_pos h0)) <| ai h0 <| ai h0 <| ai (fun h48 : ((byt (cutS s) 0 : Int) == 48) = true => ai hn <| ai (show IntKind.i64.wrap (0 + 1) = 1 from by decide) <| (show (.tuple #[.agg #[.bool false, .string ⟨#[]⟩], .int .i64 1, .int .i64 2] : Value) = dpV s.data.toList from dp_1 hn h0 h48)) fun h48 : ((byt (cutS s) 0 : Int) == 48) = false => ai (fun hg : (decide ((spoI (cutS s).data.toList) ≥ 0)) = true => ai hg <| ai hn <| ai (spoI_w hs) <| (show (.tuple #[.agg #[.bool false, .string ⟨#[]⟩], .int .i64 (spoI (cutS s).data.toList + 1), .int .i64 2] : Value) = dpV s.data.toList from dp_2 hn (fun h => ben h48 (by omega)) hg)) fun hg : (decide ((spoI (cutS s).data.toList) ≥ 0)) = (!true) => ai hg <| ai (rfl : false = false) <| ai hg <| ai (rc W Tryd.call20 fun W => value_any (cutS s) W (cut_sz hs) (cut_digs hg)) <| ai (rc W Tryd.call8 fun W => wFormV (cutB s) (dval (cutS s).data.toList) W) <| (show (.tuple #[vI (ival (cutB s) (dval (cutS s).data.toList)), .int .i64 0, .int .i64 0] : Value) = dpV s.data.toList from by rw [hn]; exact dp_4 hn (fun h => ben h48 (by omega)) hg)) fun h0 : ((spoI (cutS s).data.toList) != 0) = (!true) => ai h0 <| ai h0 <| ai h0 <| ai (show decide ((spoI (cutS s).data.toList) ≥ 0) = true from decide_eq_true (by have := h0; simp at this; omega)) <| ai (show decide ((spoI (cutS s).data.toList) ≥ 0) = true from decide_eq_true (by have := h0; simp at this; omega)) <| ai hn <| ai (spoI_w hs) <| (show (.tuple #[.agg #[.bool false, .string ⟨#[]⟩], .int .i64 (spoI (cutS s).data.toList + 1), .int .i64 2] : Value) = dpV s.data.toList from dp_2 hn (fun h => absurd h.1 (by rw [h0]; decide)) (decide_eq_true (by have := h0; simp at this; omega)))) fun hn : (cutB s) = (!true) => ai hn <| ai hn <| ai (fun hg : (decide ((spoI (cutS s).data.toList) ≥ 0)) = true => ai hg <| ai hn <| ai hg <| (show (.tuple #[.agg #[.bool false, .string ⟨#[]⟩], .int .i64 (spoI (cutS s).data.toList), .int .i64 2] : Value) = dpV s.data.toList from dp_3 hn hg)) fun hg : (decide ((spoI (cutS s).data.toList) ≥ 0)) = (!true) => ai hg <| ai (rfl : false = false) <| ai hg <| ai (rc W Tryd.call20 fun W => value_any (cutS s) W (cut_sz hs) (cut_digs hg)) <| ai (rc W Tryd.call8 fun W => wFormV (cutB s) (dval (cutS s).data.toList) W) <| (show (.tuple #[vI (ival (cutB s) (dval (cutS s).data.toList)), .int .i64 0, .int .i64 0] : Value) = dpV s.data.toList from by rw [hn]; exact dp_5 hn hg)) fun W => by kernel_rfl

end Go.Proofs.YtkgogbmeehiloaaDoor

namespace Go.Proofs.YtkgogbmeehiloaaDoor
open Go Go.RowKit Go.Lib

theorem dPrint_any (b : Bool) (s : ByteArray) (W : World) (hs : s.size ≤ 65536) (h : Tab10 W) : Calls Tryd.prog 6 #[.agg #[.bool b, .string s]] W fun e w' => e = .returned (.string (ztext (ival b (sval s)))) ∧ Below W.heap.size W w' := (print_r hs W h).at
theorem dPrint_m (z : Int) (W : World) (hs : bsz z ≤ 65536) (h : Tab10 W) : Calls Tryd.prog 6 #[.agg #[.bool (neg z), .string (mag z)]] W fun e w' => e = .returned (.string (ztext z)) ∧ Below W.heap.size W w' := by
  have c := dPrint_any (neg z) (mag z) W (by rw [mag_size]; exact hs) h
  rwa [ival_mk] at c
theorem dLen_any (b : Bool) (s : ByteArray) (W : World) (hs : s.size ≤ 65536) (h : Tab10 W) : Calls Tryd.prog 14 #[.agg #[.bool b, .string s]] W fun e w' => e = .returned (.int .i64 (nDigits (sval s) : Int)) ∧ Below W.heap.size W w' := (len_r hs W h).at
theorem dLen_m (z : Int) (W : World) (hs : bsz z ≤ 65536) (h : Tab10 W) : Calls Tryd.prog 14 #[.agg #[.bool (neg z), .string (mag z)]] W fun e w' => e = .returned (.int .i64 (nDigits z.natAbs : Int)) ∧ Below W.heap.size W w' := by
  have c := dLen_any (neg z) (mag z) W (by rw [mag_size]; exact hs) h
  rwa [sval_mag] at c
theorem parse_ok (s : ByteArray) (z : Int) (W : World) (hs : s.size ≤ 65536) (h1 : parseAt s.data.toList = none) (h2 : parseZ s.data.toList = z) : Calls Tryd.prog 7 #[.string s] W fun e w' => e = .returned (.tuple #[vI z, .int .i64 0, .int .i64 0]) ∧ Below W.heap.size W w' := by
  have c := (parse_r hs W).at
  unfold dpV at c
  rw [h1] at c
  dsimp only at c
  rw [h2] at c
  exact c
theorem parse_bad (s : ByteArray) (i : Nat) (W : World) (hs : s.size ≤ 65536) (h1 : parseAt s.data.toList = some i) : Calls Tryd.prog 7 #[.string s] W fun e w' => e = .returned (.tuple #[.agg #[.bool false, .string ⟨#[]⟩], .int .i64 (i : Int), .int .i64 2]) ∧ Below W.heap.size W w' := by
  have c := (parse_r hs W).at
  unfold dpV at c
  rw [h1] at c
  exact c
theorem parse_text (z : Int) (W : World) (hs : (ztext z).size ≤ 65536) : Calls Tryd.prog 7 #[.string (ztext z)] W fun e w' => e = .returned (.tuple #[vI z, .int .i64 0, .int .i64 0]) ∧ Below W.heap.size W w' :=
  parse_ok (ztext z) z W hs (by rw [ztext_list]; exact (parse_itoa z).1) (by rw [ztext_list]; exact (parse_itoa z).2)
theorem ztext_lit {s : ByteArray} {z : Int} (h : parseAt s.data.toList = none) (h2 : parseZ s.data.toList = z) : ztext z = s := by
  unfold ztext
  rw [← h2, itoa_parse h]
theorem ztext_size (z : Int) : (ztext z).size ≤ nDigits z.natAbs + 1 := by
  have h : (ztext z).size = (itoa z).length := by unfold ztext; rw [ba_size]
  rw [h]
  unfold itoa
  split
  · rw [List.length_cons, dec_len]; exact Nat.le_refl _
  · rw [dec_len, show z.toNat = z.natAbs by omega]; omega
theorem ztext_sz {b : Bool} {s : ByteArray} {n : Nat} (hs : s.size ≤ n) : (ztext (ival b (sval s))).size ≤ 3 * n + 2 := by
  have h1 := ztext_size (ival b (sval s))
  rw [ival_natAbs] at h1
  have h2 := nDigits_256 (sval_lt s)
  omega
theorem str_eql1 (W : World) (x y : Operand) (a b : ByteArray) (h : a = b) : RunOk Tryd.prog W (do eqGuard .eql 9 x y (.string a) (.string b); binOp .eql 9 (.string a) (.string b)) (.bool true) := by
  have c := str_eql W x y a b
  rwa [decide_eq_true h] at c
theorem str_eqz (W : World) (x y : Operand) (a b : Int) : RunOk Tryd.prog W (do eqGuard .eql 9 x y (.string (ztext a)) (.string (ztext b)); binOp .eql 9 (.string (ztext a)) (.string (ztext b))) (.bool (decide (a = b))) := by
  have c := str_eql W x y (ztext a) (ztext b)
  rwa [show decide (ztext a = ztext b) = decide (a = b) from decide_eq_decide.2 ztext_inj] at c
theorem str_addc (W : World) (x y : Operand) (a b c : ByteArray) (hs : a.size + b.size ≤ 9223372036854775807) (h : a ++ b = c) : RunOk Tryd.prog W (do eqGuard .add 9 x y (.string a) (.string b); binOp .add 9 (.string a) (.string b)) (.string c) := h ▸ str_add W x y a b hs
theorem int_eq1 (W : World) (p q : Operand) (x y : Int) (h : x = y) : RunOk Tryd.prog W (do eqGuard .eql 23 p q (vI x) (vI y); binOp .eql 23 (vI x) (vI y)) (.bool true) := by
  have c := int_eq W p q x y
  rwa [decide_eq_true h] at c
theorem int_ne1 (W : World) (p q : Operand) (x y : Int) (h : x = y) : RunOk Tryd.prog W (do eqGuard .neq 23 p q (vI x) (vI y); binOp .neq 23 (vI x) (vI y)) (.bool false) := by
  have c := int_ne W p q x y
  rwa [decide_eq_true h] at c
theorem bool_neq (W : World) (x y : Operand) (a b : Bool) : RunOk Tryd.prog W (do eqGuard .neq 4 x y (.bool a) (.bool b); binOp .neq 4 (.bool a) (.bool b)) (.bool (a != b)) := fun W' _ => by
  cases a <;> cases b <;> simp [go_sem]
theorem sgn_dec (x y : Int) : (sgn (x - y) == 0) = decide (x = y) := by
  by_cases h : x = y
  · rw [decide_eq_true h, h, Int.sub_self]; rfl
  · rw [decide_eq_false h]
    have : ¬ sgn (x - y) = 0 := fun h2 => h (by have := sgn_eq.1 h2; omega)
    simpa using this
set_option maxRecDepth 100000 in
theorem rem10 (W : World) (x y : Operand) (d : Nat) (h : d < 256) : RunOk Tryd.prog W (do eqGuard .rem 5 x y (.int .u8 (d : Int)) (.int .u8 10); binOp .rem 5 (.int .u8 (d : Int)) (.int .u8 10)) (.int .u8 ((d % 10 : Nat) : Int)) := fun W' _ => by
  have h3 : (d : Int).tmod 10 = ((d % 10 : Nat) : Int) := by rw [Int.tmod_eq_emod_of_nonneg (by omega)]; omega
  generalize ((d % 10 : Nat) : Int) = r at *
  simp [go_sem]
  exact h3
theorem step_text {b : Bool} {s : ByteArray} {d : Nat} (h : (sgn (ival b (sval s)) != 0) = true) : ztext (ival b (sval s)) ++ (⟨[dch (d % 10)].toArray⟩ : ByteArray) = ztext (10 * ival b (sval s) + sgn (ival b (sval s)) * ((d % 10 : Nat) : Int)) := by
  have h1 : ival b (sval s) ≠ 0 := fun e => by rw [e] at h; exact absurd h (by decide)
  unfold ztext
  rw [itoa_snoc h1 (Nat.mod_lt _ (by decide)), ba_append]
theorem step_abs {a : Int} (h : (sgn a != 0) = true) (k : Nat) : (10 * a + sgn a * (k : Int)).natAbs = 10 * a.natAbs + k := by
  have h1 : a ≠ 0 := fun e => by rw [e] at h; exact absurd h (by decide)
  unfold sgn
  split <;> (try split) <;> omega
theorem step_sz {b : Bool} {s : ByteArray} {d n : Nat} (hs : s.size ≤ n) (h : (sgn (ival b (sval s)) != 0) = true) : bsz (10 * ival b (sval s) + sgn (ival b (sval s)) * ((d % 10 : Nat) : Int)) ≤ n + 1 := by
  refine bsz_le ?_
  rw [step_abs h, ival_natAbs]
  have h1 := sval_lt s
  have h2 : 256 ^ s.size ≤ 256 ^ n := Nat.pow_le_pow_right (by decide) hs
  rw [Nat.pow_succ]; omega
theorem step_tz {b : Bool} {s : ByteArray} {d n : Nat} (hs : s.size ≤ n) (h : (sgn (ival b (sval s)) != 0) = true) : (ztext (10 * ival b (sval s) + sgn (ival b (sval s)) * ((d % 10 : Nat) : Int))).size ≤ 3 * n + 3 := by
  have h1 := ztext_sz (b := b) hs
  rw [← step_text h]
  have h2 : (ztext (ival b (sval s)) ++ (⟨[dch (d % 10)].toArray⟩ : ByteArray)).size = (ztext (ival b (sval s))).size + 1 := by rw [ByteArray.size_append]; rfl
  rw [h2]; omega
theorem step_len {b : Bool} {s : ByteArray} {d : Nat} (h : (sgn (ival b (sval s)) != 0) = true) : (nDigits (10 * ival b (sval s) + sgn (ival b (sval s)) * ((d % 10 : Nat) : Int)).natAbs : Int) = (nDigits (sval s) + 1 : Nat) := by
  have h1 : sval s ≠ 0 := fun e => by rw [e, ival_zero] at h; exact absurd h (by decide)
  rw [step_abs h, ival_natAbs, nDigits_big (by omega), show (10 * sval s + d % 10) / 10 = sval s by omega]
theorem nd_w {s : ByteArray} {n : Nat} (hs : s.size ≤ n) (hn : n ≤ 65536) : IntKind.i64.wrap ((nDigits (sval s) : Int) + 1) = ((nDigits (sval s) + 1 : Nat) : Int) := by
  have h2 := nDigits_256 (sval_lt s)
  rw [IntWalk.i64_in _ (by omega)]; omega
theorem nd_w2 {s t : ByteArray} {n : Nat} (hs : s.size ≤ n) (ht : t.size ≤ n) (hn : n ≤ 65536) : IntKind.i64.wrap ((nDigits (sval s) : Int) + (nDigits (sval t) : Int)) = ((nDigits (sval s) + nDigits (sval t) : Nat) : Int) := by
  have h2 := nDigits_256 (sval_lt s)
  have h3 := nDigits_256 (sval_lt t)
  rw [IntWalk.i64_in _ (by omega)]; omega
theorem nd_w3 {s t : ByteArray} {n : Nat} (hs : s.size ≤ n) (ht : t.size ≤ n) (hn : n ≤ 65536) : IntKind.i64.wrap (((nDigits (sval s) + nDigits (sval t) : Nat) : Int) - 1) = ((nDigits (sval s) + nDigits (sval t) - 1 : Nat) : Int) := by
  have h2 := nDigits_256 (sval_lt s)
  have h3 := nDigits_256 (sval_lt t)
  have h4 := nDigits_pos (sval s)
  rw [IntWalk.i64_in _ (by omega)]; omega
theorem nd_prod {b b' : Bool} {s t : ByteArray} (h : (sgn (ival b (sval s)) != 0) = true) (h' : (sgn (ival b' (sval t)) != 0) = true) (hf : ((nDigits (ival b (sval s) * ival b' (sval t)).natAbs : Int) == ((nDigits (sval s) + nDigits (sval t) : Nat) : Int)) = false) : ((nDigits (ival b (sval s) * ival b' (sval t)).natAbs : Int) == ((nDigits (sval s) + nDigits (sval t) - 1 : Nat) : Int)) = true := by
  have h1 : sval s ≠ 0 := fun e => by rw [e, ival_zero] at h; exact absurd h (by decide)
  have h2 : sval t ≠ 0 := fun e => by rw [e, ival_zero] at h'; exact absurd h' (by decide)
  have h3 := ben hf
  rw [Int.natAbs_mul, ival_natAbs, ival_natAbs] at h3 ⊢
  rcases nDigits_mul h1 h2 with h4 | h4
  · exact absurd (by rw [h4]) h3
  · rw [h4]; simp
theorem w48 {d : Nat} : IntKind.i64.wrap (48 + ((d % 10 : Nat) : Int)) = ((48 + d % 10 : Nat) : Int) := by rw [IntWalk.i64_in _ (by omega)]; omega
theorem w48u {d : Nat} : IntKind.u8.wrap ((48 + d % 10 : Nat) : Int) = ((dch (d % 10)).toNat : Int) := by
  rw [dch_toNat (Nat.mod_lt _ (by decide))]
  exact u8_wrap rfl (by omega)
theorem w10 {d : Nat} : IntKind.i64.wrap ((d % 10 : Nat) : Int) = ((d % 10 : Nat) : Int) := IntWalk.i64_in _ (by omega)
theorem wks {z : Int} {d : Nat} : IntKind.i64.wrap (((d % 10 : Nat) : Int) * sgn z) = ((d % 10 : Nat) : Int) * sgn z := by
  have h := sgn_bd z
  have h1 : sgn z = -1 ∨ sgn z = 0 ∨ sgn z = 1 := by omega
  rcases h1 with h1 | h1 | h1 <;> rw [h1] <;> exact IntWalk.i64_in _ (by omega)
theorem ks_bd {z : Int} {d : Nat} : -9223372036854775808 ≤ ((d % 10 : Nat) : Int) * sgn z ∧ ((d % 10 : Nat) : Int) * sgn z ≤ 9223372036854775807 := by
  have h := sgn_bd z
  have h1 : sgn z = -1 ∨ sgn z = 0 ∨ sgn z = 1 := by omega
  rcases h1 with h1 | h1 | h1 <;> rw [h1] <;> omega
theorem dMul2 {b b' : Bool} {s t : ByteArray} {g : Nat} {W : World} (hs : s.size ≤ 65536) (ht : t.size ≤ 65536) (h : Bx W g 23 #[.bool b, .string s, .bool b', .string t]) :
    Calls Tryd.prog 12 #[.slice (some ⟨g, 0, none⟩) 2 2] W fun e w' => e = .returned (vI (ival b (sval s) * ival b' (sval t))) ∧ Below W.heap.size W w' := by
  have c := wMul_any (some ⟨g, 0, none⟩) 2 2 (fun j => if j = 0 then b else b') (fun j => if j = 0 then s else t) 65536 W (by decide) (by decide) (fun j => by split <;> assumption) (by decide) (fun _ => ⟨g, 0, rfl, fun j hj => by
    rw [h.cel, h.cel]
    rcases j with _ | _ | j
    · exact ⟨rfl, rfl⟩
    · exact ⟨rfl, rfl⟩
    · omega⟩)
  simpa [prodI, vI] using c
theorem dAdd2 {b b' : Bool} {s t : ByteArray} {g : Nat} {W : World} (hs : s.size ≤ 65536) (ht : t.size ≤ 65536) (h : Bx W g 23 #[.bool b, .string s, .bool b', .string t]) :
    Calls Tryd.prog 11 #[.slice (some ⟨g, 0, none⟩) 2 2] W fun e w' => e = .returned (vI (ival b (sval s) + ival b' (sval t))) ∧ Below W.heap.size W w' := by
  have c := wAdd_any (some ⟨g, 0, none⟩) 2 2 (fun j => if j = 0 then b else b') (fun j => if j = 0 then s else t) W (by decide) (fun j => by split <;> omega) (fun _ => ⟨g, 0, rfl, fun j hj => by
    rw [h.cel, h.cel]
    rcases j with _ | _ | j
    · exact ⟨rfl, rfl⟩
    · exact ⟨rfl, rfl⟩
    · omega⟩)
  simpa [sumI, vI] using c
theorem dMul10 {b : Bool} {s : ByteArray} {g : Nat} {W : World} (hs : s.size ≤ 65536) (h : Bx W g 23 #[.bool b, .string s, .bool (neg 10), .string (mag 10)]) :
    Calls Tryd.prog 12 #[.slice (some ⟨g, 0, none⟩) 2 2] W fun e w' => e = .returned (vI (ival b (sval s) * 10)) ∧ Below W.heap.size W w' := by
  have c := dMul2 hs (by decide) h
  rwa [ival_mk] at c
theorem dAddK {x y : Int} {g : Nat} {W : World} (hx : bsz x ≤ 65536) (hy : bsz y ≤ 65536) (h : Bx W g 23 #[.bool (neg x), .string (mag x), .bool (neg y), .string (mag y)]) :
    Calls Tryd.prog 11 #[.slice (some ⟨g, 0, none⟩) 2 2] W fun e w' => e = .returned (vI (x + y)) ∧ Below W.heap.size W w' := by
  have c := dAdd2 (by rw [mag_size]; exact hx) (by rw [mag_size]; exact hy) h
  rwa [ival_mk, ival_mk] at c
theorem prod_sz {b b' : Bool} {s t : ByteArray} {n : Nat} (hs : s.size ≤ n) (ht : t.size ≤ n) (hn : n ≤ 30000) : bsz (ival b (sval s) * ival b' (sval t)) ≤ 65536 :=
  Nat.le_trans (bsz_mul_le (Nat.le_trans (bsz_ival b s) hs) (Nat.le_trans (bsz_ival b' t) ht)) (by omega)
theorem ten_sz {b : Bool} {s : ByteArray} {n : Nat} (hs : s.size ≤ n) (hn : n ≤ 30000) : bsz (ival b (sval s) * 10) ≤ 65536 :=
  Nat.le_trans (bsz_mul_le (m := 1) (Nat.le_trans (bsz_ival b s) hs) (by decide)) (by omega)
theorem dLen_step {b : Bool} {s : ByteArray} {d n : Nat} (hs : s.size ≤ n) (h : (sgn (ival b (sval s)) != 0) = true) (W : World) (hT : Tab10 W) (hn : n ≤ 60000 := by decide) : Calls Tryd.prog 14 #[.agg #[.bool (neg (10 * ival b (sval s) + sgn (ival b (sval s)) * ((d % 10 : Nat) : Int))), .string (mag (10 * ival b (sval s) + sgn (ival b (sval s)) * ((d % 10 : Nat) : Int)))]] W fun e w' => e = .returned (.int .i64 ((nDigits (sval s) + 1 : Nat) : Int)) ∧ Below W.heap.size W w' := by
  have c := dLen_m (10 * ival b (sval s) + sgn (ival b (sval s)) * ((d % 10 : Nat) : Int)) W (Nat.le_trans (step_sz hs h) (by omega)) hT
  rwa [step_len h] at c
theorem cat_sz {b : Bool} {s : ByteArray} {d : Nat} (hs : s.size ≤ 200) : (ztext (ival b (sval s))).size + (⟨[dch (d % 10)].toArray⟩ : ByteArray).size ≤ 9223372036854775807 := by
  have h := ztext_sz (b := b) hs
  show _ + 1 ≤ _
  omega
/-- A parsed number's size. -/
theorem bsz_itoa (z : Int) : bsz z ≤ (itoa z).length := by
  refine bsz_le ?_
  have h1 := lt_pow_nDigits z.natAbs
  have h2 : nDigits z.natAbs ≤ (itoa z).length := by
    unfold itoa
    split
    · rw [List.length_cons, dec_len]; omega
    · rw [dec_len, show z.toNat = z.natAbs by omega]; exact Nat.le_refl _
  have h3 : 10 ^ nDigits z.natAbs ≤ 256 ^ nDigits z.natAbs := Nat.pow_le_pow_left (by decide) _
  have h4 : 256 ^ nDigits z.natAbs ≤ 256 ^ (itoa z).length := Nat.pow_le_pow_right (by decide) h2
  omega
theorem bsz_parse {l : ByteArray} {n : Nat} (h1 : parseAt l.data.toList = none) (hs : l.size ≤ n) : bsz (parseZ l.data.toList) ≤ n := by
  have h := bsz_itoa (parseZ l.data.toList)
  rw [itoa_parse h1] at h
  have h2 : l.data.toList.length = l.size := by simp
  omega
end Go.Proofs.YtkgogbmeehiloaaDoor

namespace Go.Proofs.YtkgogbmeehiloaaDoor
open Go Go.RowKit Go.Lib


set_option maxRecDepth 100000 in
theorem spoilt_r {s : ByteArray} {i : Nat} (hs : s.size ≤ 65536) (h1 : parseAt s.data.toList = some i) (w : World) : RetAt Tryd.prog w 16 #[.string s, .int .i64 (i : Int)] (.bool true) := 
  ret_sk ttOk mixed (fun a w => Tryd.call16 a w) Tryd.func16 Tryd.ntmps16 Tryd.results16 _ rfl _ [.o 1 1 (.ret (.tup [.agg [.val (.bool false), .val (.string ⟨#[]⟩)], .val (.int .i64 (i : Int)), .val (.int .i64 2)])), .o 2 2 (.set (.bool true)), .g 2 9 true, .g 2 10 true, .o 2 11 (.pk true)] (fun W hW hR => ai (rc W Tryd.call7 fun W => parse_bad s i W hs h1) <| ai (int_eq1 W (.tmp 14) (.tmp 15) 0 0 rfl) <| ai (show ((i : Int) == (i : Int)) = true from beq_self_eq_true _) <| ai (show ((i : Int) == (i : Int)) = true from beq_self_eq_true _) <| ai (show ((i : Int) == (i : Int)) = true from beq_self_eq_true _) <| hR) fun W => by kernel_rfl

theorem spoiltLaw_any (s : ByteArray) (i : Nat) (W : World) (hs : s.size ≤ 65536) (h1 : parseAt s.data.toList = some i) : Calls Tryd.prog 16 #[.string s, .int .i64 (i : Int)] W fun e w' => e = .returned (.bool true) ∧ Below W.heap.size W w' := (spoilt_r hs h1 W).at

set_option maxRecDepth 100000 in
theorem dawake_r  (w : World) (h10 : Tab10 w) : RetAt Tryd.prog w 5 #[] (.bool true) := 
  ret_sk ttOk mixed (fun a w => Tryd.call5 a w) Tryd.func5 Tryd.ntmps5 Tryd.results5 _ rfl _ [.o 1 0 (.ret (.tup [.val (vI ((-12))), .val (.int .i64 0), .val (.int .i64 0)])), .o 2 0 (.ret (.tup [.val (vI ((-1000000000000000000000))), .val (.int .i64 0), .val (.int .i64 0)])), .reg 44 [], .o 3 1 (.ret (.val (.string (ztext (0))))), .o 3 2 (.set (.bool true)), .o 3 5 (.ret (.val (.string (ztext ((-1000000000000000000000)))))), .o 3 6 (.set (.bool true)), .o 3 14 (.ret (.val (vI ((-12))))), .o 3 15 (.set (.bool true)), .o 3 26 (.ret (.val (.bool true))), .o 3 29 (.ret (.val (.bool true))), .o 3 32 (.ret (.val (.bool true))), .o 3 35 (.ret (.val (.bool true))), .o 3 38 (.ret (.val (.bool true))), .o 3 41 (.ret (.val (.bool true)))] (fun W hW hR => (fun (h10 : Tab10 W) => ai (rc W Tryd.call7 fun W => parse_ok ⟨#[45, 49, 50]⟩ (-12) W (by decide) (by kernel_rfl) (by kernel_rfl)) <| ai (rc W Tryd.call7 fun W => parse_ok ⟨#[45, 49, 48, 48, 48, 48, 48, 48, 48, 48, 48, 48, 48, 48, 48, 48, 48, 48, 48, 48, 48, 48, 48]⟩ (-1000000000000000000000) W (by decide) (by kernel_rfl) (by kernel_rfl)) <| ai (rt10 h10 Tryd.call6 fun W h => dPrint_m (0) W ((by decide)) h) <| ai (str_eql1 W (.tmp 18) (.const (.string ⟨#[48]⟩)) (ztext (0)) ⟨#[48]⟩ (ztext_lit (by kernel_rfl) (by kernel_rfl))) <| ai (rt10 h10 Tryd.call6 fun W h => dPrint_m ((-1000000000000000000000)) W ((by decide)) h) <| ai (str_eql1 W (.tmp 22) (.const (.string ⟨#[45, 49, 48, 48, 48, 48, 48, 48, 48, 48, 48, 48, 48, 48, 48, 48, 48, 48, 48, 48, 48, 48, 48]⟩)) (ztext ((-1000000000000000000000))) ⟨#[45, 49, 48, 48, 48, 48, 48, 48, 48, 48, 48, 48, 48, 48, 48, 48, 48, 48, 48, 48, 48, 48, 48]⟩ (ztext_lit (by kernel_rfl) (by kernel_rfl))) <| ai (rc W Tryd.call15 fun W => rWOf_any (-12) W (by decide) (by decide)) <| ai (int_eq1 W (.tmp 30) (.tmp 31) (-12) (-12) rfl) <| ai (rc W Tryd.call16 fun W => spoiltLaw_any ⟨#[]⟩ 0 W (by decide) (by kernel_rfl)) <| ai (rc W Tryd.call16 fun W => spoiltLaw_any ⟨#[45]⟩ 1 W (by decide) (by kernel_rfl)) <| ai (rc W Tryd.call16 fun W => spoiltLaw_any ⟨#[45, 48]⟩ 1 W (by decide) (by kernel_rfl)) <| ai (rc W Tryd.call16 fun W => spoiltLaw_any ⟨#[48, 49]⟩ 1 W (by decide) (by kernel_rfl)) <| ai (rc W Tryd.call16 fun W => spoiltLaw_any ⟨#[49, 97]⟩ 1 W (by decide) (by kernel_rfl)) <| ai (rc W Tryd.call16 fun W => spoiltLaw_any ⟨#[43, 49]⟩ 0 W (by decide) (by kernel_rfl)) <| hR) (h10.later hW)) fun W => by kernel_rfl

theorem dawake_any (W : World) (h : Tab10 W) : Calls Tryd.prog 5 #[] W fun e w' => e = .returned (.bool true) ∧ Below W.heap.size W w' := (dawake_r W h).at

set_option maxRecDepth 100000 in
theorem back_g {b b' : Bool} {s s' l : ByteArray} (h1 : parseAt l.data.toList = none) (w : World) (h10 : Tab10 w) : RetAt Tryd.prog w 3 #[.agg #[.bool b, .string s], .agg #[.bool b', .string s'], .string l] (.bool true) := 
  ret_sk ttOk mixed (fun a w => Tryd.call3 a w) Tryd.func3 Tryd.ntmps3 Tryd.results3 _ rfl _ [.gb 1 5 [.g 1 6 true, .g 1 7 true, .g 1 8 true, .o 1 9 (.pk false), .gb 1 11 [.g 1 12 true, .g 1 13 true, .o 1 14 (.pk false), .both [.o 2 0 (.ret (.val (.bool true)))] [.o 3 1 (.ret (.val (.string (ztext (ival b (sval s)))))), .o 4 1 (.ret (.tup [.val (vI (ival b (sval s))), .val (.int .i64 0), .val (.int .i64 0)])), .reg 23 [], .o 5 2 (.ret (.val (vI (ival b (sval s))))), .o 5 3 (.set (.bool false)), .o 5 15 (.ret (.val (.string (ztext (ival b' (sval s')))))), .o 5 16 (.set (.bool (decide (ival b (sval s) = ival b' (sval s'))))), .o 5 19 (.ret (.val (.int .i64 (sgn (ival b (sval s) - ival b' (sval s')))))), .o 5 20 (.eq (.val (.bool (decide (ival b (sval s) = ival b' (sval s')))))), .o 5 21 (.set (.bool ((decide (ival b (sval s) = ival b' (sval s'))) != (decide (ival b (sval s) = ival b' (sval s')))))), .br false, .o 7 1 (.ret (.tup [.val (vI (parseZ l.data.toList)), .val (.int .i64 0), .val (.int .i64 0)])), .o 8 4 (.ret (.val (.string (ztext (parseZ l.data.toList))))), .o 8 6 (.set (.bool true)), .o 8 9 (.ret (.val (.bool true)))]] [.g 1 12 false, .g 1 13 false, .o 1 14 (.pk true), .o 2 0 (.ret (.val (.bool true)))]] [.g 1 6 false, .g 1 7 false, .g 1 8 false, .o 1 9 (.pk true), .o 2 0 (.ret (.val (.bool true)))]] (fun W hW hR => (fun (h10 : Tab10 W) => ai (fun ha : (decide ((s.size : Int) > 300)) = false => ai ha <| ai ha <| ai ha <| ai ha <| ai (fun hb : (decide ((s'.size : Int) > 300)) = false => ai hb <| ai hb <| ai hb <| ai (fun hc : (decide ((l.size : Int) > 600)) = true => ai (rt10 h10 Tryd.call5 fun W h => dawake_any W h) <| hR) fun hc : (decide ((l.size : Int) > 600)) = false => ai (rt10 h10 Tryd.call6 fun W h => dPrint_any b s W (by have := of_decide_eq_false ha; omega) h) <| ai (rc W Tryd.call7 fun W => parse_text (ival b (sval s)) W (Nat.le_trans (ztext_sz (n := 300) (by have := of_decide_eq_false ha; omega)) (by decide))) <| ai (rc W Tryd.call8 fun W => wForm_any s b W) <| ai (int_ne1 W (.tmp 38) (.tmp 40) (ival b (sval s)) (ival b (sval s)) rfl) <| ai (rt10 h10 Tryd.call6 fun W h => dPrint_any b' s' W (by have := of_decide_eq_false hb; omega) h) <| ai (str_eqz W (.tmp 51) (.tmp 53) (ival b (sval s)) (ival b' (sval s'))) <| ai (rc W Tryd.call9 fun W => wCmp_any s s' b b' W (by have := of_decide_eq_false ha; omega) (by have := of_decide_eq_false hb; omega)) <| ai (show (sgn (ival b (sval s) - ival b' (sval s')) == 0) = decide (ival b (sval s) = ival b' (sval s')) from sgn_dec _ _) <| ai (bool_neq W (.tmp 54) (.tmp 58) (decide (ival b (sval s) = ival b' (sval s'))) (decide (ival b (sval s) = ival b' (sval s')))) <| ai (show ((decide (ival b (sval s) = ival b' (sval s'))) != (decide (ival b (sval s) = ival b' (sval s')))) = false from bne_self_eq_false _) <| ai (rc W Tryd.call7 fun W => parse_ok l (parseZ l.data.toList) W (by have := of_decide_eq_false hc; omega) h1 rfl) <| ai (rt10 h10 Tryd.call6 fun W h => dPrint_m (parseZ l.data.toList) W (Nat.le_trans (bsz_parse (n := 600) h1 (by have := of_decide_eq_false hc; omega)) (by decide)) h) <| ai (str_eql1 W (.tmp 71) (.tmp 72) (ztext (parseZ l.data.toList)) l (ztext_lit h1 rfl)) <| ai (rt10 h10 Tryd.call5 fun W h => dawake_any W h) <| hR) fun hb : (decide ((s'.size : Int) > 300)) = (!false) => ai hb <| ai hb <| ai hb <| ai (rt10 h10 Tryd.call5 fun W h => dawake_any W h) <| hR) fun ha : (decide ((s.size : Int) > 300)) = (!false) => ai ha <| ai ha <| ai ha <| ai ha <| ai (rt10 h10 Tryd.call5 fun W h => dawake_any W h) <| hR) (h10.later hW)) fun W => by kernel_rfl

set_option maxRecDepth 100000 in
theorem back_b {b b' : Bool} {s s' l : ByteArray} {i : Nat} (h1 : parseAt l.data.toList = some i) (w : World) (h10 : Tab10 w) : RetAt Tryd.prog w 3 #[.agg #[.bool b, .string s], .agg #[.bool b', .string s'], .string l] (.bool true) := 
  ret_sk ttOk mixed (fun a w => Tryd.call3 a w) Tryd.func3 Tryd.ntmps3 Tryd.results3 _ rfl _ [.gb 1 5 [.g 1 6 true, .g 1 7 true, .g 1 8 true, .o 1 9 (.pk false), .gb 1 11 [.g 1 12 true, .g 1 13 true, .o 1 14 (.pk false), .both [.o 2 0 (.ret (.val (.bool true)))] [.o 3 1 (.ret (.val (.string (ztext (ival b (sval s)))))), .o 4 1 (.ret (.tup [.val (vI (ival b (sval s))), .val (.int .i64 0), .val (.int .i64 0)])), .reg 23 [], .o 5 2 (.ret (.val (vI (ival b (sval s))))), .o 5 3 (.set (.bool false)), .o 5 15 (.ret (.val (.string (ztext (ival b' (sval s')))))), .o 5 16 (.set (.bool (decide (ival b (sval s) = ival b' (sval s'))))), .o 5 19 (.ret (.val (.int .i64 (sgn (ival b (sval s) - ival b' (sval s')))))), .o 5 20 (.eq (.val (.bool (decide (ival b (sval s) = ival b' (sval s')))))), .o 5 21 (.set (.bool ((decide (ival b (sval s) = ival b' (sval s'))) != (decide (ival b (sval s) = ival b' (sval s')))))), .br false, .o 7 1 (.ret (.tup [.agg [.val (.bool false), .val (.string ⟨#[]⟩)], .val (.int .i64 (i : Int)), .val (.int .i64 2)])), .o 8 9 (.ret (.val (.bool true)))]] [.g 1 12 false, .g 1 13 false, .o 1 14 (.pk true), .o 2 0 (.ret (.val (.bool true)))]] [.g 1 6 false, .g 1 7 false, .g 1 8 false, .o 1 9 (.pk true), .o 2 0 (.ret (.val (.bool true)))]] (fun W hW hR => (fun (h10 : Tab10 W) => ai (fun ha : (decide ((s.size : Int) > 300)) = false => ai ha <| ai ha <| ai ha <| ai ha <| ai (fun hb : (decide ((s'.size : Int) > 300)) = false => ai hb <| ai hb <| ai hb <| ai (fun hc : (decide ((l.size : Int) > 600)) = true => ai (rt10 h10 Tryd.call5 fun W h => dawake_any W h) <| hR) fun hc : (decide ((l.size : Int) > 600)) = false => ai (rt10 h10 Tryd.call6 fun W h => dPrint_any b s W (by have := of_decide_eq_false ha; omega) h) <| ai (rc W Tryd.call7 fun W => parse_text (ival b (sval s)) W (Nat.le_trans (ztext_sz (n := 300) (by have := of_decide_eq_false ha; omega)) (by decide))) <| ai (rc W Tryd.call8 fun W => wForm_any s b W) <| ai (int_ne1 W (.tmp 38) (.tmp 40) (ival b (sval s)) (ival b (sval s)) rfl) <| ai (rt10 h10 Tryd.call6 fun W h => dPrint_any b' s' W (by have := of_decide_eq_false hb; omega) h) <| ai (str_eqz W (.tmp 51) (.tmp 53) (ival b (sval s)) (ival b' (sval s'))) <| ai (rc W Tryd.call9 fun W => wCmp_any s s' b b' W (by have := of_decide_eq_false ha; omega) (by have := of_decide_eq_false hb; omega)) <| ai (show (sgn (ival b (sval s) - ival b' (sval s')) == 0) = decide (ival b (sval s) = ival b' (sval s')) from sgn_dec _ _) <| ai (bool_neq W (.tmp 54) (.tmp 58) (decide (ival b (sval s) = ival b' (sval s'))) (decide (ival b (sval s) = ival b' (sval s')))) <| ai (show ((decide (ival b (sval s) = ival b' (sval s'))) != (decide (ival b (sval s) = ival b' (sval s')))) = false from bne_self_eq_false _) <| ai (rc W Tryd.call7 fun W => parse_bad l i W (by have := of_decide_eq_false hc; omega) h1) <| ai (rt10 h10 Tryd.call5 fun W h => dawake_any W h) <| hR) fun hb : (decide ((s'.size : Int) > 300)) = (!false) => ai hb <| ai hb <| ai hb <| ai (rt10 h10 Tryd.call5 fun W h => dawake_any W h) <| hR) fun ha : (decide ((s.size : Int) > 300)) = (!false) => ai ha <| ai ha <| ai ha <| ai ha <| ai (rt10 h10 Tryd.call5 fun W h => dawake_any W h) <| hR) (h10.later hW)) fun W => by kernel_rfl

set_option maxRecDepth 100000 in
theorem step_r {b b' : Bool} {s s' : ByteArray} {d : Nat} (hd : d < 256) (w : World) (h10 : Tab10 w) : RetAt Tryd.prog w 4 #[.agg #[.bool b, .string s], .agg #[.bool b', .string s'], .int .u8 (d : Int)] (.bool true) := 
  ret_sk ttOk mixed (fun a w => Tryd.call4 a w) Tryd.func4 Tryd.ntmps4 Tryd.results4 _ rfl _ [.gb 1 5 [.g 1 6 true, .g 1 7 true, .g 1 8 true, .o 1 9 (.pk false), .both [.o 2 0 (.ret (.val (.bool true)))] [.o 3 1 (.set (.int .u8 ((d % 10 : Nat) : Int))), .o 3 2 (.eq (.val (.int .i64 ((d % 10 : Nat) : Int)))), .o 4 1 (.ret (.val (.int .i64 (sgn (ival b (sval s)))))), .both [.reg 14 [11, 12], .o 6 1 (.ret (.val (.string (ztext (ival b (sval s)))))), .o 6 3 (.eq (.val (.int .i64 ((48 + d % 10 : Nat) : Int)))), .o 6 4 (.eq (.val (.int .u8 ((dch (d % 10)).toNat : Int)))), .o 6 6 (.byt [dch (d % 10)]), .o 6 7 (.set (.string (ztext (10 * ival b (sval s) + sgn (ival b (sval s)) * ((d % 10 : Nat) : Int))))), .o 6 8 (.ret (.tup [.val (vI (10 * ival b (sval s) + sgn (ival b (sval s)) * ((d % 10 : Nat) : Int))), .val (.int .i64 0), .val (.int .i64 0)])), .reg 24 [], .o 7 5 (.ret (.val (vI (10)))), .o 7 7 (.ret (.val (vI (ival b (sval s) * 10)))), .o 7 10 (.eq (.val (.int .i64 (((d % 10 : Nat) : Int) * sgn (ival b (sval s)))))), .o 7 11 (.ret (.val (vI (((d % 10 : Nat) : Int) * sgn (ival b (sval s)))))), .o 7 13 (.ret (.val (vI (ival b (sval s) * 10 + ((d % 10 : Nat) : Int) * sgn (ival b (sval s)))))), .o 7 14 (.set (.bool false)), .o 7 18 (.ret (.val (.int .i64 ((Lib.nDigits (sval s) + 1 : Nat) : Int)))), .o 7 20 (.ret (.val (.int .i64 (Lib.nDigits (sval s) : Int)))), .o 7 21 (.eq (.val (.int .i64 ((Lib.nDigits (sval s) + 1 : Nat) : Int)))), .br false, .g 9 3 true, .g 9 4 true, .o 9 4 (.ret (.val (.int .i64 (sgn (ival b' (sval s')))))), .g 9 5 true, .o 9 6 (.pk true), .both [.o 10 3 (.ret (.val (vI (ival b (sval s) * ival b' (sval s'))))), .o 10 4 (.ret (.val (.int .i64 (Lib.nDigits (ival b (sval s) * ival b' (sval s')).natAbs : Int)))), .reg 6 [], .o 11 1 (.ret (.val (.int .i64 (Lib.nDigits (sval s) : Int)))), .o 11 3 (.ret (.val (.int .i64 (Lib.nDigits (sval s') : Int)))), .o 11 4 (.eq (.val (.int .i64 ((Lib.nDigits (sval s) + Lib.nDigits (sval s') : Nat) : Int)))), .gb 12 4 [.g 12 5 true, .g 12 6 true, .o 12 6 (.eq (.val (.int .i64 ((Lib.nDigits (sval s) + Lib.nDigits (sval s') - 1 : Nat) : Int)))), .g 12 7 true, .o 12 8 (.pk false), .g 12 10 true, .o 12 10 (.ret (.val (.bool true))), .o 12 11 (.pk true)] [.g 12 5 false, .g 12 6 false, .g 12 7 false, .o 12 8 (.pk true), .o 12 10 (.ret (.val (.bool true)))]] [.o 13 1 (.ret (.val (.int .i64 (Lib.nDigits (0 : Int).natAbs : Int)))), .g 13 4 true, .o 13 4 (.ret (.val (.bool true))), .o 13 5 (.pk true)]] [.g 9 3 false, .g 9 4 false, .g 9 5 false, .o 9 6 (.pk false), .o 13 1 (.ret (.val (.int .i64 (Lib.nDigits (0 : Int).natAbs : Int)))), .g 13 4 true, .o 13 4 (.ret (.val (.bool true))), .o 13 5 (.pk true)]]] [.g 1 6 false, .g 1 7 false, .g 1 8 false, .o 1 9 (.pk true), .o 2 0 (.ret (.val (.bool true)))]] (fun W hW hR => (fun (h10 : Tab10 W) => ai (fun ha : (decide ((s.size : Int) > 200)) = false => ai ha <| ai ha <| ai ha <| ai ha <| ai (fun hb : (decide ((s'.size : Int) > 200)) = true => ai (rt10 h10 Tryd.call5 fun W h => dawake_any W h) <| hR) fun hb : (decide ((s'.size : Int) > 200)) = false => ai (rem10 W (.tmp 25) (.const (.int .u8 10)) d hd) <| ai (show IntKind.i64.wrap ((d % 10 : Nat) : Int) = ((d % 10 : Nat) : Int) from w10) <| ai (rc W Tryd.call10 fun W => wSign_any s b W) <| ai (fun hn : ((sgn (ival b (sval s))) != 0) = true => ai (rt10 h10 Tryd.call6 fun W h => dPrint_any b s W (by have := of_decide_eq_false ha; omega) h) <| ai (show IntKind.i64.wrap (48 + ((d % 10 : Nat) : Int)) = ((48 + d % 10 : Nat) : Int) from w48) <| ai (show IntKind.u8.wrap ((48 + d % 10 : Nat) : Int) = ((dch (d % 10)).toNat : Int) from w48u) <| ai (Eq.refl ((dch (d % 10)).toNat : Int)) <| ai (str_addc W (.tmp 34) (.tmp 39) (ztext (ival b (sval s))) ⟨[dch (d % 10)].toArray⟩ _ (cat_sz (show s.size ≤ 200 by have := of_decide_eq_false ha; omega)) (step_text hn)) <| ai (rc W Tryd.call7 fun W => parse_text (10 * ival b (sval s) + sgn (ival b (sval s)) * ((d % 10 : Nat) : Int)) W (Nat.le_trans (step_tz (show s.size ≤ 200 by have := of_decide_eq_false ha; omega) hn) (by decide))) <| ai (rc W Tryd.call13 fun W => wOf_any 10 W (by decide) (by decide)) <| ai (rg0 W Tryd.call12 fun W g hx => dMul10 (b := b) (s := s) (by have := of_decide_eq_false ha; omega) hx) <| ai (show IntKind.i64.wrap (((d % 10 : Nat) : Int) * sgn (ival b (sval s))) = ((d % 10 : Nat) : Int) * sgn (ival b (sval s)) from wks) <| ai (rc W Tryd.call13 fun W => wOf_any (((d % 10 : Nat) : Int) * sgn (ival b (sval s))) W ks_bd.1 ks_bd.2) <| ai (rg0 W Tryd.call11 fun W g hx => dAddK (ten_sz (b := b) (show s.size ≤ 200 by have := of_decide_eq_false ha; omega) (by decide)) (Nat.le_trans (bsz_small (ks_bd (z := ival b (sval s)) (d := d)).1 (ks_bd (z := ival b (sval s)) (d := d)).2) (by decide)) hx) <| ai (int_ne1 W (.tmp 48) (.tmp 58) (10 * ival b (sval s) + sgn (ival b (sval s)) * ((d % 10 : Nat) : Int)) (ival b (sval s) * 10 + ((d % 10 : Nat) : Int) * sgn (ival b (sval s))) (by rw [Int.mul_comm 10, Int.mul_comm (sgn _)])) <| ai (rt10 h10 Tryd.call14 fun W h => dLen_step (d := d) (show s.size ≤ 200 by have := of_decide_eq_false ha; omega) hn W h) <| ai (rt10 h10 Tryd.call14 fun W h => dLen_any b s W (by have := of_decide_eq_false ha; omega) h) <| ai (show IntKind.i64.wrap ((Lib.nDigits (sval s) : Int) + 1) = ((Lib.nDigits (sval s) + 1 : Nat) : Int) from nd_w (show s.size ≤ 200 by have := of_decide_eq_false ha; omega) (by decide)) <| ai (show (((Lib.nDigits (sval s) + 1 : Nat) : Int) != ((Lib.nDigits (sval s) + 1 : Nat) : Int)) = false from bne_self_eq_false _) <| ai hn <| ai hn <| ai (rc W Tryd.call10 fun W => wSign_any s' b' W) <| ai hn <| ai hn <| ai (fun hm : ((sgn (ival b' (sval s'))) != 0) = true => ai (rg0 W Tryd.call12 fun W g hx => dMul2 (b := b) (b' := b') (s := s) (t := s') (by have := of_decide_eq_false ha; omega) (by have := of_decide_eq_false hb; omega) hx) <| ai (rt10 h10 Tryd.call14 fun W h => dLen_m (ival b (sval s) * ival b' (sval s')) W (prod_sz (n := 200) (show s.size ≤ 200 by have := of_decide_eq_false ha; omega) (show s'.size ≤ 200 by have := of_decide_eq_false hb; omega) (by decide)) h) <| ai (rt10 h10 Tryd.call14 fun W h => dLen_any b s W (by have := of_decide_eq_false ha; omega) h) <| ai (rt10 h10 Tryd.call14 fun W h => dLen_any b' s' W (by have := of_decide_eq_false hb; omega) h) <| ai (show IntKind.i64.wrap ((Lib.nDigits (sval s) : Int) + (Lib.nDigits (sval s') : Int)) = ((Lib.nDigits (sval s) + Lib.nDigits (sval s') : Nat) : Int) from nd_w2 (show s.size ≤ 200 by have := of_decide_eq_false ha; omega) (show s'.size ≤ 200 by have := of_decide_eq_false hb; omega) (by decide)) <| ai (fun hf : ((Lib.nDigits (ival b (sval s) * ival b' (sval s')).natAbs : Int) == ((Lib.nDigits (sval s) + Lib.nDigits (sval s') : Nat) : Int)) = false => ai hf <| ai hf <| ai (show IntKind.i64.wrap (((Lib.nDigits (sval s) + Lib.nDigits (sval s') : Nat) : Int) - 1) = ((Lib.nDigits (sval s) + Lib.nDigits (sval s') - 1 : Nat) : Int) from nd_w3 (show s.size ≤ 200 by have := of_decide_eq_false ha; omega) (show s'.size ≤ 200 by have := of_decide_eq_false hb; omega) (by decide)) <| ai hf <| ai hf <| ai (nd_prod hn hm hf) <| ai (rt10 h10 Tryd.call5 fun W h => dawake_any W h) <| ai (nd_prod hn hm hf) <| hR) fun hf : ((Lib.nDigits (ival b (sval s) * ival b' (sval s')).natAbs : Int) == ((Lib.nDigits (sval s) + Lib.nDigits (sval s') : Nat) : Int)) = (!false) => ai hf <| ai hf <| ai hf <| ai hf <| ai (rt10 h10 Tryd.call5 fun W h => dawake_any W h) <| hR) fun hm : ((sgn (ival b' (sval s'))) != 0) = false => ai (rt10 h10 Tryd.call14 fun W h => dLen_m (0) W (by decide) h) <| ai (show ((Lib.nDigits (0 : Int).natAbs : Int) == 1) = true from by rw [show (0 : Int).natAbs = 0 from rfl, nDigits_small (by decide)]; rfl) <| ai (rt10 h10 Tryd.call5 fun W h => dawake_any W h) <| ai (show ((Lib.nDigits (0 : Int).natAbs : Int) == 1) = true from by rw [show (0 : Int).natAbs = 0 from rfl, nDigits_small (by decide)]; rfl) <| hR) fun hn : ((sgn (ival b (sval s))) != 0) = false => ai hn <| ai hn <| ai hn <| ai hn <| ai (rt10 h10 Tryd.call14 fun W h => dLen_m (0) W (by decide) h) <| ai (show ((Lib.nDigits (0 : Int).natAbs : Int) == 1) = true from by rw [show (0 : Int).natAbs = 0 from rfl, nDigits_small (by decide)]; rfl) <| ai (rt10 h10 Tryd.call5 fun W h => dawake_any W h) <| ai (show ((Lib.nDigits (0 : Int).natAbs : Int) == 1) = true from by rw [show (0 : Int).natAbs = 0 from rfl, nDigits_small (by decide)]; rfl) <| hR) fun ha : (decide ((s.size : Int) > 200)) = (!false) => ai ha <| ai ha <| ai ha <| ai ha <| ai (rt10 h10 Tryd.call5 fun W h => dawake_any W h) <| hR) (h10.later hW)) fun W => by kernel_rfl

theorem u8r {n : Int} (h : (Lit.int .u8 n).wf = true) : 0 ≤ n ∧ n < 256 := by
  simp [Lit.wf, IntKind.min, IntKind.max, IntKind.signed, IntKind.bits] at h
  omega
theorem digitsBack_any (b : Bool) (s : ByteArray) (b' : Bool) (s' l : ByteArray) (W : World) (h : Tab10 W) : Calls Tryd.prog 3 #[.agg #[.bool b, .string s], .agg #[.bool b', .string s'], .string l] W fun e w' => e = .returned (.bool true) ∧ Below W.heap.size W w' := by
  cases h1 : parseAt l.data.toList with
  | some i => exact (back_b h1 W h).at
  | none => exact (back_g h1 W h).at
theorem digitsStep_any (b : Bool) (s : ByteArray) (b' : Bool) (s' : ByteArray) (d : Int) (W : World) (h : Tab10 W) (h0 : 0 ≤ d) (h1 : d < 256) : Calls Tryd.prog 4 #[.agg #[.bool b, .string s], .agg #[.bool b', .string s'], .int .u8 d] W fun e w' => e = .returned (.bool true) ∧ Below W.heap.size W w' := by
  obtain ⟨n, rfl⟩ : ∃ n : Nat, d = n := ⟨d.toNat, by omega⟩
  exact (step_r (by omega) W h).at

end Go.Proofs.YtkgogbmeehiloaaDoor

