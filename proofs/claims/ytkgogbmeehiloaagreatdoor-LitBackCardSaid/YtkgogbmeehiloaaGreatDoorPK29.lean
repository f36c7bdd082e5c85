/- The walks and plain laws beneath the statements. -/
import Derived.Test.YtkgogbmeehiloaaGreatDoorPK24
import Derived.Test.YtkgogbmeehiloaaGreatDoorPK28
import Derived.Test.YtkgogbmeehiloaaGreatDoorPK10
import Derived.Test.YtkgogbmeehiloaaGreatDoorPK14
import Derived.RegionTactic
import Derived.Test.YtkgogbmeehiloaaGreatDoorPK22
namespace Go.Proofs.YtkgogbmeehiloaaGreatDoor
open Go Go.RowKit Go.Lib

/-- A natural number's text. -/
def dtext (v : Nat) : ByteArray := ⟨(decDigits v).toArray⟩
theorem dtext_size (v : Nat) : (dtext v).size = nDigits v := by unfold dtext; rw [ba_size, dec_len]
theorem dFig (s : ByteArray) (W : World) (hs : s.size ≤ 65536) (hT : Tab10 W) : Calls Tryz.prog 41 #[.string s] W fun e w' => e = .returned (.string (dtext (sval s))) ∧ Below W.heap.size W w' := figures_any s W hs hT
theorem fig_sz {s : ByteArray} (hs : s.size ≤ 65536) : (⟨#[45]⟩ : ByteArray).size + (dtext (sval s)).size ≤ 9223372036854775807 := by
  have h := nDigits_256 (sval_lt s)
  rw [dtext_size]
  show 1 + _ ≤ _
  omega
theorem print_n {b : Bool} {s : ByteArray} (h : decide (sgn (ival b (sval s)) < 0) = true) : (⟨#[45]⟩ : ByteArray) ++ dtext (sval s) = ztext (ival b (sval s)) := by
  have h1 := sgn_lt.1 (of_decide_eq_true h)
  unfold ztext itoa dtext
  rw [if_pos h1, ival_natAbs]
  exact ba_append [45] _
theorem print_p {b : Bool} {s : ByteArray} (h : decide (sgn (ival b (sval s)) < 0) = false) : dtext (sval s) = ztext (ival b (sval s)) := by
  have h1 : ¬ ival b (sval s) < 0 := fun h2 => of_decide_eq_false h (sgn_lt.2 h2)
  unfold ztext itoa dtext
  rw [if_neg h1]
  have h2 := ival_natAbs b (sval s)
  rw [show (ival b (sval s)).toNat = sval s by omega]
/-! Parse. -/
def cutB (s : ByteArray) : Bool := hasPrefix s.data.toList [45]
def cutS (s : ByteArray) : ByteArray := ⟨(trimPrefix s.data.toList [45]).toArray⟩
theorem cut_any2 (s : ByteArray) (W : World) : Calls Tryz.prog 33 #[.string s, .string ⟨#[45]⟩] W fun e w' => e = .returned (.tuple #[.string (cutS s), .bool (cutB s)]) ∧ Below W.heap.size W w' :=
  (Tryz.strings_CutPrefix s ⟨#[45]⟩ W).mono fun e w' ⟨h1, h2⟩ => ⟨h1, by rw [h2]; exact Below.refl _ _⟩
theorem cutS_list (s : ByteArray) : (cutS s).data.toList = trimPrefix s.data.toList [45] := by simp [cutS]
theorem cut_yes {s : ByteArray} (h : cutB s = true) : ∃ l, s.data.toList = 45 :: l ∧ (cutS s).data.toList = l := by
  rw [cutS_list]
  unfold cutB at h
  unfold trimPrefix
  rw [if_pos h]
  unfold hasPrefix at h
  cases e : s.data.toList with
  | nil => rw [e] at h; cases h
  | cons c l =>
    rw [e] at h
    have hc : c = 45 := by
      have h2 : (45 == c) = true := by simpa using h
      exact (beq_iff_eq.1 h2).symm
    subst hc
    exact ⟨l, rfl, rfl⟩
theorem cut_no {s : ByteArray} (h : cutB s = false) : cutS s = s ∧ ∀ c l, s.data.toList = c :: l → (c == 45) = false := by
  unfold cutB at h
  refine ⟨?_, fun c l e => ?_⟩
  · unfold cutS trimPrefix
    rw [if_neg (by rw [h]; decide)]
  · unfold hasPrefix at h
    rw [e] at h
    cases e2 : c == 45 with
    | false => rfl
    | true =>
      have : c = 45 := by simpa using e2
      subst this
      simp at h
theorem cut_sz {s : ByteArray} {n : Nat} (hs : s.size ≤ n) : (cutS s).size ≤ n := by
  have h1 : (cutS s).data.toList.length = (cutS s).size := by simp
  have h2 : s.data.toList.length = s.size := by simp
  cases h : cutB s with
  | true =>
    obtain ⟨l, e1, e2⟩ := cut_yes h
    rw [e2] at h1
    rw [e1] at h2
    simp at h2; omega
  | false => rw [(cut_no h).1]; exact hs
/-- What Parse answers. -/
def dpV (l : List UInt8) : Value := match parseAt l with
  | some i => .tuple #[.agg #[.bool false, .string ⟨#[]⟩], .int .i64 i, .int .i64 2]
  | none => .tuple #[.agg #[.bool (neg (parseZ l)), .string (mag (parseZ l))], .int .i64 0, .int .i64 0]
theorem spoI_cases (l : List UInt8) : (∃ i : Nat, spoil l = some i ∧ spoI l = i) ∨ (spoil l = none ∧ spoI l = -1) := by
  unfold spoI
  cases h : spoil l with
  | some i => exact .inl ⟨i, rfl, rfl⟩
  | none => exact .inr ⟨rfl, rfl⟩
theorem spoil_le {l : List UInt8} {i : Nat} (h : spoil l = some i) : i ≤ l.length := by
  unfold spoil at h
  split at h
  · rename_i j hj
    have h1 := List.mem_of_find?_eq_some hj
    have h2 := List.mem_range.1 h1
    injection h with h; omega
  · split at h
    · injection h with h; omega
    · cases h
theorem spoI_le (s : ByteArray) : -1 ≤ spoI s.data.toList ∧ spoI s.data.toList ≤ s.size := by
  rcases spoI_cases s.data.toList with ⟨i, h1, h2⟩ | ⟨_, h2⟩
  · have := spoil_le h1
    have h3 : s.data.toList.length = s.size := by simp
    omega
  · omega
theorem spoI_w {s : ByteArray} (hs : s.size ≤ 65536) : IntKind.i64.wrap (spoI (cutS s).data.toList + 1) = spoI (cutS s).data.toList + 1 := by
  have h := spoI_le (cutS s)
  have h2 := cut_sz hs
  exact IntWalk.i64_in _ (by omega)
theorem cut_pos {s : ByteArray} (h : (spoI (cutS s).data.toList != 0) = true) : 0 < (cutS s).size := by
  rcases Nat.eq_zero_or_pos (cutS s).size with h2 | h2
  · have : (cutS s).data.toList = [] := List.length_eq_zero_iff.1 (by simpa using h2)
    rw [this] at h; exact absurd h (by decide)
  · exact h2
theorem cut_digs {s : ByteArray} (h : decide (spoI (cutS s).data.toList ≥ 0) = false) : digs (cutS s) := by
  have h1 := of_decide_eq_false h
  rcases spoI_cases (cutS s).data.toList with ⟨i, _, h2⟩ | ⟨h2, _⟩
  · omega
  · have hg := spoil_none.1 h2
    intro j hj
    have h3 := isDig_iff.1 (badB_dig (hg.2 j (by simpa using hj)))
    exact h3
theorem head48 {s : ByteArray} (hp : 0 < s.size) : (s.data.toList.head? == some 48) = decide (byt s 0 = 48) := by
  obtain ⟨c, l, e, hc⟩ := list_cons s hp
  rw [e]
  by_cases h : byt s 0 = 48
  · have : c = 48 := UInt8.toNat_inj.1 (by rw [hc, h]; rfl)
    rw [decide_eq_true h, this]; rfl
  · have : ¬ c = 48 := fun e2 => h (by rw [← hc, e2]; rfl)
    rw [decide_eq_false h]
    simpa using this
theorem parse_neg {s : ByteArray} (h : cutB s = true) : parseAt s.data.toList = (match (cutS s).data.toList.head? == some 48 with | true => some 1 | false => (spoil (cutS s).data.toList).map (· + 1)) ∧ parseZ s.data.toList = -(dval (cutS s).data.toList : Int) := by
  obtain ⟨l, e1, e2⟩ := cut_yes h
  rw [e1, e2]
  exact ⟨rfl, rfl⟩
theorem parse_pos {s : ByteArray} (h : cutB s = false) : parseAt s.data.toList = spoil (cutS s).data.toList ∧ parseZ s.data.toList = (dval (cutS s).data.toList : Int) := by
  obtain ⟨e1, e2⟩ := cut_no h
  rw [e1]
  cases e : s.data.toList with
  | nil => exact ⟨rfl, rfl⟩
  | cons c l =>
    simp only [parseAt, parseZ, e2 c l e]
    exact ⟨trivial, trivial⟩
/-- Spoilt at the nought behind the sign. -/
theorem dp_1 {s : ByteArray} (hn : cutB s = true) (h0 : (spoI (cutS s).data.toList != 0) = true) (h48 : ((byt (cutS s) 0 : Int) == 48) = true) : (.tuple #[.agg #[.bool false, .string ⟨#[]⟩], .int .i64 1, .int .i64 2] : Value) = dpV s.data.toList := by
  have h1 := (parse_neg hn).1
  have h2 := bey h48
  rw [head48 (cut_pos h0), decide_eq_true (by omega)] at h1
  unfold dpV; rw [h1]; rfl
theorem dp_2 {s : ByteArray} (hn : cutB s = true) (h0 : ¬ ((spoI (cutS s).data.toList != 0) = true ∧ byt (cutS s) 0 = 48)) (hg : decide (spoI (cutS s).data.toList ≥ 0) = true) : (.tuple #[.agg #[.bool false, .string ⟨#[]⟩], .int .i64 (spoI (cutS s).data.toList + 1), .int .i64 2] : Value) = dpV s.data.toList := by
  have h1 := (parse_neg hn).1
  have h2 := of_decide_eq_true hg
  rcases spoI_cases (cutS s).data.toList with ⟨i, h3, h4⟩ | ⟨_, h4⟩
  · have hh : ((cutS s).data.toList.head? == some 48) = false := by
      by_cases hp : 0 < (cutS s).size
      · rw [head48 hp]
        by_cases e : byt (cutS s) 0 = 48
        · have hz : ¬ (spoI (cutS s).data.toList != 0) = true := fun h => h0 ⟨h, e⟩
          have hz2 : spoI (cutS s).data.toList = 0 := by simpa using hz
          have hi : i = 0 := by omega
          subst hi
          exfalso
          unfold spoil at h3
          split at h3
          · rename_i j hj
            obtain rfl : j = 0 := by injection h3
            have hb := List.find?_some hj
            have hb2 : badB (cutS s).data.toList 0 = false := by
              have h5 := badB_ok (s := cutS s) (p := 0) (by omega) (by omega)
              rw [h5]; rfl
            rw [hb2] at hb; cases hb
          · split at h3
            · rename_i hnil
              have h6 : (cutS s).data.toList.length = 0 := by rw [hnil]; rfl
              have h7 : (cutS s).data.toList.length = (cutS s).size := by simp
              omega
            · cases h3
        · exact decide_eq_false e
      · have h7 : (cutS s).data.toList.length = (cutS s).size := by simp
        have : (cutS s).data.toList = [] := List.length_eq_zero_iff.1 (by omega)
        rw [this]; rfl
    rw [hh, h3] at h1
    unfold dpV; rw [h1, h4]
    rfl
  · omega
theorem dp_3 {s : ByteArray} (hn : cutB s = false) (hg : decide (spoI (cutS s).data.toList ≥ 0) = true) : (.tuple #[.agg #[.bool false, .string ⟨#[]⟩], .int .i64 (spoI (cutS s).data.toList), .int .i64 2] : Value) = dpV s.data.toList := by
  have h1 := (parse_pos hn).1
  have h2 := of_decide_eq_true hg
  rcases spoI_cases (cutS s).data.toList with ⟨i, h3, h4⟩ | ⟨_, h4⟩
  · rw [h3] at h1
    unfold dpV; rw [h1, h4]
  · omega
theorem dp_4 {s : ByteArray} (hn : cutB s = true) (h0 : ¬ ((spoI (cutS s).data.toList != 0) = true ∧ byt (cutS s) 0 = 48)) (hg : decide (spoI (cutS s).data.toList ≥ 0) = false) : (.tuple #[.agg #[.bool (neg (ival true (dval (cutS s).data.toList))), .string (mag (ival true (dval (cutS s).data.toList)))], .int .i64 0, .int .i64 0] : Value) = dpV s.data.toList := by
  obtain ⟨h1, h5⟩ := parse_neg hn
  have h2 := of_decide_eq_false hg
  rcases spoI_cases (cutS s).data.toList with ⟨i, h3, h4⟩ | ⟨h3, h4⟩
  · omega
  · have hne : (spoI (cutS s).data.toList != 0) = true := by rw [h4]; rfl
    have hh : ((cutS s).data.toList.head? == some 48) = false := by
      rw [head48 (cut_pos hne)]
      exact decide_eq_false fun e => h0 ⟨hne, e⟩
    rw [hh, h3] at h1
    unfold dpV; rw [h1, h5]; rfl
theorem dp_5 {s : ByteArray} (hn : cutB s = false) (hg : decide (spoI (cutS s).data.toList ≥ 0) = false) : (.tuple #[.agg #[.bool (neg (ival false (dval (cutS s).data.toList))), .string (mag (ival false (dval (cutS s).data.toList)))], .int .i64 0, .int .i64 0] : Value) = dpV s.data.toList := by
  obtain ⟨h1, h5⟩ := parse_pos hn
  have h2 := of_decide_eq_false hg
  rcases spoI_cases (cutS s).data.toList with ⟨i, h3, h4⟩ | ⟨h3, h4⟩
  · omega
  · rw [h3] at h1
    unfold dpV; rw [h1, h5]; rfl
theorem wFormV (b : Bool) (v : Nat) (W : World) : Calls Tryz.prog 35 #[.agg #[.bool b, .string (nstr v)]] W fun e w' => e = .returned (.agg #[.bool (neg (ival b v)), .string (mag (ival b v))]) ∧ Below W.heap.size W w' := by
  have c := wForm_any (nstr v) b W
  rwa [sval_nstr] at c
set_option maxRecDepth 100000 in
theorem int_eq (W : World) (p q : Operand) (x y : Int) : RunOk Tryz.prog W (do eqGuard .eql 24 p q (vI x) (vI y); binOp .eql 24 (vI x) (vI y)) (.bool (decide (x = y))) := fun W' _ => by
  have h : (neg x = neg y ∧ (mag x).toList = (mag y).toList) ↔ x = y := by
    rw [ByteArray.toList_eq, ByteArray.toList_eq]
    exact ⟨fun h => mk_inj h.1 (ByteArray.ext (by simpa using h.2)), fun h => by rw [h]; exact ⟨rfl, rfl⟩⟩
  unfold vI
  simp [go_sem]
  by_cases e : x = y
  · subst e; simp
  · have h2 := mt h.1 e
    by_cases h3 : neg x = neg y <;> by_cases h4 : (mag x).toList = (mag y).toList <;> simp_all
end Go.Proofs.YtkgogbmeehiloaaGreatDoor

namespace Go.Proofs.YtkgogbmeehiloaaGreatDoor
open Go Go.RowKit


set_option maxRecDepth 100000 in
theorem print_r {b : Bool} {s : ByteArray} (hs : s.size ≤ 65536) (w : World) (h10 : Tab10 w) : RetAt Tryz.prog w 11 #[.agg #[.bool b, .string s]] (.string (ztext (ival b (sval s)))) := 
  ret_sk ttOk mixed (fun a w => Tryz.call11 a w) Tryz.func11 Tryz.ntmps11 Tryz.results11 _ rfl _ [.o 1 2 (.ret (.val (.string (dtext (sval s))))), .o 2 1 (.ret (.val (.int .i64 (sgn (ival b (sval s)))))), .both [.o 3 1 (.set (.string (⟨#[45]⟩ ++ (dtext (sval s)))))] []] (fun W hW hR => (fun (h10 : Tab10 W) => ai (rt10 h10 Tryz.call41 fun W h => dFig s W hs h) <| ai (rc W Tryz.call42 fun W => wSign_any s b W) <| ai (fun hn : (decide ((sgn (ival b (sval s))) < 0)) = true => ai (str_add W (.const (.string ⟨#[45]⟩)) (.tmp 10) ⟨#[45]⟩ (dtext (sval s)) (fig_sz hs)) <| (show (.string (⟨#[45]⟩ ++ (dtext (sval s))) : Value) = .string (ztext (ival b (sval s))) from congrArg Value.string (print_n hn))) fun hn : (decide ((sgn (ival b (sval s))) < 0)) = false => (show (.string (dtext (sval s)) : Value) = .string (ztext (ival b (sval s))) from congrArg Value.string (print_p hn))) (h10.later hW)) fun W => by kernel_rfl

set_option maxRecDepth 100000 in
theorem parse_r {s : ByteArray} (hs : s.size ≤ 65536) (w : World) : RetAt Tryz.prog w 9 #[.string s] (dpV s.data.toList) := 
  ret_sk ttOk mixed (fun a w => Tryz.call9 a w) Tryz.func9 Tryz.ntmps9 Tryz.results9 _ rfl _ [.o 1 1 (.ret (.tup [.val (.string (cutS s)), .val (.bool (cutB s))])), .o 2 1 (.ret (.val (.int .i64 (spoI (cutS s).data.toList)))), .gb 3 2 [.g 3 3 true, .o 3 4 (.pk true), .gb 3 6 [.g 3 7 true, .o 3 7 (.set (.int .u8 (byt (cutS s) 0 : Int))), .g 3 8 true, .o 3 9 (.pk true), .both [.br true, .o 6 2 (.eq (.val (.int .i64 1)))] [.gb 5 3 [.o 5 4 (.pk true), .br true, .o 6 2 (.eq (.val (.int .i64 (spoI (cutS s).data.toList + 1))))] [.o 5 4 (.pk false), .br false, .br false, .o 9 2 (.ret (.val (.string (nstr (dval (cutS s).data.toList))))), .o 9 4 (.ret (.val (vI (ival (cutB s) (dval (cutS s).data.toList)))))]]] [.g 3 7 false, .g 3 8 false, .o 3 9 (.pk false), .g 5 3 true, .o 5 4 (.pk true), .br true, .o 6 2 (.eq (.val (.int .i64 (spoI (cutS s).data.toList + 1))))]] [.g 3 3 false, .o 3 4 (.pk false), .gb 5 3 [.o 5 4 (.pk true), .br false, .br true] [.o 5 4 (.pk false), .br false, .br false, .o 9 2 (.ret (.val (.string (nstr (dval (cutS s).data.toList))))), .o 9 4 (.ret (.val (vI (ival (cutB s) (dval (cutS s).data.toList)))))]]] (fun W hW hR => ai (rc W Tryz.call33 fun W => cut_any2 s W) <| ai (rc W Tryz.call34 fun W => spoilt_any (cutS s) W (by have := cut_sz hs; omega)) <| ai (fun hn : (cutB s) = true => ai hn <| ai hn <| ai (fun h0 : ((spoI (cutS s).data.toList) != 0) = true => ai h0 <| ai (str_idx W (cutS s) 0 (cut_pos h0)) <| ai h0 <| ai h0 <| ai (fun h48 : ((byt (cutS s) 0 : Int) == 48) = true => ai hn <| ai (show IntKind.i64.wrap (0 + 1) = 1 from by decide) <| (show (.tuple #[.agg #[.bool false, .string ⟨#[]⟩], .int .i64 1, .int .i64 2] : Value) = dpV s.data.toList from dp_1 hn h0 h48)) fun h48 : ((byt (cutS s) 0 : Int) == 48) = false => ai (fun hg : (decide ((spoI (cutS s).data.toList) ≥ 0)) = true => ai hg <| ai hn <| ai (spoI_w hs) <| (show (.tuple #[.agg #[.bool false, .string ⟨#[]⟩], .int .i64 (spoI (cutS s).data.toList + 1), .int .i64 2] : Value) = dpV s.data.toList from dp_2 hn (fun h => ben h48 (by omega)) hg)) fun hg : (decide ((spoI (cutS s).data.toList) ≥ 0)) = (!true) => ai hg <| ai (rfl : false = false) <| ai hg <| ai (rc W Tryz.call36 fun W => value_any (cutS s) W (cut_sz hs) (cut_digs hg)) <| ai (rc W Tryz.call35 fun W => wFormV (cutB s) (dval (cutS s).data.toList) W) <| (show (.tuple #[vI (ival (cutB s) (dval (cutS s).data.toList)), .int .i64 0, .int .i64 0] : Value) = dpV s.data.toList from by rw [hn]; exact dp_4 hn (fun h => ben h48 (by omega)) hg)) fun h0 : ((spoI (cutS s).data.toList) != 0) = (!true) => ai h0 <| ai h0 <| ai h0 <| ai (show decide ((spoI (cutS s).data.toList) ≥ 0) = true from decide_eq_true (by have := h0; simp at this; omega)) <| ai (show decide ((spoI (cutS s).data.toList) ≥ 0) = true from decide_eq_true (by have := h0; simp at this; omega)) <| ai hn <| ai (spoI_w hs) <| (show (.tuple #[.agg #[.bool false, .string ⟨#[]⟩], .int .i64 (spoI (cutS s).data.toList + 1), .int .i64 2] : Value) = dpV s.data.toList from dp_2 hn (fun h => absurd h.1 (by rw [h0]; decide)) (decide_eq_true (by have := h0; simp at this; omega)))) fun hn : (cutB s) = (!true) => ai hn <| ai hn <| ai (fun hg : (decide ((spoI (cutS s).data.toList) ≥ 0)) = true => ai hg <| ai hn <| ai hg <| (show (.tuple #[.agg #[.bool false, .string ⟨#[]⟩], .int .i64 (spoI (cutS s).data.toList), .int .i64 2] : Value) = dpV s.data.toList from dp_3 hn hg)) fun hg : (decide ((spoI (cutS s).data.toList) ≥ 0)) = (!true) => ai hg <| ai (rfl : false = false) <| ai hg <| ai (rc W Tryz.call36 fun W => value_any (cutS s) W (cut_sz hs) (cut_digs hg)) <| ai (rc W Tryz.call35 fun W => wFormV (cutB s) (dval (cutS s).data.toList) W) <| (show (.tuple #[vI (ival (cutB s) (dval (cutS s).data.toList)), .int .i64 0, .int .i64 0] : Value) = dpV s.data.toList from by rw [hn]; exact dp_5 hn hg)) fun W => by kernel_rfl

end Go.Proofs.YtkgogbmeehiloaaGreatDoor

namespace Go.Proofs.YtkgogbmeehiloaaGreatDoor
open Go Go.RowKit Go.Lib

theorem dPrint_any (b : Bool) (s : ByteArray) (W : World) (hs : s.size ≤ 65536) (h : Tab10 W) : Calls Tryz.prog 11 #[.agg #[.bool b, .string s]] W fun e w' => e = .returned (.string (ztext (ival b (sval s)))) ∧ Below W.heap.size W w' := (print_r hs W h).at
theorem dPrint_m (z : Int) (W : World) (hs : bsz z ≤ 65536) (h : Tab10 W) : Calls Tryz.prog 11 #[.agg #[.bool (neg z), .string (mag z)]] W fun e w' => e = .returned (.string (ztext z)) ∧ Below W.heap.size W w' := by
  have c := dPrint_any (neg z) (mag z) W (by rw [mag_size]; exact hs) h
  rwa [ival_mk] at c
theorem ztext_size (z : Int) : (ztext z).size ≤ nDigits z.natAbs + 1 := by
  have h : (ztext z).size = (itoa z).length := by unfold ztext; rw [ba_size]
  rw [h]
  unfold itoa
  split
  · rw [List.length_cons, dec_len]; exact Nat.le_refl _
  · rw [dec_len, show z.toNat = z.natAbs by omega]; omega
theorem str_addc (W : World) (x y : Operand) (a b c : ByteArray) (hs : a.size + b.size ≤ 9223372036854775807) (h : a ++ b = c) : RunOk Tryz.prog W (do eqGuard .add 9 x y (.string a) (.string b); binOp .add 9 (.string a) (.string b)) (.string c) := h ▸ str_add W x y a b hs
theorem w10 {d : Nat} : IntKind.i64.wrap ((d % 10 : Nat) : Int) = ((d % 10 : Nat) : Int) := IntWalk.i64_in _ (by omega)
/-- A parsed number's size. -/
theorem bsz_itoa (z : Int) : bsz z ≤ (itoa z).length := by
  refine bsz_le ?_
  have h1 := lt_pow_nDigits z.natAbs
  have h2 : nDigits z.natAbs ≤ (itoa z).length := by
    unfold itoa
    split
    · rw [List.length_cons, dec_len]; omega
    · rw [dec_len, show z.toNat = z.natAbs by omega]; exact Nat.le_refl _
  have h3 : 10 ^ nDigits z.natAbs ≤ 256 ^ nDigits z.natAbs := Nat.pow_le_pow_left (by decide) _
  have h4 : 256 ^ nDigits z.natAbs ≤ 256 ^ (itoa z).length := Nat.pow_le_pow_right (by decide) h2
  omega
end Go.Proofs.YtkgogbmeehiloaaGreatDoor

namespace Go.Proofs.YtkgogbmeehiloaaGreatDoor
open Go Go.RowKit Go.Lib

theorem dm_le (m e : Int) : (dm (dy m e)).natAbs ≤ m.natAbs := by
  by_cases h : m = 0
  · subst h
    rw [dy_zero]; exact Nat.le_refl _
  · rw [(dm_dy e h).1]
    exact Int.natAbs_ediv_le_natAbs _ _
theorem de_bd {m e : Int} {n : Nat} (h : m.natAbs < 256 ^ n) : (dy m e = 0 ∧ de (dy m e) = 0) ∨ (e ≤ de (dy m e) ∧ de (dy m e) ≤ e + 8 * n) := by
  by_cases h0 : m = 0
  · subst h0
    rw [dy_zero]; exact .inl ⟨rfl, rfl⟩
  · right
    rw [(dm_dy e h0).2]
    obtain ⟨k, hk⟩ := tz_spec (v := m.natAbs) (by omega)
    have h1 : 2 ^ tz m.natAbs ≤ m.natAbs := by
      have h2 : 2 ^ tz m.natAbs * 1 ≤ 2 ^ tz m.natAbs * (2 * k + 1) := Nat.mul_le_mul_left _ (by omega)
      omega
    have h3 : (256 : Nat) ^ n = 2 ^ (8 * n) := by rw [show (256 : Nat) = 2 ^ 8 from rfl, ← Nat.pow_mul]
    have h4 : tz m.natAbs < 8 * n := (Nat.pow_lt_pow_iff_right (a := 2) (by decide)).1 (by omega)
    omega
/-- A number's text. -/
def ntL (x : Dyadic) : List UInt8 := if de x = 0 then itoa (dm x) else itoa (dm x) ++ 112 :: itoa (de x)
def ntext (x : Dyadic) : ByteArray := ⟨(ntL x).toArray⟩
theorem ntext_z {x : Dyadic} (h : (de x == 0) = true) : ztext (dm x) = ntext x := by
  unfold ntext ntL ztext; rw [if_pos (bey h)]
theorem ntext_p {x : Dyadic} (h : (de x == 0) = false) : (ztext (dm x) ++ (⟨#[112]⟩ : ByteArray)) ++ ztext (de x) = ntext x := by
  unfold ntext ntL ztext; rw [if_neg (ben h), show (⟨#[112]⟩ : ByteArray) = ⟨[112].toArray⟩ from rfl, ba_append, ba_append, List.append_assoc]; rfl
/-! What Parse says. -/
def sepB (c : UInt8) : Bool := c == 112 || c == 47
def sgK (l : List UInt8) : Nat := l.findIdx sepB
def sgC (l : List UInt8) : Int := if sgK l = l.length then 0 else ((l.getD (sgK l) 0).toNat : Int)
theorem sgK_le (l : List UInt8) : sgK l ≤ l.length := List.findIdx_le_length
theorem sgK_of {l : List UInt8} {k : Nat} (hk : k < l.length) (h1 : ∀ j, j < k → sepB (l.getD j 0) = false) (h2 : sepB (l.getD k 0) = true) : sgK l = k := by
  have e : ∀ j (hj : j < l.length), l.getD j 0 = l[j] := fun j hj => by rw [List.getD, List.getElem?_eq_getElem hj]; rfl
  unfold sgK
  rw [List.findIdx_eq hk]
  refine ⟨by rw [← e k hk]; exact h2, fun j hj => by rw [← e j (by omega)]; exact h1 j hj⟩
theorem sgK_none {l : List UInt8} (h1 : ∀ j, j < l.length → sepB (l.getD j 0) = false) : sgK l = l.length := by
  unfold sgK
  rw [List.findIdx_eq_length]
  intro c hc
  obtain ⟨j, hj, rfl⟩ := List.mem_iff_getElem.1 hc
  have := h1 j hj
  rwa [List.getD, List.getElem?_eq_getElem hj] at this
theorem sgC_lt {l : List UInt8} (h : sgK l < l.length) : sgC l = ((l.getD (sgK l) 0).toNat : Int) ∧ (sgC l = 112 ∨ sgC l = 47) := by
  have h1 : sgC l = ((l.getD (sgK l) 0).toNat : Int) := by unfold sgC; rw [if_neg (by omega)]
  refine ⟨h1, ?_⟩
  have h2 : sepB (l.getD (sgK l) 0) = true := by
    rw [List.getD, List.getElem?_eq_getElem h]
    exact List.findIdx_getElem (w := h)
  rw [h1]
  unfold sepB at h2
  rw [Bool.or_eq_true] at h2
  rcases h2 with h2 | h2
  · left; rw [beq_iff_eq.1 h2]; rfl
  · right; rw [beq_iff_eq.1 h2]; rfl
/-- The parts of what digits.Parse says. -/
def pz (l : List UInt8) : Int := match parseAt l with | none => parseZ l | some _ => 0
def pI (l : List UInt8) : Int := match parseAt l with | none => 0 | some i => i
def pE (l : List UInt8) : Int := match parseAt l with | none => 0 | some _ => 2
theorem dpV_parts (l : List UInt8) : dpV l = .tuple #[vI (pz l), .int .i64 (pI l), .int .i64 (pE l)] := by
  unfold dpV pz pI pE
  cases parseAt l <;> rfl
theorem pE_ne {l : List UInt8} (h : (pE l != 0) = true) : pE l = 2 ∧ ∃ i, parseAt l = some i ∧ pI l = i := by
  unfold pE pI at *
  cases e : parseAt l with
  | none => rw [e] at h; exact absurd h (by decide)
  | some i => exact ⟨rfl, i, rfl, rfl⟩
theorem pE_eq {l : List UInt8} (h : (pE l != 0) = false) : parseAt l = none ∧ pz l = parseZ l := by
  unfold pE pz at *
  cases e : parseAt l with
  | none => exact ⟨rfl, rfl⟩
  | some i => rw [e] at h; exact absurd h (by show ¬ ((2 : Int) != 0) = false; decide)
theorem parseAt_le {l : List UInt8} {i : Nat} (h : parseAt l = some i) : i ≤ l.length + 1 := by
  cases l with
  | nil => injection h with h; omega
  | cons c l =>
    simp only [parseAt] at h
    split at h
    · split at h
      · injection h with h; simp; omega
      · cases e : spoil l with
        | none => rw [e] at h; cases h
        | some j => rw [e] at h; have := spoil_le e; simp at h; simp; omega
    · have := spoil_le h; simp at this; simp; omega
theorem pI_bd (l : List UInt8) : 0 ≤ pI l ∧ pI l ≤ l.length + 1 := by
  unfold pI
  cases e : parseAt l with
  | none => show (0 : Int) ≤ 0 ∧ (0 : Int) ≤ l.length + 1; omega
  | some i => have := parseAt_le e; show (0 : Int) ≤ i ∧ (i : Int) ≤ l.length + 1; omega
/-- An int64's parts. -/
def smN (z : Int) : Int := if -9223372036854775808 ≤ z ∧ z ≤ 9223372036854775807 then z else 0
def smB (z : Int) : Bool := decide (-9223372036854775808 ≤ z ∧ z ≤ 9223372036854775807)
theorem smallV_parts (z : Int) : smallV z = .tuple #[.int .i64 (smN z), .bool (smB z)] := by
  unfold smallV smN smB
  split
  · rename_i h; rw [decide_eq_true h]
  · rename_i h; rw [decide_eq_false h]
/-- Which number, where it is spoilt, and why. -/
def litV (l : List UInt8) : Dyadic × Int × Int :=
  match parseAt (l.take (sgK l)) with
  | some i => (0, (i : Int), 2)
  | none => if sgC l = 0 then (dy (parseZ (l.take (sgK l))) 0, 0, 0) else
    match parseAt (l.drop (sgK l + 1)) with
    | some i => (0, (sgK l : Int) + 1 + i, 2)
    | none => if sgC l = 47 then (if dm (dy (parseZ (l.drop (sgK l + 1))) 0) = 1 then (dy (parseZ (l.take (sgK l))) (-de (dy (parseZ (l.drop (sgK l + 1))) 0)), 0, 0) else (0, 0, 1))
      else if -32768 ≤ parseZ (l.drop (sgK l + 1)) ∧ parseZ (l.drop (sgK l + 1)) ≤ 32768 then (dy (parseZ (l.take (sgK l))) (parseZ (l.drop (sgK l + 1))), 0, 0) else (0, 0, 3)
def litW (l : List UInt8) : Value := .tuple #[vN (litV l).1, .int .i64 (litV l).2.1, .int .i64 (litV l).2.2]
theorem itoa_nosep (z : Int) : ∀ c, c ∈ itoa z → sepB c = false := by
  intro c hc
  have key : ∀ c : UInt8, isDig c = true → sepB c = false := fun c h => by
    obtain ⟨h1, h2⟩ := isDig_iff.1 h
    unfold sepB
    have e1 : (c == 112) = false := by
      cases e : c == 112 with
      | false => rfl
      | true => rw [beq_iff_eq.1 e] at h2; exact absurd h2 (by decide)
    have e2 : (c == 47) = false := by
      cases e : c == 47 with
      | false => rfl
      | true => rw [beq_iff_eq.1 e] at h1; exact absurd h1 (by decide)
    rw [e1, e2]; rfl
  unfold itoa at hc
  split at hc
  · rcases List.mem_cons.1 hc with rfl | hc
    · rfl
    · exact key c (dec_dig _ c hc)
  · exact key c (dec_dig _ c hc)
theorem sg_app {m : List UInt8} (hm : ∀ c, c ∈ m → sepB c = false) (c : UInt8) (hc : sepB c = true) (r : List UInt8) : sgK (m ++ c :: r) = m.length ∧ sgC (m ++ c :: r) = (c.toNat : Int) := by
  have h1 : sgK (m ++ c :: r) = m.length := by
    refine sgK_of (by simp) (fun j hj => ?_) ?_
    · rw [getD_append_l hj]
      refine hm _ ?_
      rw [List.getD, List.getElem?_eq_getElem hj]; exact List.getElem_mem hj
    · rw [List.getD, List.getElem?_append_right (Nat.le_refl _)]; simpa using hc
  refine ⟨h1, ?_⟩
  unfold sgC
  rw [h1, if_neg (by simp), List.getD, List.getElem?_append_right (Nat.le_refl _)]
  simp
theorem sg_no {m : List UInt8} (hm : ∀ c, c ∈ m → sepB c = false) : sgK m = m.length ∧ sgC m = 0 := by
  have h1 : sgK m = m.length := sgK_none fun j hj => hm _ (by rw [List.getD, List.getElem?_eq_getElem hj]; exact List.getElem_mem hj)
  exact ⟨h1, by unfold sgC; rw [if_pos h1]⟩
theorem lit_z (z : Int) : litV (itoa z) = (dy z 0, 0, 0) := by
  obtain ⟨h1, h2⟩ := sg_no (itoa_nosep z)
  obtain ⟨h3, h4⟩ := parse_itoa z
  unfold litV
  rw [h1, List.take_length, h3, h2, h4]; rfl
theorem lit_p (m k : Int) (hk : -32768 ≤ k ∧ k ≤ 32768) : litV (itoa m ++ 112 :: itoa k) = (dy m k, 0, 0) := by
  obtain ⟨h1, h2⟩ := sg_app (itoa_nosep m) 112 rfl (itoa k)
  obtain ⟨h3, h4⟩ := parse_itoa m
  obtain ⟨h5, h6⟩ := parse_itoa k
  unfold litV
  rw [h1, List.take_left, h3, h2, h4, show (itoa m ++ 112 :: itoa k).drop ((itoa m).length + 1) = itoa k by rw [← List.drop_drop]; simp, h5, h6]
  simp [hk]
/-- A number's own text is parsed as it. -/
theorem lit_own (x : Dyadic) (h : -32768 ≤ de x ∧ de x ≤ 32768) : litV (ntL x) = (x, 0, 0) := by
  unfold ntL
  split
  · rename_i h0
    rw [lit_z, ← h0, dy_dm]
  · rw [lit_p _ _ h, dy_dm]
end Go.Proofs.YtkgogbmeehiloaaGreatDoor

namespace Go.Proofs.YtkgogbmeehiloaaGreatDoor
open Go Go.RowKit Go.Lib

theorem decode_key (s : ByteArray) (p : Nat) (hn : ¬ (s.get! (p + 0)).toNat < 128) : (Utf8.decode s p).2 ≤ 4 ∧ (2 ≤ (Utf8.decode s p).2 → (decide (p + 1 < s.size) && ((s.get! (p + 1)).toNat / 64 == 2)) = true) ∧ (3 ≤ (Utf8.decode s p).2 → (decide (p + 2 < s.size) && ((s.get! (p + 2)).toNat / 64 == 2)) = true) ∧ (4 ≤ (Utf8.decode s p).2 → (decide (p + 3 < s.size) && ((s.get! (p + 3)).toNat / 64 == 2)) = true) := by
  simp only [Utf8.decode, hn, if_false]
  generalize (decide (p + 1 < s.size) && ((s.get! (p + 1)).toNat / 64 == 2)) = c1
  generalize (decide (p + 2 < s.size) && ((s.get! (p + 2)).toNat / 64 == 2)) = c2
  generalize (decide (p + 3 < s.size) && ((s.get! (p + 3)).toNat / 64 == 2)) = c3
  repeat' split
  all_goals simp_all
/-- A rune's bytes are above ASCII, if its first one is. -/
theorem decode_cont (s : ByteArray) (p : Nat) (h : p < s.size) (ha : 128 ≤ byt s p) : ∀ j, j < (Utf8.decode s p).2 → p + j < s.size ∧ 128 ≤ byt s (p + j) := by
  have hg : ∀ k, p + k < s.size → (s.get! (p + k)).toNat = byt s (p + k) := fun k hk => by
    rw [← byt_get s (p + k) hk]
    have e : s.get! (p + k) = s[p + k]'hk := by simp [ByteArray.get!, getElem!_pos, hk]; rfl
    rw [e]
  have h0 : (s.get! (p + 0)).toNat = byt s p := hg 0 h
  have hn : ¬ byt s p < 128 := by omega
  have hc : ∀ k, (decide (p + k < s.size) && ((s.get! (p + k)).toNat / 64 == 2)) = true → p + k < s.size ∧ 128 ≤ byt s (p + k) := fun k hk => by
    obtain ⟨h1, h2⟩ := Bool.and_eq_true_iff.1 hk
    have h3 := of_decide_eq_true h1
    have h4 : (s.get! (p + k)).toNat / 64 = 2 := by simpa using h2
    rw [hg k h3] at h4
    exact ⟨h3, by omega⟩
  have key := decode_key s p (by rw [h0]; exact hn)
  obtain ⟨k4, k1, k2, k3⟩ := key
  intro j hj
  rcases j with _ | _ | _ | _ | j
  · exact ⟨h, ha⟩
  · exact hc 1 (k1 (by omega))
  · exact hc 2 (k2 (by omega))
  · exact hc 3 (k3 (by omega))
  · omega
theorem sep_hi {s : ByteArray} {j : Nat} (h : 128 ≤ byt s j) : sepB (s.data.toList.getD j 0) = false := by
  unfold sepB
  have e : ∀ d : UInt8, d.toNat < 128 → (s.data.toList.getD j 0 == d) = false := fun d hd => by
    cases e : s.data.toList.getD j 0 == d with
    | false => rfl
    | true =>
      have h2 : byt s j = d.toNat := congrArg UInt8.toNat (beq_iff_eq.1 e)
      omega
  rw [e 112 (by decide), e 47 (by decide)]; rfl
theorem sep_eq {s : ByteArray} {j : Nat} : sepB (s.data.toList.getD j 0) = (decide (byt s j = 112) || decide (byt s j = 47)) := by
  unfold sepB byt
  have e : ∀ (c d : UInt8), (c == d) = decide (c.toNat = d.toNat) := fun c d => by
    by_cases h : c = d
    · subst h; simp
    · have h2 : ¬ c.toNat = d.toNat := fun e => h (UInt8.toNat_inj.1 e)
      rw [decide_eq_false h2]; simpa using h
  rw [e, e]; rfl

set_option maxRecDepth 100000 in
set_option maxHeartbeats 1000000 in
theorem sign_any (s : ByteArray) (w : World) (hs : s.size ≤ 1099511627776) :
    Calls Tryz.prog 51 #[.string s] w fun e w' => e = .returned (.tuple #[.int .i32 (sgC s.data.toList), .int .i64 (sgK s.data.toList : Nat)]) ∧ Below w.heap.size w w' := by
  have HL := Lib.hid (show s.data.toList.length = s.size by simp)
  go_enter Tryz.func51, Tryz.ntmps51
  go_wp2
  go_loopw [2] (fun r wr => ∃ p : Nat, r = .int .i32 0 ∧ p ≤ s.size ∧ wr = w.iter s p ∧ Hid (∀ j, j < p → sepB (s.data.toList.getD j 0) = false)) (fun _ wr => s.size - wr.iterPos w.heap.size)
  case atStart => exact ⟨0, rfl, Nat.zero_le _, rfl, Lib.hid (fun _ h => absurd h (Nat.not_lt_zero _))⟩
  case round =>
    obtain ⟨p, rfl, hp, rfl, hbad⟩ := hrel
    by_cases hlt : p < s.size
    · have hlen : (p : Int) ≤ 1099511627776 := by omega
      by_cases hasc : byt s p < 128
      · have hnx : ∀ ty, (Instr.next (.pointer (some ⟨w.heap.size, 0, none⟩)) true ty).run Tryz.prog (w.iter s p) = _ := fun ty => run_next_ascii (P := Tryz.prog) w s p ty hlt (by rw [byt_get]; exact hasc)
        simp only [byt_get] at hnx
        have hl : Hid (p < s.data.toList.length) := Lib.hid (by rw [HL.out]; exact hlt)
        have HSQ := Lib.hid (sep_eq (s := s) (j := p))
        by_cases h1 : byt s p = 112
        · have hk := Lib.hid (sgK_of hl.out hbad.out (by rw [HSQ.out, decide_eq_true h1]; rfl))
          have hcc := Lib.hid (show sgC s.data.toList = 112 by rw [(sgC_lt (by rw [hk.out]; exact hl.out)).1, hk.out]; show ((byt s p : Nat) : Int) = 112; rw [h1]; rfl)
          have h1' : ((byt s p : Nat) : Int) = 112 := by omega
          rw [h1'] at hnx
          clear hlt hasc h1 h1'
          go_wp2
          exact bodyPost_ret (v := .tuple #[.int .i32 112, .int .i64 (p : Nat)]) (by simp [results, Tryz.results51, go_sem]) rfl ⟨by rw [hk.out, hcc.out], below_iter _ _ _⟩
        by_cases h2 : byt s p = 47
        · have hk := Lib.hid (sgK_of hl.out hbad.out (by rw [HSQ.out, decide_eq_true h2, Bool.or_true]))
          have hcc := Lib.hid (show sgC s.data.toList = 47 by rw [(sgC_lt (by rw [hk.out]; exact hl.out)).1, hk.out]; show ((byt s p : Nat) : Int) = 47; rw [h2]; rfl)
          have h1' : ((byt s p : Nat) : Int) = 47 := by omega
          rw [h1'] at hnx
          clear hlt hasc h1 h2 h1'
          go_wp2
          exact bodyPost_ret (v := .tuple #[.int .i32 47, .int .i64 (p : Nat)]) (by simp [results, Tryz.results51, go_sem]) rfl ⟨by rw [hk.out, hcc.out], below_iter _ _ _⟩
        have HN := Lib.hid (show ∀ j, j < p + 1 → sepB (s.data.toList.getD j 0) = false from fun j hj => by
          by_cases e : j = p
          · rw [e, HSQ.out, decide_eq_false h1, decide_eq_false h2]; rfl
          · exact hbad.out j (by omega))
        have h1' : ¬ ((byt s p : Nat) : Int) = 112 := by omega
        have d1 : (((byt s p : Nat) : Int) == 112) = false := by simpa using h1'
        have h2' : ¬ ((byt s p : Nat) : Int) = 47 := by omega
        have d2 : (((byt s p : Nat) : Int) == 47) = false := by simpa using h2'
        clear hasc h1 h2
        generalize byt s p = d at *
        go_wp2
        go_roundw
        case rel => exact ⟨p + 1, rfl, hlt, rfl, HN⟩
        case measure => simp; omega
      · have hhi := (decode_high s p hlt (by rw [byt_get]; omega))
        have hcont := decode_cont s p hlt (by omega)
        have hnx : ∀ ty, (Instr.next (.pointer (some ⟨w.heap.size, 0, none⟩)) true ty).run Tryz.prog (w.iter s p) = _ := fun ty => run_next_any (P := Tryz.prog) w s p ty hlt
        obtain ⟨d, hd⟩ : ∃ d, d = (Utf8.decode s p).1 := ⟨_, rfl⟩
        obtain ⟨q, hq⟩ : ∃ q, q = (Utf8.decode s p).2 := ⟨_, rfl⟩
        rw [← hd, ← hq] at hnx hhi
        rw [← hq] at hcont
        have hpq : p + q ≤ s.size := by have := (hcont (q - 1) (by omega)).1; omega
        have HN := Lib.hid (show ∀ j, j < p + q → sepB (s.data.toList.getD j 0) = false from fun j hj => by
          by_cases e : j < p
          · exact hbad.out j e
          · have h3 := (hcont (j - p) (by omega)).2
            rw [show p + (j - p) = j by omega] at h3
            exact sep_hi h3)
        have h1' : ¬ (d : Int) = 112 := by omega
        have d1 : ((d : Int) == 112) = false := by simpa using h1'
        have h2' : ¬ (d : Int) = 47 := by omega
        have d2 : ((d : Int) == 47) = false := by simpa using h2'
        have hq1 : 1 ≤ q := hhi.2
        clear hasc hhi hcont hd hq
        go_wp2
        go_roundw
        case rel => exact ⟨p + q, rfl, hpq, rfl, HN⟩
        case measure => simp; omega
    · obtain rfl : p = s.size := by omega
      have hnx : ∀ ty, (Instr.next (.pointer (some ⟨w.heap.size, 0, none⟩)) true ty).run Tryz.prog (w.iter s s.size) = _ := fun ty => run_next_end (P := Tryz.prog) w s s.size ty hlt
      have hk := Lib.hid (show sgK s.data.toList = s.size by rw [← HL.out]; exact sgK_none (by rw [HL.out]; exact hbad.out))
      have hcc := Lib.hid (show sgC s.data.toList = 0 by unfold sgC; rw [hk.out, HL.out, if_pos rfl])
      go_wp2
      exact bodyPost_ret (v := .tuple #[.int .i32 0, .int .i64 (s.size : Nat)]) (by simp [results, Tryz.results51, go_sem]) rfl ⟨by rw [hk.out, hcc.out], below_iter _ _ _⟩
end Go.Proofs.YtkgogbmeehiloaaGreatDoor

