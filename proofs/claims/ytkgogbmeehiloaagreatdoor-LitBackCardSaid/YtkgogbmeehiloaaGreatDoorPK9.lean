/- The walks and plain laws beneath the statements. -/
import Derived.Test.YtkgogbmeehiloaaGreatDoorPK7
import Derived.Lib.ItoaNum
namespace Go.Proofs.YtkgogbmeehiloaaGreatDoor
open Go Go.Lib

/-- A digit's byte. -/
def dch (d : Nat) : UInt8 := UInt8.ofNat (48 + d)
theorem dch_toNat {d : Nat} (h : d < 10) : (dch d).toNat = 48 + d := by
  unfold dch
  simp; omega
theorem dch_inj {c : UInt8} {d : Nat} (h : c.toNat = 48 + d) : dch d = c := by
  unfold dch
  rw [← h]; simp
theorem dec_small {v : Nat} (h : v < 10) : decDigits v = [dch v] := by rw [decDigits, dif_pos h]; rfl
theorem dec_big {v : Nat} (h : ¬ v < 10) : decDigits v = decDigits (v / 10) ++ [dch (v % 10)] := by rw [decDigits, dif_neg h]; rfl
/-- The k lowest digits. -/
def lowD : Nat → Nat → List UInt8
  | 0, _ => []
  | k + 1, v => lowD k (v / 10) ++ [dch (v % 10)]
theorem lowD_len : ∀ k v, (lowD k v).length = k
  | 0, _ => rfl
  | k + 1, v => by rw [lowD, List.length_append, lowD_len k]; rfl
theorem lowD_zero : ∀ k, lowD k 0 = List.replicate k 48
  | 0 => rfl
  | k + 1 => by rw [lowD, Nat.zero_div, lowD_zero k, List.replicate_succ']; rfl
theorem dec_low : ∀ k v, v / 10 ^ k ≠ 0 → decDigits v = decDigits (v / 10 ^ k) ++ lowD k v
  | 0, v, _ => by simp [lowD]
  | k + 1, v, h => by
    have e : v / 10 ^ (k + 1) = v / 10 / 10 ^ k := by rw [Nat.div_div_eq_div_mul, Nat.pow_succ, Nat.mul_comm]
    rw [e] at h ⊢
    have h10 : ¬ v < 10 := fun h2 => h (by rw [Nat.div_eq_of_lt h2, Nat.zero_div])
    rw [dec_big h10, dec_low k (v / 10) h, List.append_assoc]
    rfl
theorem lowD_mod : ∀ k v, lowD k (v % 10 ^ k) = lowD k v
  | 0, _ => rfl
  | k + 1, v => by
    rw [lowD, lowD, Nat.pow_succ, Nat.mul_comm, Nat.mod_mul_right_div_self, lowD_mod k, Nat.mod_mul_right_mod]
theorem lowD_pad : ∀ k v, nDigits v ≤ k → lowD k v = List.replicate (k - nDigits v) 48 ++ decDigits v
  | 0, v, h => by have := nDigits_pos v; omega
  | k + 1, v, h => by
    by_cases h1 : v < 10
    · rw [lowD, Nat.div_eq_of_lt h1, lowD_zero, dec_small h1, nDigits_small h1, Nat.mod_eq_of_lt h1]; rfl
    · rw [nDigits_big h1] at h ⊢
      rw [lowD, lowD_pad k (v / 10) (by omega), dec_big h1, Nat.add_sub_add_right, List.append_assoc]
theorem dec_len : ∀ v, (decDigits v).length = nDigits v := fun v => by
  induction v using Nat.strongRecOn with
  | _ v ih =>
    by_cases h : v < 10
    · rw [dec_small h, nDigits_small h]; rfl
    · rw [dec_big h, nDigits_big h, List.length_append, ih (v / 10) (by omega)]; rfl
theorem nDigits_le {v k : Nat} (h : v < 10 ^ k) (hk : 0 < k) : nDigits v ≤ k := by
  induction k generalizing v with
  | zero => omega
  | succ k ih =>
    by_cases h1 : v < 10
    · rw [nDigits_small h1]; omega
    · rw [nDigits_big h1]
      rw [Nat.pow_succ] at h
      rcases Nat.eq_zero_or_pos k with h0 | h0
      · subst h0; omega
      · have := ih (v := v / 10) (by omega) h0
        omega
/-! Texts. -/
def isDig (c : UInt8) : Bool := decide (48 ≤ c.toNat) && decide (c.toNat ≤ 57)
theorem isDig_iff {c : UInt8} : isDig c = true ↔ 48 ≤ c.toNat ∧ c.toNat ≤ 57 := by unfold isDig; rw [Bool.and_eq_true, decide_eq_true_eq, decide_eq_true_eq]
/-- The number that digits are. -/
def dval (l : List UInt8) : Nat := l.foldl (fun v c => 10 * v + (c.toNat - 48)) 0
theorem dval_nil : dval [] = 0 := rfl
theorem dval_snoc (l : List UInt8) (c : UInt8) : dval (l ++ [c]) = 10 * dval l + (c.toNat - 48) := by simp [dval, List.foldl_append]
theorem dval_dec (v : Nat) : dval (decDigits v) = v := by
  induction v using Nat.strongRecOn with
  | _ v ih =>
    by_cases h : v < 10
    · rw [dec_small h]
      show 10 * 0 + ((dch v).toNat - 48) = v
      rw [dch_toNat h]; omega
    · rw [dec_big h, dval_snoc, ih (v / 10) (by omega), dch_toNat (by omega)]; omega
theorem dec_dig (v : Nat) : ∀ c, c ∈ decDigits v → isDig c = true := by
  induction v using Nat.strongRecOn with
  | _ v ih =>
    intro c hc
    by_cases h : v < 10
    · rw [dec_small h] at hc
      rcases List.mem_cons.1 hc with rfl | hc
      · rw [isDig_iff, dch_toNat h]; omega
      · cases hc
    · rw [dec_big h] at hc
      rcases List.mem_append.1 hc with hc | hc
      · exact ih (v / 10) (by omega) c hc
      · rcases List.mem_cons.1 hc with rfl | hc
        · rw [isDig_iff, dch_toNat (by omega)]; omega
        · cases hc
theorem dec_ne (v : Nat) : decDigits v ≠ [] := fun h => by
  have h1 := dec_len v
  have h2 := nDigits_pos v
  rw [h] at h1; simp at h1; omega
theorem getD_append_l {l m : List UInt8} {i : Nat} (h : i < l.length) : (l ++ m).getD i 0 = l.getD i 0 := by
  rw [List.getD, List.getD, List.getElem?_append_left h]
theorem dec_head (v : Nat) (h : v ≠ 0) : (decDigits v).getD 0 0 ≠ 48 := by
  induction v using Nat.strongRecOn with
  | _ v ih =>
    by_cases h1 : v < 10
    · rw [dec_small h1]
      intro e
      have e2 : (dch v).toNat = 48 := congrArg UInt8.toNat e
      rw [dch_toNat h1] at e2; omega
    · rw [dec_big h1, getD_append_l (by have := dec_len (v / 10); have := nDigits_pos (v / 10); omega)]
      exact ih (v / 10) (by omega) (by omega)
/-- A text's byte that may not be there. -/
def badB (l : List UInt8) (i : Nat) : Bool := !isDig (l.getD i 0) || (i == 1 && l.getD 0 0 == 48)
def firstBad (l : List UInt8) : Option Nat := (List.range l.length).find? (badB l)
/-- Where a text of digits is spoilt. -/
def spoil (l : List UInt8) : Option Nat := match firstBad l with
  | some i => some i
  | none => match l with
    | [] => some 0
    | _ :: _ => none
theorem find_range {p : Nat → Bool} {n k : Nat} (h : ∀ j, j < k → p j = false) (hk : k < n) (hp : p k = true) : (List.range n).find? p = some k := by
  rw [List.find?_range_eq_some]
  exact ⟨hp, by simpa using hk, fun j hj => by simp [h j hj]⟩
theorem find_range_none {p : Nat → Bool} {n : Nat} (h : ∀ j, j < n → p j = false) : (List.range n).find? p = none := by
  rw [List.find?_eq_none]
  intro j hj
  simp [h j (List.mem_range.1 hj)]
theorem firstBad_some {l : List UInt8} {k : Nat} (h : ∀ j, j < k → badB l j = false) (hk : k < l.length) (hp : badB l k = true) : firstBad l = some k := find_range h hk hp
theorem firstBad_none {l : List UInt8} (h : ∀ j, j < l.length → badB l j = false) : firstBad l = none := find_range_none h
theorem firstBad_none_iff {l : List UInt8} : firstBad l = none ↔ ∀ j, j < l.length → badB l j = false := by
  refine ⟨fun h j hj => ?_, firstBad_none⟩
  have h1 := List.find?_eq_none.1 h j (List.mem_range.2 hj)
  simpa using h1
/-- It is a natural number's text. -/
def good (l : List UInt8) : Prop := l ≠ [] ∧ (∀ j, j < l.length → badB l j = false)
theorem spoil_none {l : List UInt8} : spoil l = none ↔ good l := by
  unfold spoil good
  cases h : firstBad l with
  | some i =>
    refine ⟨fun h => (nomatch h), fun hg => ?_⟩
    rw [firstBad_none hg.2] at h; cases h
  | none =>
    have h2 := firstBad_none_iff.1 h
    cases l with
    | nil => exact ⟨fun h => (nomatch h), fun h => absurd rfl h.1⟩
    | cons c l => exact ⟨fun _ => ⟨by simp, h2⟩, fun _ => rfl⟩
theorem badB_dig {l : List UInt8} {j : Nat} (h : badB l j = false) : isDig (l.getD j 0) = true := by
  unfold badB at h
  cases e : isDig (l.getD j 0) <;> simp_all
theorem good_dec (v : Nat) : good (decDigits v) := by
  refine ⟨dec_ne v, fun j hj => ?_⟩
  unfold badB
  have h1 : isDig ((decDigits v).getD j 0) = true := by
    refine dec_dig v _ ?_
    rw [List.getD, List.getElem?_eq_getElem hj]; exact List.getElem_mem hj
  rw [h1]
  show (false || (j == 1 && (decDigits v).getD 0 0 == 48)) = false
  by_cases e : j = 1
  · subst e
    have h2 : ¬ v < 10 := fun h => by rw [dec_small h] at hj; simp at hj
    have h3 := dec_head v (by omega)
    simpa using h3
  · simp [e]
theorem dec_good : ∀ {l : List UInt8}, good l → decDigits (dval l) = l ∧ (l.getD 0 0 ≠ 48 → dval l ≠ 0) := by
  intro l
  induction l using snocRec with
  | nil => exact fun h => absurd rfl h.1
  | snoc m c ih =>
    intro hg
    have hc : isDig c = true := by
      have h1 := badB_dig (hg.2 m.length (by simp))
      rw [List.getD, List.getElem?_append_right (Nat.le_refl _)] at h1
      simpa using h1
    obtain ⟨c1, c2⟩ := isDig_iff.1 hc
    rw [dval_snoc]
    by_cases hm : m = []
    · subst hm
      rw [dval_nil, dec_small (by omega), dch_inj (c := c) (by omega)]
      refine ⟨rfl, fun h e => h ?_⟩
      show c = 48
      exact UInt8.toNat_inj.1 (by show c.toNat = 48; omega)
    · have hl : 0 < m.length := List.length_pos_iff.2 hm
      have hgm : good m := ⟨hm, fun j hj => by
        have h1 := hg.2 j (by simp; omega)
        unfold badB at h1 ⊢
        rwa [getD_append_l hj, getD_append_l hl] at h1⟩
      have hh : m.getD 0 0 ≠ 48 := by
        have h1 := hg.2 1 (by simp; omega)
        unfold badB at h1
        rw [getD_append_l hl] at h1
        simp only [Bool.or_eq_false_iff] at h1
        simpa using h1.2
      obtain ⟨i1, i2⟩ := ih hgm
      have h0 := i2 hh
      refine ⟨?_, fun _ => by omega⟩
      rw [dec_big (by omega), show (10 * dval m + (c.toNat - 48)) / 10 = dval m by omega, show (10 * dval m + (c.toNat - 48)) % 10 = c.toNat - 48 by omega, i1, dch_inj (c := c) (by omega)]

/-! Whole numbers' texts. -/
/-- Where a text is spoilt. -/
def parseAt : List UInt8 → Option Nat
  | [] => some 0
  | c :: l => match c == 45 with
    | true => match l.head? == some 48 with
      | true => some 1
      | false => (spoil l).map (· + 1)
    | false => spoil (c :: l)
/-- Which number it is. -/
def parseZ : List UInt8 → Int
  | [] => 0
  | c :: l => match c == 45 with
    | true => -(dval l : Int)
    | false => dval (c :: l)
theorem dec_no45 {v : Nat} {c : UInt8} {l : List UInt8} (h : decDigits v = c :: l) : (c == 45) = false := by
  have h1 := isDig_iff.1 (dec_dig v c (by rw [h]; simp))
  cases e : c == 45 with
  | false => rfl
  | true =>
    have e2 : c = 45 := by simpa using e
    subst e2
    exact absurd h1.1 (by decide)
theorem parse_itoa (z : Int) : parseAt (itoa z) = none ∧ parseZ (itoa z) = z := by
  unfold itoa
  split
  · rename_i hz
    have hg := good_dec z.natAbs
    have hh := dec_head z.natAbs (by omega)
    have hv := dval_dec z.natAbs
    show (match (decDigits z.natAbs).head? == some 48 with | true => some 1 | false => (spoil (decDigits z.natAbs)).map (· + 1)) = none ∧ -(dval (decDigits z.natAbs) : Int) = z
    rw [hv, spoil_none.2 hg]
    refine ⟨?_, by omega⟩
    have e : ((decDigits z.natAbs).head? == some 48) = false := by
      cases hd : decDigits z.natAbs with
      | nil => rfl
      | cons c l =>
        rw [hd] at hh
        have : c ≠ 48 := hh
        simpa using this
    rw [e]; rfl
  · rename_i hz
    have hg := good_dec z.toNat
    have hv := dval_dec z.toNat
    cases hd : decDigits z.toNat with
    | nil => exact absurd hd (dec_ne _)
    | cons c l =>
      have h45 := dec_no45 hd
      rw [hd] at hg hv
      simp only [parseAt, parseZ, h45]
      rw [spoil_none.2 hg, hv]
      exact ⟨rfl, by omega⟩
theorem itoa_parse {l : List UInt8} (h : parseAt l = none) : itoa (parseZ l) = l := by
  cases l with
  | nil => cases h
  | cons c l =>
    simp only [parseAt] at h
    simp only [parseZ]
    cases e : c == 45 with
    | true =>
      rw [e] at h
      dsimp only at h ⊢
      cases e2 : l.head? == some 48 with
      | true => rw [e2] at h; cases h
      | false =>
        rw [e2] at h
        have hs : spoil l = none := by
          cases hs : spoil l with
          | none => rfl
          | some i => rw [hs] at h; cases h
        have hg := spoil_none.1 hs
        obtain ⟨h1, h2⟩ := dec_good hg
        have h3 : l.getD 0 0 ≠ 48 := by
          cases l with
          | nil => exact absurd rfl hg.1
          | cons d l => simpa using e2
        have h4 := h2 h3
        unfold itoa
        rw [if_pos (by omega), show (-(dval l : Int)).natAbs = dval l by omega, h1]
        have e3 : c = 45 := by simpa using e
        rw [e3]
    | false =>
      rw [e] at h
      dsimp only at h ⊢
      obtain ⟨h1, _⟩ := dec_good (spoil_none.1 h)
      unfold itoa
      rw [if_neg (by omega), Int.toNat_natCast, h1]
/-- A number's text. -/
def ztext (z : Int) : ByteArray := ⟨(itoa z).toArray⟩
end Go.Proofs.YtkgogbmeehiloaaGreatDoor

