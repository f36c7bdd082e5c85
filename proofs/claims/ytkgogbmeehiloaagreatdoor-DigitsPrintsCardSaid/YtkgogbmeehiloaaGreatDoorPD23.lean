/- The walks and plain laws beneath the statements. -/
import Derived.Test.YtkgogbmeehiloaaGreatDoorPD15
import Derived.Test.YtkgogbmeehiloaaGreatDoorPD17
import Derived.Test.YtkgogbmeehiloaaGreatDoorPD19
import Derived.Test.YtkgogbmeehiloaaGreatDoorPD22
namespace Go.Proofs.YtkgogbmeehiloaaGreatDoor
open Go.RowKit Go.Lib

/-- The same from a place on. -/
def pvf (s : ByteArray) (f k : Nat) : Nat := dval ((s.data.toList.drop f).take k)
theorem byt_drop (s : ByteArray) (f k : Nat) : ((s.data.toList.drop f).getD k 0).toNat = byt s (f + k) := by
  unfold byt
  rw [List.getD, List.getD, List.getElem?_drop]
theorem pvf_succ (s : ByteArray) {f k : Nat} (h : f + k < s.size) : pvf s f (k + 1) = 10 * pvf s f k + (byt s (f + k) - 48) := by
  have h' : k < (s.data.toList.drop f).length := by simp; omega
  unfold pvf
  rw [List.take_succ_eq_append_getElem h', dval_snoc, ← byt_drop, List.getD, List.getElem?_eq_getElem h']
  rfl
theorem pvf_all (s : ByteArray) (f : Nat) : pvf s f (s.size - f) = dval (s.data.toList.drop f) := by
  unfold pvf
  rw [List.take_of_length_le (by simp)]
/-- Up to k all are good. -/
def okTo (s : ByteArray) (f k : Nat) : Prop := ∀ j, j < k → badB (s.data.toList.drop f) j = false ∧ (f = 1 → j = 0 → byt s 1 ≠ 48)
theorem okTo_dig {s : ByteArray} {f k j : Nat} (h : okTo s f k) (hj : j < k) : 48 ≤ byt s (f + j) ∧ byt s (f + j) ≤ 57 := by
  have h1 := isDig_iff.1 (badB_dig (h j hj).1)
  rwa [byt_drop] at h1
theorem pvf_lt {s : ByteArray} {f : Nat} : ∀ {k : Nat}, okTo s f k → f + k ≤ s.size → pvf s f k < 10 ^ k
  | 0, _, _ => by show 0 < 1; decide
  | k + 1, h, hk => by
    have h1 := pvf_lt (k := k) (fun j hj => h j (by omega)) (by omega)
    have h2 := okTo_dig h (j := k) (by omega)
    rw [pvf_succ s (by omega), Nat.pow_succ]; omega
theorem bad_lo {s : ByteArray} {f k : Nat} (h : byt s (f + k) < 48) : badB (s.data.toList.drop f) k = true := by
  unfold badB isDig
  have : ¬ 48 ≤ ((s.data.toList.drop f).getD k 0).toNat := by rw [byt_drop]; omega
  rw [decide_eq_false this]; rfl
theorem bad_hi {s : ByteArray} {f k : Nat} (h : 57 < byt s (f + k)) : badB (s.data.toList.drop f) k = true := by
  unfold badB isDig
  have : ¬ ((s.data.toList.drop f).getD k 0).toNat ≤ 57 := by rw [byt_drop]; omega
  rw [decide_eq_false this, Bool.and_false]; rfl
theorem bad_dg {s : ByteArray} {f k : Nat} (h1 : 48 ≤ byt s (f + k)) (h2 : byt s (f + k) ≤ 57) : badB (s.data.toList.drop f) k = (k == 1 && decide (byt s f = 48)) := by
  unfold badB isDig
  have e : ((s.data.toList.drop f).getD 0 0 == 48) = decide (byt s f = 48) := by
    have h3 := byt_drop s f 0
    rw [Nat.add_zero] at h3
    rw [← h3]
    by_cases h : (s.data.toList.drop f).getD 0 0 = 48
    · rw [h]; rfl
    · have h4 : ¬ ((s.data.toList.drop f).getD 0 0).toNat = 48 := fun e => h (UInt8.toNat_inj.1 e)
      rw [decide_eq_false h4]; simpa using h
  rw [e, decide_eq_true (show 48 ≤ ((s.data.toList.drop f).getD k 0).toNat by rw [byt_drop]; exact h1), decide_eq_true (show ((s.data.toList.drop f).getD k 0).toNat ≤ 57 by rw [byt_drop]; exact h2)]; rfl
/-- What Parse says. -/
def rpV (l : List UInt8) : Value := match parseAt l with
  | some i => .tuple #[.agg #[.bool false, .string ⟨#[]⟩], .int .i64 i]
  | none => .tuple #[.agg #[.bool (neg (parseZ l)), .string (mag (parseZ l))], .int .i64 (-1)]
/-- With and without a sign. -/
def headAt (s : ByteArray) (f : Nat) : Prop := (f = 1 ∧ 0 < s.size ∧ byt s 0 = 45) ∨ (f = 0 ∧ (s.size = 0 ∨ byt s 0 ≠ 45))
theorem list_cons (s : ByteArray) (h : 0 < s.size) : ∃ c l, s.data.toList = c :: l ∧ c.toNat = byt s 0 := by
  have h' : 0 < s.data.toList.length := by simpa using h
  cases e : s.data.toList with
  | nil => rw [e] at h'; cases h'
  | cons c l => refine ⟨c, l, rfl, ?_⟩; unfold byt; rw [e]; rfl
theorem parseAt_bad {s : ByteArray} {f k : Nat} (hf : headAt s f) (h : okTo s f k) (hk : f + k < s.size) (hb : badB (s.data.toList.drop f) k = true ∨ (f = 1 ∧ k = 0 ∧ byt s 1 = 48)) : parseAt s.data.toList = some (f + k) := by
  have hlen : k < (s.data.toList.drop f).length := by simp; omega
  rcases hf with ⟨rfl, h0, h45⟩ | ⟨rfl, h45⟩
  · obtain ⟨c, l, e, hc⟩ := list_cons s h0
    have hc45 : (c == 45) = true := by
      have : c = 45 := UInt8.toNat_inj.1 (by rw [hc, h45]; rfl)
      rw [this]; rfl
    have hd : s.data.toList.drop 1 = l := by rw [e]; rfl
    rw [hd] at hb hlen
    have hh : byt s 1 = 48 ↔ l.head? = some 48 := by
      have h1 := byt_drop s 1 0
      rw [hd] at h1
      rw [show 1 = 1 + 0 from rfl, ← h1]
      cases l with
      | nil => simp at hlen
      | cons d l =>
        show d.toNat = 48 ↔ some d = some 48
        constructor
        · intro h; rw [UInt8.toNat_inj.1 (show d.toNat = (48 : UInt8).toNat from h)]
        · intro h; injection h with h; rw [h]; rfl
    rw [e]
    simp only [parseAt, hc45]
    by_cases h48 : byt s 1 = 48
    · have hk0 : k = 0 := by
        rcases hb with hb | hb
        · rcases Nat.eq_zero_or_pos k with h | h2
          · exact h
          · exact absurd h48 ((h 0 h2).2 rfl rfl)
        · exact hb.2.1
      subst hk0
      have : (l.head? == some 48) = true := by rw [hh.1 h48]; rfl
      rw [this]
    · have h1 : (l.head? == some 48) = false := by
        cases e2 : l.head? == some 48 with
        | false => rfl
        | true => exact absurd (hh.2 (by simpa using e2)) h48
      rw [h1]
      rcases hb with hb | hb
      · have h2 : spoil l = some k := by
          unfold spoil
          rw [firstBad_some (fun j hj => by have := (h j hj).1; rwa [hd] at this) hlen hb]
        rw [h2]
        show some (k + 1) = _
        rw [Nat.add_comm]
      · exact absurd hb.2.2 h48
  · rw [List.drop_zero] at hb hlen
    have hb : badB s.data.toList k = true := by
      rcases hb with hb | hb
      · exact hb
      · exact absurd hb.1 (by decide)
    have h0 : 0 < s.size := by omega
    obtain ⟨c, l, e, hc⟩ := list_cons s h0
    have hc45 : (c == 45) = false := by
      cases e2 : c == 45 with
      | false => rfl
      | true =>
        have e3 : c = 45 := by simpa using e2
        rcases h45 with h | h
        · omega
        · exact absurd (by rw [← hc, e3]; rfl) h
    have h2 : spoil s.data.toList = some k := by
      unfold spoil
      rw [firstBad_some (fun j hj => by have := (h j hj).1; rwa [List.drop_zero] at this) hlen hb]
    rw [Nat.zero_add, ← h2, e]
    simp only [parseAt, hc45]
theorem parseAt_end {s : ByteArray} {f : Nat} (hf : headAt s f) (h : okTo s f (s.size - f)) : if s.size = f then parseAt s.data.toList = some f else parseAt s.data.toList = none ∧ parseZ s.data.toList = if f = 1 then -(dval (s.data.toList.drop f) : Int) else (dval (s.data.toList.drop f) : Int) := by
  rcases hf with ⟨rfl, h0, h45⟩ | ⟨rfl, h45⟩
  · obtain ⟨c, l, e, hc⟩ := list_cons s h0
    have hc45 : (c == 45) = true := by
      have : c = 45 := UInt8.toNat_inj.1 (by rw [hc, h45]; rfl)
      rw [this]; rfl
    have hd : s.data.toList.drop 1 = l := by rw [e]; rfl
    have hll : l.length = s.size - 1 := by rw [← hd]; simp
    rw [e]
    simp only [parseAt, parseZ, hc45]
    split
    · rename_i h1
      have : l = [] := List.length_eq_zero_iff.1 (by omega)
      subst this; rfl
    · rename_i h1
      have hg : good l := ⟨fun e2 => by rw [e2] at hll; simp at hll; omega, fun j hj => by have := (h j (by omega)).1; rwa [hd] at this⟩
      have h48 : byt s 1 ≠ 48 := (h 0 (by omega)).2 rfl rfl
      have h2 : (l.head? == some 48) = false := by
        have h3 := byt_drop s 1 0
        rw [hd] at h3
        cases l with
        | nil => rfl
        | cons d l =>
          have : d ≠ 48 := fun e2 => h48 (by rw [show 1 = 1 + 0 from rfl, ← h3, e2]; rfl)
          simpa using this
      rw [h2, spoil_none.2 hg]
      exact ⟨rfl, by simp⟩
  · rw [List.drop_zero]
    split
    · rename_i h1
      have : s.data.toList = [] := List.length_eq_zero_iff.1 (by simpa using h1)
      rw [this]; rfl
    · rename_i h1
      have h0 : 0 < s.size := by omega
      obtain ⟨c, l, e, hc⟩ := list_cons s h0
      have hc45 : (c == 45) = false := by
        cases e2 : c == 45 with
        | false => rfl
        | true =>
          have e3 : c = 45 := by simpa using e2
          rcases h45 with h | h
          · omega
          · exact absurd (by rw [← hc, e3]; rfl) h
      have hg : good s.data.toList := ⟨by rw [e]; simp, fun j hj => by have := (h j (by simpa using hj)).1; rwa [List.drop_zero] at this⟩
      have h2 := spoil_none.2 hg
      rw [e] at h2 ⊢
      simp only [parseAt, parseZ, hc45, h2]
      exact ⟨trivial, by simp⟩
end Go.Proofs.YtkgogbmeehiloaaGreatDoor

