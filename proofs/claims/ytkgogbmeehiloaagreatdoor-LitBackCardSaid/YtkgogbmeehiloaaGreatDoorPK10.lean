/- The walks and plain laws beneath the statements. -/
import Derived.Test.YtkgogbmeehiloaaGreatDoorPK9
import Derived.Test.YtkgogbmeehiloaaGreatDoorPK1
import Derived.Laws.RangeAny
namespace Go.Proofs.YtkgogbmeehiloaaGreatDoor
open Go Go.RowKit Go.Lib

/-- Where it is spoilt, as a number; -1: it is not. -/
def spoI (l : List UInt8) : Int := match spoil l with
  | some i => i
  | none => -1
theorem spoI_some {l : List UInt8} {k : Nat} (h : ∀ j, j < k → badB l j = false) (hk : k < l.length) (hp : badB l k = true) : spoI l = k := by
  unfold spoI spoil; rw [firstBad_some h hk hp]
theorem spoI_none {l : List UInt8} (h : ∀ j, j < l.length → badB l j = false) (hl : l ≠ []) : spoI l = -1 := by
  unfold spoI; rw [spoil_none.2 ⟨hl, h⟩]
/-- A text's byte. -/
def byt (s : ByteArray) (i : Nat) : Nat := (s.data.toList.getD i 0).toNat
theorem byt_get (s : ByteArray) (i : Nat) (h : i < s.size) : (s[i]'h).toNat = byt s i := by
  unfold byt
  have h' : i < s.data.toList.length := by simpa using h
  rw [List.getD, List.getElem?_eq_getElem h']
  rfl
theorem run_idx {P : Program} {t : TypeId} (s : ByteArray) (hu : P.underlying t = some .string) (i : Nat) (h : i < s.size) (W : World) : (Instr.index t (.string s) (.int .i64 (i : Int))).run P W = .ok (.int .u8 (byt s i : Nat)) W := by
  rw [run_index_at s hu .i64 _ i (by omega) h]
  rw [← byt_get s i h]; rfl
theorem badB_lo {s : ByteArray} {p : Nat} (h : byt s p < 48) : badB s.data.toList p = true := by
  unfold badB isDig
  have : ¬ 48 ≤ (s.data.toList.getD p 0).toNat := Nat.not_le.2 h
  rw [decide_eq_false this]; rfl
theorem badB_hi {s : ByteArray} {p : Nat} (h : 57 < byt s p) : badB s.data.toList p = true := by
  unfold badB isDig
  have : ¬ (s.data.toList.getD p 0).toNat ≤ 57 := Nat.not_le.2 h
  rw [decide_eq_false this, Bool.and_false]; rfl
theorem badB_ok {s : ByteArray} {p : Nat} (h1 : 48 ≤ byt s p) (h2 : byt s p ≤ 57) : badB s.data.toList p = (p == 1 && s.data.toList.getD 0 0 == 48) := by
  unfold badB isDig
  rw [decide_eq_true (show 48 ≤ (s.data.toList.getD p 0).toNat from h1), decide_eq_true (show (s.data.toList.getD p 0).toNat ≤ 57 from h2)]; rfl
theorem byt_48 {s : ByteArray} {i : Nat} : (s.data.toList.getD i 0 == 48) = decide (byt s i = 48) := by
  unfold byt
  by_cases h : s.data.toList.getD i 0 = 48
  · rw [h]; rfl
  · have h2 : ¬ (s.data.toList.getD i 0).toNat = 48 := fun e => h (UInt8.toNat_inj.1 e)
    rw [decide_eq_false h2]; simpa using h
theorem below_iter (w : World) (s : ByteArray) (p : Nat) : Below w.heap.size w (w.iter s p) := b1 w _

set_option maxRecDepth 100000 in
set_option maxHeartbeats 1000000 in
theorem spoilt_any (s : ByteArray) (w : World) (hs : s.size ≤ 1099511627776) :
    Calls Tryz.prog 34 #[.string s] w fun e w' => e = .returned (.int .i64 (spoI s.data.toList)) ∧ Below w.heap.size w w' := by
  have HL := Lib.hid (show s.data.toList.length = s.size by simp)
  go_enter Tryz.func34, Tryz.ntmps34
  go_wp2
  go_loopw [2] (fun r wr => ∃ p : Nat, r = .int .i64 0 ∧ p ≤ s.size ∧ wr = w.iter s p ∧ Hid (∀ j, j < p → badB s.data.toList j = false)) (fun _ wr => s.size - wr.iterPos w.heap.size)
  case atStart => exact ⟨0, rfl, Nat.zero_le _, rfl, Lib.hid (fun _ h => absurd h (Nat.not_lt_zero _))⟩
  case round =>
    obtain ⟨p, rfl, hp, rfl, hbad⟩ := hrel
    by_cases hlt : p < s.size
    · have hl : Hid (p < s.data.toList.length) := Lib.hid (by rw [HL.out]; exact hlt)
      have hlen : (p : Int) ≤ 1099511627776 := by omega
      by_cases hasc : byt s p < 128
      · have hnx : ∀ ty, (Instr.next (.pointer (some ⟨w.heap.size, 0, none⟩)) true ty).run Tryz.prog (w.iter s p) = _ := fun ty => run_next_ascii (P := Tryz.prog) w s p ty hlt (by rw [byt_get]; exact hasc)
        simp only [byt_get] at hnx
        by_cases h1 : byt s p < 48
        · have hk := Lib.hid (spoI_some hbad.out hl.out (badB_lo h1))
          have h1' : ((byt s p : Nat) : Int) < 48 := by omega
          have d1 : decide (((byt s p : Nat) : Int) < 48) = true := decide_eq_true h1'
          clear hlt hasc h1
          generalize byt s p = d at *
          go_wp2
          go_ret
          exact ⟨by rw [hk.out]; rfl, below_iter _ _ _⟩
        by_cases h2 : 57 < byt s p
        · have hk := Lib.hid (spoI_some hbad.out hl.out (badB_hi h2))
          have h1' : ¬ ((byt s p : Nat) : Int) < 48 := by omega
          have d1 : decide (((byt s p : Nat) : Int) < 48) = false := decide_eq_false h1'
          have h2' : 57 < ((byt s p : Nat) : Int) := by omega
          have d2 : decide (57 < ((byt s p : Nat) : Int)) = true := decide_eq_true h2'
          clear hlt hasc h1 h2
          generalize byt s p = d at *
          go_wp2
          go_ret
          exact ⟨by rw [hk.out]; rfl, below_iter _ _ _⟩
        have hok := badB_ok (s := s) (p := p) (by omega) (by omega)
        have h1' : ¬ ((byt s p : Nat) : Int) < 48 := by omega
        have d1 : decide (((byt s p : Nat) : Int) < 48) = false := decide_eq_false h1'
        have h2' : ¬ 57 < ((byt s p : Nat) : Int) := by omega
        have d2 : decide (57 < ((byt s p : Nat) : Int)) = false := decide_eq_false h2'
        have next : ∀ (_ : badB s.data.toList p = false), ∀ j, j < p + 1 → badB s.data.toList j = false := fun h j hj => by
          by_cases e : j = p
          · rw [e]; exact h
          · exact hbad.out j (by omega)
        have NX := Lib.hid next
        clear next hasc h1 h2
        by_cases hp1 : p = 1
        · have h0 : ∀ W, (Instr.index 9 (.string s) (.int .i64 0)).run Tryz.prog W = .ok (.int .u8 (byt s 0 : Nat)) W := fun W => run_idx s Tryz.underlying9 0 (by omega) W
          have e1 : (p : Int) = 1 := by omega
          have e2 : ((p : Int) == 1) = true := by rw [e1]; rfl
          by_cases h48 : byt s 0 = 48
          · have hk := Lib.hid (show spoI s.data.toList = 1 by rw [← e1]; exact spoI_some hbad.out hl.out (by rw [hok, byt_48, decide_eq_true h48, hp1]; rfl))
            rw [h48] at h0
            clear hlt hok hp1 h48 NX
            generalize byt s p = d at *
            go_wp2
            go_ret
            exact ⟨by rw [hk.out]; rfl, below_iter _ _ _⟩
          · have HK := Lib.hid (NX.out (by rw [hok, byt_48, decide_eq_false h48, hp1]; rfl))
            have e3 : ¬ ((byt s 0 : Nat) : Int) = 48 := by omega
            have e4 : (((byt s 0 : Nat) : Int) == 48) = false := by simpa using e3
            clear hok hp1 h48 NX
            generalize byt s p = d at *
            generalize byt s 0 = d0 at *
            go_wp2
            go_roundw
            case rel => exact ⟨p + 1, rfl, hlt, rfl, HK⟩
            case measure => simp; omega
        · have HK := Lib.hid (NX.out (by rw [hok]; simp [hp1]))
          have e1 : ¬ (p : Int) = 1 := by omega
          have e2 : ((p : Int) == 1) = false := by simpa using e1
          clear hok hp1 NX
          generalize byt s p = d at *
          go_wp2
          go_roundw
          case rel => exact ⟨p + 1, rfl, hlt, rfl, HK⟩
          case measure => simp; omega
      · have hhi := (decode_high s p hlt (by rw [byt_get]; omega)).1
        have hnx : ∀ ty, (Instr.next (.pointer (some ⟨w.heap.size, 0, none⟩)) true ty).run Tryz.prog (w.iter s p) = _ := fun ty => run_next_any (P := Tryz.prog) w s p ty hlt
        have hk := Lib.hid (spoI_some hbad.out hl.out (badB_hi (by omega)))
        generalize (Utf8.decode s p).1 = d at *
        generalize p + (Utf8.decode s p).2 = p2 at *
        have h1' : ¬ (d : Int) < 48 := by omega
        have d1 : decide ((d : Int) < 48) = false := decide_eq_false h1'
        have h2' : 57 < (d : Int) := by omega
        have d2 : decide (57 < (d : Int)) = true := decide_eq_true h2'
        clear hlt hasc hhi
        go_wp2
        go_ret
        exact ⟨by rw [hk.out]; rfl, below_iter _ _ _⟩
    · obtain rfl : p = s.size := by omega
      have hnx : ∀ ty, (Instr.next (.pointer (some ⟨w.heap.size, 0, none⟩)) true ty).run Tryz.prog (w.iter s s.size) = _ := fun ty => run_next_end (P := Tryz.prog) w s s.size ty hlt
      by_cases h0 : s.toList = []
      · have hk := Lib.hid (show spoI s.data.toList = 0 by rw [show s.data.toList = [] by rw [← ByteArray.toList_eq]; exact h0]; rfl)
        go_wp2
        go_ret
        exact ⟨by rw [hk.out]; rfl, below_iter _ _ _⟩
      · have h1 : s.toList.isEmpty = false := by rw [List.isEmpty_eq_false_iff]; exact h0
        have hk := Lib.hid (spoI_none (by rw [HL.out]; exact hbad.out) (by rw [← ByteArray.toList_eq]; exact h0))
        go_wp2
        go_ret
        exact ⟨by rw [hk.out]; rfl, below_iter _ _ _⟩
end Go.Proofs.YtkgogbmeehiloaaGreatDoor

