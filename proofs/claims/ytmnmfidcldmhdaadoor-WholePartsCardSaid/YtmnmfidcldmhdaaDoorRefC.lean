/- The walks of the document's answers: Bits. -/
import Derived.Test.YtmnmfidcldmhdaaDoorRefB
namespace Go.Proofs.YtmnmfidcldmhdaaDoor
open Go.RowKit

theorem nd1_size (s : ByteArray) : nd 1 (sval s) ≤ 8 * s.size := by
  refine nd_le_of_lt (by decide) ?_
  have := sval_lt s
  rw [Nat.pow_one]
  rwa [show 256 = 2 ^ 8 from rfl, ← Nat.pow_mul] at this
theorem shr_and_bit (v p k : Nat) (hk : k < 8) : bits .and .u8 (((dgt 256 v p : Nat) : Int) / 2 ^ k) 1 = ((dgt 2 v (8 * p + k) : Nat) : Int) := by
  rw [show (((dgt 256 v p : Nat) : Int) / 2 ^ k) = ((dgt 256 v p / 2 ^ k : Nat) : Int) by rw [Int.natCast_ediv, Int.natCast_pow]; rfl, u8_and_one, dgt_bit v p k hk]
  exact Nat.lt_of_le_of_lt (Nat.div_le_self _ _) (dgt_lt (by decide) _ _)

set_option maxRecDepth 100000 in
set_option maxHeartbeats 400000 in
theorem rBits_any (s : ByteArray) (w : World) (hs : s.size ≤ 268435456) :
    Calls Tryd.prog 58 #[.string s] w fun e w' => ∃ A c, e = .returned (.slice A (nd 1 (sval s)) c) ∧ nd 1 (sval s) ≤ c ∧ Rd w' A (nd 1 (sval s)) (bitv (sval s)) ∧ Below w.heap.size w w' := by
  have hix : ∀ (p : Nat), p < s.size → ∀ W : World, (Instr.index 9 (.string s) (.int .i64 ((s.size : Int) - 1 - p))).run Tryd.prog W = .ok (.int .u8 (dgt 256 (sval s) p : Nat)) W := fun p hp W => by
    rw [run_index_at s Tryd.underlying9 .i64 _ (s.size - 1 - p) (by omega) (by omega)]
    unfold sval
    rw [dgt_bval _ _ (by simpa using hp)]
    rfl
  have hV : sval s < 2 ^ (8 * s.size) := by have := sval_lt s; rwa [show 256 = 2 ^ 8 from rfl, ← Nat.pow_mul] at this
  have HV := Lib.hid hV
  have HIX := Lib.hid hix
  clear hV hix
  generalize sval s = V at *
  go_enter Tryd.func58, Tryd.ntmps58
  go_wp2
  go_loopw [3, 4] (fun v i wr => ∃ p : Nat, p ≤ s.size ∧ i = .int .i64 ((s.size : Int) - 1 - p) ∧ OwnR wr w.heap.size 5 v (8 * p) (bitv V) ∧ Below w.heap.size w wr) (fun _ i _ => (intOf i + 1).toNat)
  case atStart => exact ⟨0, Nat.zero_le _, by simp, OwnR.nil_ _ _ _ _, Below.refl _ _⟩
  case round =>
    obtain ⟨p, hp, rfl, hown, hB⟩ := hrel
    by_cases hlt : p < s.size
    · have hix := HIX.out p hlt
      have hle : (p : Int) ≤ (s.size : Int) - 1 := by omega
      have hd : decide ((p : Int) ≤ (s.size : Int) - 1) = true := decide_eq_true hle
      go_wp2
      go_loopw [3, 5] (fun v i wr => ∃ k : Nat, k ≤ 8 ∧ i = .int .i64 (k : Nat) ∧ OwnR wr w.heap.size 5 v (8 * p + k) (bitv V) ∧ Below w.heap.size w wr) (fun _ i _ => 8 - (intOf i).toNat)
      case atStart => exact ⟨0, Nat.zero_le _, rfl, hown, hB⟩
      case round =>
        obtain ⟨k, hk, rfl, hown2, hB2⟩ := hrel
        by_cases hk8 : k < 8
        · have hand := shr_and_bit V p k hk8
          have h63 : 8 * p + k + 1 ≤ 9223372036854775807 := by omega
          have hby : (8 * p + k + 1) * 1 ≤ 140737488355328 := by omega
          go_wp2_with (at_builtin; refine wpList_append1 rfl (.tmp 17) (.tmp 24) _ rfl w.heap.size 5 (.int .u8 0) 1 under_bytes info_u8 rfl _ (8 * p + k) (bitv V) _ rfl rfl hown2 rfl h63 hby hB2.size ?_; intro v' w' hown3 hB3 hg3)
          refine ⟨⟨k + 1, hk8, by go_num, hown3.congr fun j hj => ?_, hB2.trans hB3⟩, by simp [intOf]; omega⟩
          by_cases e : j = 8 * p + k
          · subst e; simp only [if_true]; rfl
          · simp only [if_neg e]
        · obtain rfl : k = 8 := by omega
          go_wp2
          refine ⟨⟨p + 1, hlt, by rw [Int.natCast_succ]; go_num, hown2, hB2⟩, by simp [intOf]; omega⟩
    · obtain rfl : p = s.size := by omega
      obtain ⟨A, c, rfl, hnc, hrd, hfr⟩ := hown.rd
      have hn : nd 1 V ≤ 8 * s.size := nd_le_of_lt (by decide) (by rw [Nat.pow_one]; exact HV.out)
      have c1 := Lib.hid (rCut_any A (8 * s.size) c V wr (by omega) hnc HV.out hrd)
      go_wp2_with fail
      refine c1.out.mono ?_
      rintro e w' ⟨rfl, rfl⟩
      go_wp2
      go_ret
      exact ⟨A, c, rfl, by omega, hrd.of_le hn, hB⟩
end Go.Proofs.YtmnmfidcldmhdaaDoor
