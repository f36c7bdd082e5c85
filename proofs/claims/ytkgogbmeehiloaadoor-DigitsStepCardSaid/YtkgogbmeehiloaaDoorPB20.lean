/- The walks and plain laws beneath the statements. -/
import Derived.Test.YtkgogbmeehiloaaDoorPB18
import Derived.Test.YtkgogbmeehiloaaDoorPB11
import Derived.Test.YtkgogbmeehiloaaDoorPB19
import Derived.Test.YtkgogbmeehiloaaDoorPB14
namespace Go.Proofs.YtkgogbmeehiloaaDoor
open Go.RowKit

theorem rOf_i (v : Nat) (x : Int) (w : World) (hv : v < LB) (hx : x = (v : Int)) :
    Calls Tryd.prog 27 #[.int .u64 x] w fun e w' => e = .returned (.string (nstr v)) ∧ Below w.heap.size w w' := by subst hx; exact rOf_any v w hv
set_option maxRecDepth 100000 in
set_option maxHeartbeats 400000 in
theorem rWOf_neg (v : Nat) (w : World) (h0 : 0 < v) (hv : v ≤ 9223372036854775808) :
    Calls Tryd.prog 15 #[.int .i64 (-(v : Int))] w fun e w' => e = .returned (.agg #[.bool (neg (-(v : Int))), .string (mag (-(v : Int)))]) ∧ Below w.heap.size w w' := by
  have hn : neg (-(v : Int)) = true := decide_eq_true (by omega)
  have hm : mag (-(v : Int)) = nstr v := by unfold mag; rw [Int.natAbs_neg, Int.natAbs_natCast]
  rw [hn, hm]
  have co := Lib.hid (fun W x hx => rOf_i v x W (by rw [LB_eq]; omega) hx)
  have hcv : IntKind.u64.wrap ((v : Int) - 1) = (v : Int) - 1 := by rw [IntKind.wrap_u64]; omega
  have hcw : IntKind.u64.wrap ((v : Int) - 1 + 1) = (v : Int) := by rw [IntKind.wrap_u64]; omega
  have hcx : IntKind.u64.wrap (v : Int) = (v : Int) := by rw [IntKind.wrap_u64]; omega
  have hcy : IntKind.u64.wrap (-(-(v : Int) + 1)) = (v : Int) - 1 := by rw [IntKind.wrap_u64]; omega
  clear hn hm
  go_enter Tryd.func15, Tryd.ntmps15
  have X := Bx.new w 23 #[.bool false, .string ⟨#[]⟩]
  go_wp2_with fail
  refine (co.out _ _ (by omega)).mono ?_
  rintro e w1 ⟨rfl, hb⟩
  have X1 := X.later hb
  have hB := nxt (b1 w _) hb
  clear hb X
  obtain ⟨r1, r2, r3, r4⟩ := X1.two
  go_wp2
  exact bodyPost_ret (v := .agg #[.bool true, .string (nstr v)]) (by simp [results, Tryd.results15, go_sem, (X1.set2 _ _).cel]) rfl ⟨rfl, st2 hB (Nat.le_refl _) _ _⟩
set_option maxRecDepth 100000 in
set_option maxHeartbeats 400000 in
theorem rWOf_pos (v : Nat) (w : World) (hv : v ≤ 9223372036854775807) :
    Calls Tryd.prog 15 #[.int .i64 (v : Int)] w fun e w' => e = .returned (.agg #[.bool (neg ((v : Int))), .string (mag ((v : Int)))]) ∧ Below w.heap.size w w' := by
  have hn : neg (v : Int) = false := decide_eq_false (by omega)
  have hm : mag (v : Int) = nstr v := by unfold mag; rw [Int.natAbs_natCast]
  rw [hn, hm]
  have co := Lib.hid (fun W x hx => rOf_i v x W (by rw [LB_eq]; omega) hx)
  have hcx : IntKind.u64.wrap (v : Int) = (v : Int) := by rw [IntKind.wrap_u64]; omega
  clear hn hm
  go_enter Tryd.func15, Tryd.ntmps15
  have X := Bx.new w 23 #[.bool false, .string ⟨#[]⟩]
  go_wp2_with fail
  refine (co.out _ _ rfl).mono ?_
  rintro e w1 ⟨rfl, hb⟩
  have X1 := X.later hb
  have hB := nxt (b1 w _) hb
  clear hb X
  obtain ⟨r1, r2, r3, r4⟩ := X1.two
  go_wp2
  exact bodyPost_ret (v := .agg #[.bool false, .string (nstr v)]) (by simp [results, Tryd.results15, go_sem, (X1.set2 _ _).cel]) rfl ⟨rfl, st2 hB (Nat.le_refl _) _ _⟩
theorem rWOf_any (n : Int) (w : World) (h1 : -9223372036854775808 ≤ n) (h2 : n ≤ 9223372036854775807) :
    Calls Tryd.prog 15 #[.int .i64 n] w fun e w' => e = .returned (.agg #[.bool (neg (n)), .string (mag (n))]) ∧ Below w.heap.size w w' := by
  by_cases h : n < 0
  · obtain ⟨v, rfl⟩ : ∃ v : Nat, n = -(v : Int) := ⟨n.natAbs, by omega⟩
    exact rWOf_neg v w (by omega) (by omega)
  · obtain ⟨v, rfl⟩ : ∃ v : Nat, n = (v : Int) := ⟨n.natAbs, by omega⟩
    exact rWOf_pos v w (by omega)

end Go.Proofs.YtkgogbmeehiloaaDoor

/- The walks of the document's answers for whole numbers: Add, Mul, Pow. -/
namespace Go.Proofs.YtkgogbmeehiloaaDoor
open Go.RowKit

end Go.Proofs.YtkgogbmeehiloaaDoor

