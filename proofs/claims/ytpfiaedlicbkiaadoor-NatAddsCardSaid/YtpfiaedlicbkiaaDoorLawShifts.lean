/- The walks of ogeelaw01.NatShifts, NatAdds: each answers true. -/
import Derived.Test.YtpfiaedlicbkiaaDoorLawForms
namespace Go.Proofs.YtpfiaedlicbkiaaDoor
open Go.RowKit

set_option maxRecDepth 100000 in
set_option maxHeartbeats 1000000 in
theorem natShifts_any (a : ByteArray) (n : Int) (w : World) (hn' : (Lit.int IntKind.i64 n).wf = true) (hT : TabAt 0 Lib.deBruijn64tab w) :
    Calls Tryd.prog 8 #[.string a, .int .i64 n] w fun e w' => e = .returned (.bool true) ∧ Below w.heap.size w w' := by
  have hn : -9223372036854775808 ≤ n ∧ n ≤ 9223372036854775807 := by simpa [Lit.wf, IntKind.min, IntKind.max, IntKind.signed, IntKind.bits] using hn'
  have HA := Lib.hid (fun W (h : Below w.heap.size w W) => awake_any W (tab_keep hT h))
  have hB := Below.refl w.heap.size w
  clear hT hn'
  by_cases h1 : 200 < a.size
  · clear hn
    go_enter Tryd.func8, Tryd.ntmps8
    go_wp2_with (go_at_call 12; refine (HA.out _ hB).mono ?_; rintro e wn ⟨rfl, hb⟩)
    go_ret
    exact ⟨rfl, hb⟩
  have z1 : a.size ≤ 200 := by omega
  have cU := Lib.hid (fun W => nShr_any a n W (by omega) (by omega))
  have cV := Lib.hid (fun W => rShr_any a n W (by omega) (by omega))
  clear h1 hn
  by_cases h2 : n ≤ 3000
  · have cS := Lib.hid (fun W => nShl_any a n W (by omega) (by omega))
    have cT := Lib.hid (fun W => rShl_any a n W (by omega) (by omega))
    go_enter Tryd.func8, Tryd.ntmps8
    go_wp2_with (first
      | (go_at_call 32; refine (cS.out _).mono ?_; rintro e wn ⟨rfl, hb⟩; replace hB := below_bel hB hb hB.size)
      | (go_at_call 33; refine (cT.out _).mono ?_; rintro e wn ⟨rfl, hb⟩; replace hB := below_bel hB hb hB.size)
      | (go_at_call 34; refine (cU.out _).mono ?_; rintro e wn ⟨rfl, hb⟩; replace hB := below_bel hB hb hB.size)
      | (go_at_call 35; refine (cV.out _).mono ?_; rintro e wn ⟨rfl, hb⟩; replace hB := below_bel hB hb hB.size)
      | (go_at_call 12; refine (HA.out _ hB).mono ?_; rintro e wn ⟨rfl, hb⟩; replace hB := below_bel hB hb hB.size))
    go_ret
    exact ⟨rfl, hB⟩
  · go_enter Tryd.func8, Tryd.ntmps8
    go_wp2_with (first
      | (go_at_call 34; refine (cU.out _).mono ?_; rintro e wn ⟨rfl, hb⟩; replace hB := below_bel hB hb hB.size)
      | (go_at_call 35; refine (cV.out _).mono ?_; rintro e wn ⟨rfl, hb⟩; replace hB := below_bel hB hb hB.size)
      | (go_at_call 12; refine (HA.out _ hB).mono ?_; rintro e wn ⟨rfl, hb⟩; replace hB := below_bel hB hb hB.size))
    go_ret
    exact ⟨rfl, hB⟩

set_option maxRecDepth 100000 in
set_option maxHeartbeats 1000000 in
theorem natAdds_any (A : Option Addr) (n c : Nat) (ss : Nat → ByteArray) (w : World) (hr : Rd w A n fun j => .string (ss j)) (hT : TabAt 0 Lib.deBruijn64tab w) :
    Calls Tryd.prog 5 #[.slice A n c] w fun e w' => e = .returned (.bool true) ∧ Below w.heap.size w w' := by
  have HA := Lib.hid (fun W (h : Below w.heap.size w W) => awake_any W (tab_keep hT h))
  have hB := Below.refl w.heap.size w
  clear hT
  by_cases h1 : 50 < n
  · go_enter Tryd.func5, Tryd.ntmps5
    go_wp2_with (go_at_call 12; refine (HA.out _ hB).mono ?_; rintro e wn ⟨rfl, hb⟩)
    go_ret
    exact ⟨rfl, hb⟩
  have z1 : n ≤ 50 := by omega
  clear h1
  go_enter Tryd.func5, Tryd.ntmps5
  go_wp2_with fail
  go_loop [3] (fun i => ∃ k : Nat, k ≤ n ∧ i = .int .i64 (k : Nat) ∧ Hid (∀ j, j < k → (ss j).size ≤ 200)) (fun i => n - (intOf i).toNat)
  case atStart => exact ⟨0, Nat.zero_le _, rfl, fun j hj => by omega⟩
  case round =>
    obtain ⟨k, hk, rfl, hz⟩ := hrel
    by_cases hlt : k < n
    · obtain ⟨b, off, rfl, hc⟩ := hr (by omega)
      have g1 : w.cell? ⟨b, off + k, none⟩ = some (.string (ss k)) := hc k hlt
      clear hc hr
      by_cases h2 : 200 < (ss k).size
      · go_wp2_with (go_at_call 12; refine (HA.out _ hB).mono ?_; rintro e wn ⟨rfl, hb⟩)
        go_ret
        exact ⟨rfl, hb⟩
      · go_wp2_with fail
        refine ⟨⟨k + 1, hlt, by go_num, fun j hj => ?_⟩, by simp [intOf]; omega⟩
        by_cases e : j = k
        · subst e; omega
        · exact hz.out j (by omega)
    · obtain rfl : k = n := by omega
      have hr2 : Rd w A k (fun j => .string (if j < k then ss j else ⟨#[]⟩)) := hr.congr fun j hj => by rw [if_pos hj]
      have hs2 : ∀ j, (if j < k then ss j else (⟨#[]⟩ : ByteArray)).size ≤ 200 := fun j => by
        split
        · exact hz.out j ‹_›
        · exact Nat.zero_le _
      have cS := Lib.hid (nAdd_any A k c _ w (by omega) (fun j => Nat.le_trans (hs2 j) (by decide)) hr2)
      have cT := Lib.hid (fun W (h : Below w.heap.size w W) => rAdd_any A k c _ W (by omega) (fun j => Nat.le_trans (hs2 j) (by decide)) (hr2.below h))
      clear hr2 hs2 hr
      go_wp2_with (first
        | (go_at_call 26; refine cS.out.mono ?_; rintro e wn ⟨rfl, hb⟩; replace hB := below_bel hB hb hB.size)
        | (go_at_call 27; refine (cT.out _ hB).mono ?_; rintro e wn ⟨rfl, hb⟩; replace hB := below_bel hB hb hB.size)
        | (go_at_call 12; refine (HA.out _ hB).mono ?_; rintro e wn ⟨rfl, hb⟩; replace hB := below_bel hB hb hB.size))
      go_ret
      exact ⟨rfl, hB⟩
end Go.Proofs.YtpfiaedlicbkiaaDoor
