/- The walks and plain laws beneath the statements. -/
import Derived.Test.YtkgogbmeehiloaaGreatDoorPK31
import Derived.Test.YtkgogbmeehiloaaGreatDoorPK32
import Derived.Test.YtkgogbmeehiloaaGreatDoorPK27
import Derived.Test.YtkgogbmeehiloaaGreatDoorPK33
namespace Go.Proofs.YtkgogbmeehiloaaGreatDoor
open Go Go.RowKit Go.Lib

theorem lPrint_any (b : Bool) (s : ByteArray) (e : Int) (W : World) (hs : s.size ≤ 1000) (he : -100000 ≤ e ∧ e ≤ 100000) (hT : Tab0 W) (h10 : Tab10 W) : Calls Tryz.prog 17 #[.agg #[.bool b, .string s, .int .i64 e]] W fun r w' => r = .returned (.string (ntext (dy (ival b (sval s)) e))) ∧ Below W.heap.size W w' := (lprint_r hs he W hT h10).at
/-- A row's text. -/
def rowL (xs : Nat → Dyadic) (n : Nat) : List UInt8 := join ((List.range n).map fun j => ntL (xs j)) [32]
def rowT (xs : Nat → Dyadic) (n : Nat) : ByteArray := ⟨(rowL xs n).toArray⟩
theorem join_snoc (l : List (List UInt8)) (x sep : List UInt8) (h : l ≠ []) : join (l ++ [x]) sep = join l sep ++ sep ++ x := by
  unfold join
  induction l with
  | nil => exact absurd rfl h
  | cons a l ih =>
    cases l with
    | nil => simp [List.intercalate]
    | cons b l =>
      have h2 := ih (by simp)
      simp only [List.intercalate, List.cons_append, List.intersperse_cons_cons, List.flatten_cons] at h2 ⊢
      rw [h2]; simp
theorem rowL_one (xs : Nat → Dyadic) : rowL xs 1 = ntL (xs 0) := by simp [rowL, join, List.range_succ]
theorem rowL_succ (xs : Nat → Dyadic) (n : Nat) : rowL xs (n + 2) = rowL xs (n + 1) ++ [32] ++ ntL (xs (n + 1)) := by
  unfold rowL
  rw [List.range_succ, List.map_append]
  exact join_snoc _ _ _ (by simp [List.range_succ])
theorem ntext_size {b : Bool} {s : ByteArray} {e : Int} (hs : s.size ≤ 1000) (he : -100000 ≤ e ∧ e ≤ 100000) : (ntext (dy (ival b (sval s)) e)).size ≤ 4000 := by
  have h1 := zt_bsz (dm_bsz (b := b) (e := e) hs)
  have h2 := zt_small (de_small (b := b) hs he)
  unfold ztext at h1 h2
  rw [ba_size] at h1 h2
  unfold ntext ntL
  rw [ba_size]
  split
  · omega
  · rw [List.length_append, List.length_cons]; omega
theorem rowL_len' (xs : Nat → Dyadic) : ∀ n, (∀ j, j < n → (ntext (xs j)).size ≤ 4000) → (rowL xs n).length ≤ 4001 * n
  | 0, _ => Nat.le_refl _
  | 1, h => by have := h 0 (by omega); unfold ntext at this; rw [ba_size] at this; rw [rowL_one]; omega
  | n + 2, h => by
    have h1 := rowL_len' xs (n + 1) (fun j hj => h j (by omega))
    have h2 := h (n + 1) (by omega)
    unfold ntext at h2; rw [ba_size] at h2
    rw [rowL_succ, List.length_append, List.length_append]
    simp; omega
def rowB (xs : Nat → Dyadic) (n : Nat) : List ByteArray := (List.range n).map fun j => ntext (xs j)
theorem rowB_len (xs : Nat → Dyadic) (n : Nat) : (rowB xs n).length = n := by simp [rowB]
theorem rowB_at {xs : Nat → Dyadic} {n j : Nat} {x : ByteArray} (h : (rowB xs n)[j]? = some x) : j < n ∧ x = ntext (xs j) := by
  unfold rowB at h
  rw [List.getElem?_map] at h
  rcases Nat.lt_or_ge j n with hj | hj
  · rw [List.getElem?_range hj] at h
    exact ⟨hj, by injection h with h; exact h.symm⟩
  · rw [List.getElem?_eq_none (by simpa using hj)] at h
    simp at h
theorem rowB_join (xs : Nat → Dyadic) (n : Nat) : (⟨(Lib.join ((rowB xs n).map (·.data.toList)) (⟨#[32]⟩ : ByteArray).data.toList).toArray⟩ : ByteArray) = rowT xs n := by
  unfold rowB rowT rowL
  rw [List.map_map]
  rfl
theorem rowB_join' (xs : Nat → Dyadic) (n : Nat) : Lib.join ((rowB xs n).map (·.data.toList)) (⟨#[32]⟩ : ByteArray).data.toList = rowL xs n := by
  unfold rowB rowL
  rw [List.map_map]
  rfl
def xsOf (bs : Nat → Bool) (ss : Nat → ByteArray) (es : Nat → Int) (j : Nat) : Dyadic := dy (ival (bs j) (sval (ss j))) (es j)

set_option maxRecDepth 100000 in
set_option maxHeartbeats 2000000 in
theorem lRow_any (A : Option Addr) (n c : Nat) (bs : Nat → Bool) (ss : Nat → ByteArray) (es : Nat → Int) (w : World) (hn : n ≤ 1000) (hs : ∀ j, j < n → (ss j).size ≤ 1000) (he : ∀ j, j < n → -100000 ≤ es j ∧ es j ≤ 100000) (hr : RdN w A n bs ss es) (hT : Tab0 w) (h10 : Tab10 w) :
    Calls Tryz.prog 19 #[.slice A n c] w fun e w' => e = .returned (.string (rowT (xsOf bs ss es) n)) ∧ Below w.heap.size w w' := by
  have cP := Lib.hid (fun (j : Nat) W (h : j < n) (hb : Below w.heap.size w W) => lPrint_any (bs j) (ss j) (es j) W (hs j h) (he j h) (tab_keep hT hb) (h10.later hb))
  have HS := Lib.hid hs
  have HE := Lib.hid he
  have HR := Lib.hid hr
  clear hs he hT h10 hr
  go_enter Tryz.func19, Tryz.ntmps19
  go_wp2_with fail
  go_loopw [3, 8] (fun out i wr => ∃ k : Nat, k ≤ n ∧ i = .int .i64 (k : Nat) ∧ OwnR wr w.heap.size 9 out k (fun j => .string (ntext (xsOf bs ss es j))) ∧ Below w.heap.size w wr) (fun _ i _ => n - (RowKit.intOf i).toNat)
  case atStart => exact ⟨0, Nat.zero_le _, rfl, OwnR.nil_ _ _ _ _, Below.refl _ _⟩
  case round =>
    obtain ⟨k, hk, rfl, hown, hB⟩ := hrel
    by_cases hlt : k < n
    · obtain ⟨b, off, rfl, hc⟩ := HR.out (by omega)
      have g1 := cell_later hB (hc k hlt).1
      have g2 := cell_later hB (hc k hlt).2.1
      have g3 := cell_later hB (hc k hlt).2.2
      have hlti : (k : Int) < (n : Int) := by omega
      have h63 : k + 1 ≤ 9223372036854775807 := by omega
      have hby : (k + 1) * 16 ≤ 140737488355328 := by omega
      have c1 := Lib.hid (fun W hb => cP.out k W hlt hb)
      clear hc
      have HT := Lib.hid (show ntext (dy (ival (bs k) (sval (ss k))) (es k)) = ntext (xsOf bs ss es k) from rfl)
      generalize ntext (dy (ival (bs k) (sval (ss k))) (es k)) = tx at *
      generalize bs k = bb at *
      generalize ss k = sb at *
      generalize es k = eb at *
      go_upto_region 5 with (fail)
      replace hB := nxtA hB (.cells #[.bool bb, .string sb, .int .i64 eb] 38)
      have hown1 := hown.below (b1 wr (.cells #[.bool bb, .string sb, .int .i64 eb] 38)) (Nat.le_refl _)
      obtain ⟨q0, q1, q2, _⟩ := (Bx.new wr 38 #[.bool bb, .string sb, .int .i64 eb]).three
      clear hown
      go_wp2_with fail
      refine (c1.out _ hB).mono ?_
      rintro e w4 ⟨rfl, hb⟩
      replace hB := nxt hB hb
      have hown2 := hown1.below hb (Nat.le_refl _)
      clear hb hown1 c1
      go_wp2_with (at_builtin; refine wpList_append1 rfl (.tmp 12) (.tmp 15) _ rfl w.heap.size 9 (.string ⟨#[]⟩) 16 Tryz.underlying66 info_str rfl _ k (fun j => .string (ntext (xsOf bs ss es j))) _ rfl rfl hown2 rfl h63 hby hB.size ?_; intro v' w5 hown3 hB2 hg2)
      refine ⟨⟨k + 1, by omega, rfl, hown3.congr fun j hj => ?_, hB.trans hB2⟩, by simp only [RowKit.intOf]; omega⟩
      show (if j = k then _ else _) = _
      by_cases e : j = k
      · subst e; rw [if_pos rfl]; exact congrArg Value.string HT.out
      · rw [if_neg e]
    · have hkn : k = n := by omega
      subst hkn
      have hlti : ¬ (k : Int) < (k : Int) := by omega
      obtain ⟨A', c', rfl, hkc, hrd, hbe⟩ := hown.rd
      clear cP HR
      by_cases h0 : k = 0
      · subst h0
        have cj := Lib.hid (fun W => Tryz.strings_Join_none A' c' ⟨#[32]⟩ W)
        go_wp2_with fail
        refine (cj.out _).mono ?_
        rintro e w8 ⟨rfl, rfl⟩
        go_wp2
        go_ret
        exact ⟨rfl, hB⟩
      · obtain ⟨b, off, rfl, hc⟩ := hrd (by omega)
        have hlt : b < wr.heap.size := cell_lt (hc 0 (by omega))
        have hX := rowB_len (xsOf bs ss es) k
        have cj := Lib.hid (Tryz.strings_Join b off c' (rowB (xsOf bs ss es) k) ⟨#[32]⟩ wr (fun j x h => by
          obtain ⟨hj, rfl⟩ := rowB_at h
          exact hc j hj) hlt (by rw [hX]; omega) (by rw [hX]; exact hkc) (by
          rw [rowB_join']
          have h1 := rowL_len' (xsOf bs ss es) k (fun j hj => ntext_size (HS.out j hj) (HE.out j hj))
          show (rowL _ _).length ≤ _
          omega))
        rw [hX, rowB_join] at cj
        clear hc hrd
        go_wp2_with fail
        refine cj.out.mono ?_
        rintro e w8 ⟨rfl, hb⟩
        go_wp2
        go_ret
        exact ⟨rfl, nxt hB hb⟩
end Go.Proofs.YtkgogbmeehiloaaGreatDoor

namespace Go.Proofs.YtkgogbmeehiloaaGreatDoor
open Go Go.RowKit Go.Lib

set_option maxRecDepth 100000 in
set_option maxHeartbeats 2000000 in
theorem same_any (A B : Option Addr) (n c c' : Nat) (bs : Nat → Bool) (ss : Nat → ByteArray) (es : Nat → Int) (w : World) (hn : n ≤ 1000) (hr : RdN w A n bs ss es) (hr' : RdN w B n bs ss es) :
    Calls Tryz.prog 21 #[.slice A n c, .slice B n c'] w fun e w' => e = .returned (.bool true) ∧ Below w.heap.size w w' := by
  have HR := Lib.hid hr
  have HR' := Lib.hid hr'
  clear hr hr'
  go_enter Tryz.func21, Tryz.ntmps21
  go_wp2_with fail
  go_loopw [5] (fun i wr => ∃ k : Nat, k ≤ n ∧ i = .int .i64 (k : Nat) ∧ Below w.heap.size w wr) (fun i _ => n - (RowKit.intOf i).toNat)
  case atStart => exact ⟨0, Nat.zero_le _, rfl, Below.refl _ _⟩
  case round =>
    obtain ⟨k, hk, rfl, hB⟩ := hrel
    by_cases hlt : k < n
    · obtain ⟨b, off, rfl, hc⟩ := HR.out (by omega)
      obtain ⟨b', off', rfl, hc'⟩ := HR'.out (by omega)
      have g1 := cell_later hB (hc k hlt).1
      have g2 := cell_later hB (hc k hlt).2.1
      have g3 := cell_later hB (hc k hlt).2.2
      have g4 := cell_later hB (hc' k hlt).1
      have g5 := cell_later hB (hc' k hlt).2.1
      have g6 := cell_later hB (hc' k hlt).2.2
      have hlti : (k : Int) < (n : Int) := by omega
      clear hc hc'
      obtain ⟨I, hI⟩ : ∃ I : Int, I = (k : Int) := ⟨_, rfl⟩
      rw [← hI]
      have HI := Lib.hid hI
      have i1 : I < (n : Int) := by omega
      have i3 : 0 ≤ I := by omega
      have i4 : I.toNat = k := by omega
      have i9 : I ≤ 1000000 := by omega
      clear hI hlti
      generalize bs k = bb at *
      generalize ss k = sb at *
      generalize es k = eb at *
      have HQ := fun W => num_neq1 W (.tmp 20) (.tmp 24) bb sb eb
      go_wp2_with fail
      go_region_held3 (fun w' => w'.cell? ⟨b, off + k * 3, none⟩ = some (.bool bb) ∧ w'.cell? ⟨b, off + k * 3 + 1, none⟩ = some (.string sb) ∧ w'.cell? ⟨b, off + k * 3 + 2, none⟩ = some (.int .i64 eb) ∧ w'.cell? ⟨b', off' + k * 3, none⟩ = some (.bool bb) ∧ w'.cell? ⟨b', off' + k * 3 + 1, none⟩ = some (.string sb) ∧ w'.cell? ⟨b', off' + k * 3 + 2, none⟩ = some (.int .i64 eb)) (first | exact ⟨g1, g2, g3, g4, g5, g6⟩)
        (first | fail)
      go_wp2
      exact ⟨⟨k + 1, by omega, by rw [HI.out]; go_num, hB.drew⟩, by simp [RowKit.intOf]; omega⟩
    · obtain rfl : k = n := by omega
      have hlti : ¬ (k : Int) < (k : Int) := by omega
      go_wp2
      go_ret
      exact ⟨rfl, hB⟩
end Go.Proofs.YtkgogbmeehiloaaGreatDoor

