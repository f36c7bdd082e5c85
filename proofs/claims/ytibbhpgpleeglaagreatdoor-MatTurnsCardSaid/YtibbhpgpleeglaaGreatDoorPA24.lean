/- The walks and plain laws beneath the statements. -/
import Derived.Test.YtibbhpgpleeglaaGreatDoorPA9
import Derived.Test.YtibbhpgpleeglaaGreatDoorPA23
import Derived.Test.YtibbhpgpleeglaaGreatDoorPA14
namespace Go.Proofs.YtibbhpgpleeglaaGreatDoor
open Go Go.RowKit

theorem info_Num : (Tryz.prog.info? 29).map (fun i => (i.zero, i.size, i.bytes)) = some (some (.agg #[.bool false, .string ⟨#[]⟩, .int .i64 0]), 3, 32) := by kernel_rfl
theorem info_Nums : (Tryz.prog.info? 38).map (fun i => (i.zero, i.size, i.bytes)) = some (some (.slice none 0 0), 1, 24) := by kernel_rfl
theorem belB {B B' : Nat} {a w1 w2 : World} (h : Below B a w1) (h2 : Below B' w1 w2) (hle : B ≤ B') : Below B a w2 := h.trans (h2.mono hle)
/-- A number's cells. -/
def cel3 (bs : Nat → Bool) (ss : Nat → ByteArray) (es : Nat → Int) (j : Nat) : List Value := [.bool (bs j), .string (ss j), .int .i64 (es j)]
theorem cel3_one (bs : Nat → Bool) (ss : Nat → ByteArray) (es : Nat → Int) (j : Nat) (u : Value) (h : u ∈ cel3 bs ss es j) : u.oneCell' = true := by
  simp [cel3] at h
  rcases h with rfl | rfl | rfl <;> rfl
theorem cel3_len (bs : Nat → Bool) (ss : Nat → ByteArray) (es : Nat → Int) (j : Nat) : (cel3 bs ss es j).length = 3 := rfl
theorem RdK.num {w : World} {A : Option Addr} {n : Nat} {bs : Nat → Bool} {ss : Nat → ByteArray} {es : Nat → Int} (h : RdK w A n 3 (cel3 bs ss es)) : RdN w A n bs ss es := fun h0 => by
  obtain ⟨b, off, rfl, hc⟩ := h h0
  exact ⟨b, off, rfl, fun j hj => ⟨hc j hj 0 (by decide), hc j hj 1 (by decide), hc j hj 2 (by decide)⟩⟩
theorem RdN.cel {w : World} {A : Option Addr} {n : Nat} {bs : Nat → Bool} {ss : Nat → ByteArray} {es : Nat → Int} (h : RdN w A n bs ss es) : RdK w A n 3 (cel3 bs ss es) := fun h0 => by
  obtain ⟨b, off, rfl, hc⟩ := h h0
  refine ⟨b, off, rfl, fun j hj i hi => ?_⟩
  have hi' : i = 0 ∨ i = 1 ∨ i = 2 := by omega
  obtain ⟨h1, h2, h3⟩ := hc j hj
  rcases hi' with rfl | rfl | rfl
  · exact h1
  · exact h2
  · exact h3
/-- A table of numbers, read. -/
def RdM (w : World) (A : Option Addr) (n : Nat) (ms : Nat → Nat) (bs : Nat → Nat → Bool) (ss : Nat → Nat → ByteArray) (es : Nat → Nat → Int) : Prop := RdT w A n 3 ms (fun i => cel3 (bs i) (ss i) (es i))
theorem RdM.below {w w' : World} {A : Option Addr} {n : Nat} {ms : Nat → Nat} {bs : Nat → Nat → Bool} {ss : Nat → Nat → ByteArray} {es : Nat → Nat → Int} (h : RdM w A n ms bs ss es) (hb : Below w.heap.size w w') : RdM w' A n ms bs ss es := RdT.below (fun _ _ => rfl) h hb

set_option maxRecDepth 100000 in
set_option maxHeartbeats 400000 in
theorem rcheck_any (A : Option Addr) (n c : Nat) (ms : Nat → Nat) (w : World) (hn : n ≤ 4611686018427387904) (hr : RdL w A n ms) :
    Calls Tryz.prog 13 #[.slice A n c] w fun e w' => (sqB n ms → e = .returned (.int .i64 0)) ∧ (¬ sqB n ms → e = .returned (.int .i64 1)) ∧ w' = w := by
  have HR := Lib.hid hr
  clear hr
  go_enter Tryz.func13, Tryz.ntmps13
  by_cases h8 : n ≤ 8
  · have hg : ¬ (8 : Int) < (n : Int) := by omega
    go_wp2_with fail
    go_loop [3] (fun i => ∃ k : Nat, k ≤ n ∧ i = .int .i64 (k : Nat) ∧ Hid (∀ j, j < k → ms j = n)) (fun i => n - (intOf i).toNat)
    case atStart => exact ⟨0, Nat.zero_le _, rfl, Lib.hid fun j hj => absurd hj (by omega)⟩
    case round =>
      obtain ⟨k, hk, rfl, hall⟩ := hrel
      by_cases hlt : k < n
      · obtain ⟨b, off, rfl, hc⟩ := HR.out (by omega)
        obtain ⟨Ai, ci, g1⟩ := hc k hlt
        have hlti : (k : Int) < (n : Int) := by omega
        clear hc
        by_cases he : ms k = n
        · have hz : ((ms k : Int) != (n : Int)) = false := by simp [he]
          have HE := Lib.hid he
          clear he
          go_wp2
          refine ⟨⟨k + 1, by omega, by go_num, Lib.hid fun j hj => ?_⟩, by simp [intOf]; omega⟩
          by_cases e : j = k
          · subst e; exact HE.out
          · exact hall.out j (by omega)
        · have hz : ((ms k : Int) != (n : Int)) = true := by simp; omega
          have HE := Lib.hid he
          clear he
          go_wp2
          go_ret
          exact ⟨fun h => absurd (h.2 k hlt) HE.out, fun _ => rfl, rfl⟩
      · obtain rfl : k = n := by omega
        have hlti : ¬ (k : Int) < (k : Int) := by omega
        go_wp2
        go_ret
        exact ⟨fun _ => rfl, fun h => absurd ⟨h8, hall.out⟩ h, rfl⟩
  · have hg : (8 : Int) < (n : Int) := by omega
    go_wp2_with fail
    go_ret
    exact ⟨fun h => absurd h.1 h8, fun _ => rfl, rfl⟩

set_option maxRecDepth 100000 in
set_option maxHeartbeats 2000000 in
theorem mrow_any (A B : Option Addr) (n c c' : Nat) (bs : Nat → Bool) (ss : Nat → ByteArray) (es : Nat → Int) (w : World) (hn : n ≤ 1000) (hr : RdN w A n bs ss es) (hr' : RdN w B n bs ss es) :
    Calls Tryz.prog 20 #[.slice A n c, .slice B n c'] w fun e w' => e = .returned (.bool true) ∧ Below w.heap.size w w' := by
  have HR := Lib.hid hr
  have HR' := Lib.hid hr'
  clear hr hr'
  go_enter Tryz.func20, Tryz.ntmps20
  go_wp2_with fail
  go_loopw [5] (fun i wr => ∃ k : Nat, k ≤ n ∧ i = .int .i64 (k : Nat) ∧ Below w.heap.size w wr) (fun i _ => n - (RowKit.intOf i).toNat)
  case atStart => exact ⟨0, Nat.zero_le _, rfl, Below.refl _ _⟩
  case round =>
    obtain ⟨k, hk, rfl, hB⟩ := hrel
    by_cases hlt : k < n
    · obtain ⟨b, off, rfl, hc⟩ := HR.out (by omega)
      obtain ⟨b', off', rfl, hc'⟩ := HR'.out (by omega)
      have g1 := cell_later hB (hc k hlt).1
      have g2 := cell_later hB (hc k hlt).2.1
      have g3 := cell_later hB (hc k hlt).2.2
      have g4 := cell_later hB (hc' k hlt).1
      have g5 := cell_later hB (hc' k hlt).2.1
      have g6 := cell_later hB (hc' k hlt).2.2
      clear hc hc'
      obtain ⟨I, hI⟩ : ∃ I : Int, I = (k : Int) := ⟨_, rfl⟩
      rw [← hI]
      have HI := Lib.hid hI
      have i1 : I < (n : Int) := by omega
      have i3 : 0 ≤ I := by omega
      have i4 : I.toNat = k := by omega
      have i9 : I ≤ 1000000 := by omega
      clear hI
      generalize bs k = bb at *
      generalize ss k = sb at *
      generalize es k = eb at *
      have HQ := fun W => num_neq1 W (.tmp 20) (.tmp 24) bb sb eb
      go_wp2_with fail
      go_region_held3 (fun w' => w'.cell? ⟨b, off + k * 3, none⟩ = some (.bool bb) ∧ w'.cell? ⟨b, off + k * 3 + 1, none⟩ = some (.string sb) ∧ w'.cell? ⟨b, off + k * 3 + 2, none⟩ = some (.int .i64 eb) ∧ w'.cell? ⟨b', off' + k * 3, none⟩ = some (.bool bb) ∧ w'.cell? ⟨b', off' + k * 3 + 1, none⟩ = some (.string sb) ∧ w'.cell? ⟨b', off' + k * 3 + 2, none⟩ = some (.int .i64 eb)) (first | exact ⟨g1, g2, g3, g4, g5, g6⟩)
        (first | fail)
      go_wp2
      exact ⟨⟨k + 1, by omega, by rw [HI.out]; go_num, hB.drew⟩, by simp [RowKit.intOf]; omega⟩
    · obtain rfl : k = n := by omega
      have hlti : ¬ (k : Int) < (k : Int) := by omega
      go_wp2
      go_ret
      exact ⟨rfl, hB⟩

set_option maxRecDepth 100000 in
set_option maxHeartbeats 2000000 in
theorem msame_any (A B : Option Addr) (n c c' : Nat) (ms : Nat → Nat) (bs : Nat → Nat → Bool) (ss : Nat → Nat → ByteArray) (es : Nat → Nat → Int) (w : World) (hn : n ≤ 1000) (hm : ∀ i, i < n → ms i ≤ 1000) (hr : RdM w A n ms bs ss es) (hr' : RdM w B n ms bs ss es) :
    Calls Tryz.prog 14 #[.slice A n c, .slice B n c'] w fun e w' => e = .returned (.bool true) ∧ Below w.heap.size w w' := by
  have HR := Lib.hid hr
  have HR' := Lib.hid hr'
  have HM := Lib.hid hm
  clear hr hr' hm
  go_enter Tryz.func14, Tryz.ntmps14
  go_wp2_with fail
  go_loopw [5] (fun i wr => ∃ k : Nat, k ≤ n ∧ i = .int .i64 (k : Nat) ∧ Below w.heap.size w wr) (fun i _ => n - (RowKit.intOf i).toNat)
  case atStart => exact ⟨0, Nat.zero_le _, rfl, Below.refl _ _⟩
  case round =>
    obtain ⟨k, hk, rfl, hB⟩ := hrel
    by_cases hlt : k < n
    · obtain ⟨b, off, rfl, hc⟩ := (HR.out.below hB) (by omega)
      obtain ⟨b', off', rfl, hc'⟩ := (HR'.out.below hB) (by omega)
      obtain ⟨Ai, ci, _, _, g1, hi1⟩ := hc k hlt
      obtain ⟨Bi, di, _, _, g2, hi2⟩ := hc' k hlt
      have c1 := Lib.hid (mrow_any Ai Bi (ms k) ci di (bs k) (ss k) (es k) wr.drew (HM.out k hlt) hi1.num hi2.num)
      clear hc hc' hi1 hi2
      obtain ⟨I, hI⟩ : ∃ I : Int, I = (k : Int) := ⟨_, rfl⟩
      rw [← hI]
      have HI := Lib.hid hI
      have i1 : I < (n : Int) := by omega
      have i3 : 0 ≤ I := by omega
      have i4 : I.toNat = k := by omega
      have i9 : I ≤ 1000000 := by omega
      clear hI
      go_wp2_with fail
      go_region_held3 (fun w' => w'.cell? ⟨b, off + k, none⟩ = some (.slice Ai (ms k) ci) ∧ w'.cell? ⟨b', off' + k, none⟩ = some (.slice Bi (ms k) di)) (first | exact ⟨g1, g2⟩ | exact ⟨cell_later ha g1, cell_later ha g2⟩)
        (first
          | (go_at_call 20; refine c1.out.mono ?_; rintro e wa ⟨rfl, ha'⟩; have ha := undrew ha'; clear ha'))
      go_wp2
      exact ⟨⟨k + 1, by omega, by rw [HI.out]; go_num, nxt hB ha⟩, by rw [HI.out]; simp [RowKit.intOf]; omega⟩
    · obtain rfl : k = n := by omega
      have hlti : ¬ (k : Int) < (k : Int) := by omega
      go_wp2
      go_ret
      exact ⟨rfl, hB⟩
end Go.Proofs.YtibbhpgpleeglaaGreatDoor

namespace Go.Proofs.YtibbhpgpleeglaaGreatDoor
open Go Go.RowKit

def OwnM (w : World) (base : Nat) (v : Value) (n : Nat) (ms : Nat → Nat) (bs : Nat → Nat → Bool) (ss : Nat → Nat → ByteArray) (es : Nat → Nat → Int) : Prop := OwnT w base 38 3 v n ms (fun i => cel3 (bs i) (ss i) (es i))
theorem OwnM.below {w w' : World} {base : Nat} {v : Value} {n : Nat} {ms : Nat → Nat} {bs : Nat → Nat → Bool} {ss : Nat → Nat → ByteArray} {es : Nat → Nat → Int} (h : OwnM w base v n ms bs ss es) (hb : Below w.heap.size w w') : OwnM w' base v n ms bs ss es := OwnT.below (fun _ _ => rfl) h hb
set_option maxRecDepth 100000 in
set_option maxHeartbeats 2000000 in
theorem mown_own (A : Option Addr) (n c : Nat) (ms : Nat → Nat) (bs : Nat → Nat → Bool) (ss : Nat → Nat → ByteArray) (es : Nat → Nat → Int) (w : World) (hn : n ≤ 1000) (hm : ∀ i, i < n → ms i ≤ 1000) (hr : RdM w A n ms bs ss es) :
    Calls Tryz.prog 9 #[.slice A n c] w fun e w' => (∃ v, e = .returned v ∧ OwnM w' w.heap.size v n ms bs ss es) ∧ Below w.heap.size w w' := by
  have HR := Lib.hid hr
  have HM := Lib.hid hm
  clear hr hm
  go_enter Tryz.func9, Tryz.ntmps9
  go_wp2_with fail
  go_loopw [3, 4] (fun v i wr => ∃ k : Nat, k ≤ n ∧ i = .int .i64 (k : Nat) ∧ OwnM wr w.heap.size v k ms bs ss es ∧ Below w.heap.size w wr) (fun _ i _ => n - (RowKit.intOf i).toNat)
  case atStart => exact ⟨0, Nat.zero_le _, rfl, OwnT.nil_ _ _ _ _ _ _, Below.refl _ _⟩
  case round =>
    obtain ⟨k, hk, rfl, hown, hB⟩ := hrel
    by_cases hlt : k < n
    · obtain ⟨b, off, rfl, hc⟩ := (HR.out.below hB) (by omega)
      obtain ⟨Ai, ci, _, hAi, g1, hi1⟩ := hc k hlt
      have hlti : (k : Int) < (n : Int) := by omega
      have hmk := HM.out k hlt
      have ho := own_new0 wr 29 3 wr.heap.size (Nat.le_refl _) (cel3 (bs k) (ss k) (es k))
      have hr1 : RdK (wr.alloc (.cells #[] 29)) Ai (ms k) 3 (cel3 (bs k) (ss k) (es k)) := hi1.below (cel3_len _ _ _) (b1 wr _)
      have hown1 := hown.below (b1 wr (.cells #[] 29))
      have hB1 := nxtA hB (.cells #[] 29)
      have hvl := OwnT.lt hown
      have HS := Lib.hid (And.intro hown1 (And.intro hB1 (And.intro hown hB)))
      have HI := Lib.hid hi1
      replace g1 := cell_later (b1 wr (.cells #[] 29)) g1
      clear hc hown1 hB1 hown hB hi1
      have hsz : wr.heap.size ≤ (wr.alloc (.cells #[] 29)).heap.size := by simp
      go_wp2_with (first
        | (at_builtin; refine wpList_appendRow rfl (.tmp 12) (.tmp 16) _ rfl wr.heap.size 29 _ 3 32 Tryz.underlying38 info_Num rfl (by decide) _ rfl (cel3 (bs k) (ss k) (es k)) (fun _ => rfl) ho Ai (ms k) ci (cel3_one _ _ _) rfl hAi hr1 (by omega) (by omega) hsz ?_; intro v' w5 ho' hb5; obtain ⟨A', c', rfl, hnc, hrd, hba, hno⟩ := OwnK.rd (k := 3) (fun _ => rfl) ho')
        | (at_builtin
           obtain ⟨_, hB1, hown, hB⟩ := HS.out
           have hB5 := nxt hB (belB (b1 wr (.cells #[] 29)) hb5 (Nat.le_refl _))
           have hown5 := hown.below (belB (b1 wr (.cells #[] 29)) hb5 (Nat.le_refl _))
           have hap := ho'.apart (u := _) (fun g hg => (hvl g hg).2) rfl
           have hown6 := hown5.below (b1 w5 (.cells #[.slice A' (ms k) c'] 38))
           have hrd6 := hrd.below (cel3_len _ _ _) (b1 w5 (.cells #[.slice A' (ms k) c'] 38))
           have Z := (Bx.new w5 38 #[.slice A' (ms k) c']).cel 0
           have hap6 : ∀ a, A' = some a → a.block < (w5.alloc (.cells #[.slice A' (ms k) c'] 38)).heap.size ∧ _ := fun a ha => ⟨Nat.lt_of_lt_of_le (hap a ha).1 (by simp), (hap a ha).2⟩
           have hsz6 : w.heap.size ≤ (w5.alloc (.cells #[.slice A' (ms k) c'] 38)).heap.size := by have := hB5.size; simp; omega
           have h63 : k + 1 ≤ 9223372036854775807 := by omega
           have hby : (k + 1) * 24 ≤ 140737488355328 := by omega
           have HB := Lib.hid hB5
           clear hB1 hown hB hown5 hrd hba hap ho' hb5 hB5 HS hr1 ho hvl HI
           refine wpList_appendT rfl (.tmp 11) (.tmp 18) _ rfl w.heap.size 38 (.slice none 0 0) 3 24 Tryz.underlying22 info_Nums rfl _ k ms (fun i => cel3 (bs i) (ss i) (es i)) (fun _ _ => rfl) rfl hown6 ⟨w5.heap.size, 0, none⟩ rfl rfl A' c' Z hnc hno hrd6 hap6 h63 hby hsz6 ?_; intro v2 w7 ho2 hb7))
      have hB8 := belB (nxtA HB.out (.cells #[.slice A' (ms k) c'] 38)) hb7 (Nat.le_refl _)
      clear hown6 hrd6 Z hap6
      go_wp2
      exact ⟨⟨k + 1, by omega, by go_num, ho2, hB8⟩, by simp [RowKit.intOf]; omega⟩
    · obtain rfl : k = n := by omega
      have hlti : ¬ (k : Int) < (k : Int) := by omega
      go_wp2
      go_ret
      exact ⟨⟨_, rfl, hown⟩, hB⟩
theorem mown_any (A : Option Addr) (n c : Nat) (ms : Nat → Nat) (bs : Nat → Nat → Bool) (ss : Nat → Nat → ByteArray) (es : Nat → Nat → Int) (w : World) (hn : n ≤ 1000) (hm : ∀ i, i < n → ms i ≤ 1000) (hr : RdM w A n ms bs ss es) :
    Calls Tryz.prog 9 #[.slice A n c] w fun e w' => (∃ B d, e = .returned (.slice B n d) ∧ RdM w' B n ms bs ss es) ∧ Below w.heap.size w w' :=
  (mown_own A n c ms bs ss es w hn hm hr).mono fun e w' ⟨⟨v, h1, h2⟩, hb⟩ => by
    obtain ⟨B, d, rfl, _, hrd, _⟩ := OwnT.rd h2
    exact ⟨⟨B, d, h1, hrd⟩, hb⟩
end Go.Proofs.YtibbhpgpleeglaaGreatDoor

namespace Go.Proofs.YtibbhpgpleeglaaGreatDoor
open Go Go.RowKit

theorem nil_eq (W : World) : (binOp .eql 38 (.slice none 0 0) (.slice none 0 0)).run Tryz.prog W = .ok (.bool true) W := by kernel_rfl
theorem nil_ne (a : Addr) (n c : Nat) (W : World) : (binOp .eql 38 (.slice (some a) n c) (.slice none 0 0)).run Tryz.prog W = .ok (.bool false) W := by kernel_rfl
set_option maxRecDepth 100000 in
set_option maxHeartbeats 1000000 in
theorem mclone_any (A : Option Addr) (n c : Nat) (bs : Nat → Bool) (ss : Nat → ByteArray) (es : Nat → Int) (w : World) (hn : n ≤ 1000) (hA : A = none → n = 0 ∧ c = 0) (hr : RdN w A n bs ss es) :
    Calls Tryz.prog 55 #[.slice A n c] w fun e w' => (∃ v, e = .returned v ∧ OwnK w' w.heap.size 29 3 v n (cel3 bs ss es)) ∧ Below w.heap.size w w' := by
  go_enter Tryz.func55, Tryz.ntmps55
  rcases A with _ | a
  · obtain ⟨rfl, rfl⟩ := hA rfl
    go_wp2
    rw [nil_eq]
    simp only [Result.andThen_ok]
    go_wp2
    go_ret
    exact ⟨⟨_, rfl, OwnK.nil_ _ _ _ _ _⟩, Below.refl _ _⟩
  · have ho := own_new0 w 29 3 w.heap.size (Nat.le_refl _) (cel3 bs ss es)
    have hr1 : RdK (w.alloc (.cells #[] 29)) (some a) n 3 (cel3 bs ss es) := hr.cel.below (cel3_len _ _ _) (b1 w _)
    have hsz : w.heap.size ≤ (w.alloc (.cells #[] 29)).heap.size := by simp
    go_wp2
    rw [nil_ne]
    simp only [Result.andThen_ok]
    go_wp2_with (at_builtin; refine wpList_appendRow rfl (.tmp 5) (.tmp 6) _ rfl w.heap.size 29 _ 3 32 Tryz.underlying38 info_Num rfl (by decide) _ rfl (cel3 bs ss es) (fun _ => rfl) ho (some a) n c (cel3_one _ _ _) rfl hA hr1 (by omega) (by omega) hsz ?_; intro v' w5 ho' hb5)
    go_ret
    exact ⟨⟨_, rfl, ho'⟩, belB (b1 w (.cells #[] 29)) hb5 (Nat.le_refl _)⟩
end Go.Proofs.YtibbhpgpleeglaaGreatDoor

