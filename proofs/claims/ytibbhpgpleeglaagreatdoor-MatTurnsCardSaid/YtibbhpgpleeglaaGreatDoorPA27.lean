/- The walks and plain laws beneath the statements. -/
import Derived.Test.YtibbhpgpleeglaaGreatDoorPA26
import Derived.Test.YtibbhpgpleeglaaGreatDoorPA23
namespace Go.Proofs.YtibbhpgpleeglaaGreatDoor
open Go Go.RowKit

/-- How many are left of the first k. -/
def dn (r k : Nat) : Nat := if k ≤ r then k else k - 1
theorem dn_lt {r k : Nat} (h : k < r) : dn r (k + 1) = dn r k + 1 := by unfold dn; rw [if_pos (by omega), if_pos (by omega)]
theorem dn_gt {r k : Nat} (h : r < k) : dn r (k + 1) = dn r k + 1 := by unfold dn; rw [if_neg (by omega), if_neg (by omega)]; omega
theorem dn_eq (r : Nat) : dn r (r + 1) = dn r r := by unfold dn; rw [if_neg (by omega), if_pos (by omega)]; omega
theorem skp_dn {r k : Nat} (h : ¬ k = r) : skp r (dn r k) = k := by
  unfold skp dn
  by_cases h1 : k ≤ r
  · rw [if_pos h1, if_pos (by omega)]
  · rw [if_neg h1, if_neg (by omega)]; omega
theorem dn_n {r n : Nat} (h : r < n) : dn r n = n - 1 := by unfold dn; rw [if_neg (by omega)]
theorem dn_le (r k : Nat) : dn r k ≤ k := by unfold dn; split <;> omega
/-- A row's cells, one being taken out. -/
theorem cel3_skp (bs : Nat → Bool) (ss : Nat → ByteArray) (es : Nat → Int) (q j : Nat) : (if j < q then cel3 bs ss es j else cel3 bs ss es (j + 1)) = cel3 (fun j => bs (skp q j)) (fun j => ss (skp q j)) (fun j => es (skp q j)) j := by
  unfold cel3 skp
  by_cases h : j < q
  · simp only [if_pos h]
  · simp only [if_neg h]
theorem OwnK.some_ {w : World} {base : Nat} {e : TypeId} {k : Nat} {v : Value} {n : Nat} {f : Nat → List Value} (h : OwnK w base e k v n f) (hn : 0 < n) : ∃ g c, v = .slice (some ⟨g, 0, none⟩) n c := by
  rcases h.2 with ⟨_, h0⟩ | ⟨g, cap, cur, rfl, _⟩
  · omega
  · exact ⟨g, cap, rfl⟩
set_option maxRecDepth 100000 in
set_option maxHeartbeats 2000000 in
theorem mwithout_any (A : Option Addr) (n c r q : Nat) (bs : Nat → Nat → Bool) (ss : Nat → Nat → ByteArray) (es : Nat → Nat → Int) (w : World) (hn : n ≤ 1000) (hrn : r < n) (hqn : q < n) (hr : RdM w A n (fun _ => n) bs ss es) :
    Calls Tryz.prog 31 #[.slice A n c, .int .i64 (r : Nat), .int .i64 (q : Nat)] w fun e w' => (∃ B d, e = .returned (.slice B (n - 1) d) ∧ RdM w' B (n - 1) (fun _ => n - 1) (fun i j => bs (skp r i) (skp q j)) (fun i j => ss (skp r i) (skp q j)) (fun i j => es (skp r i) (skp q j))) ∧ Below w.heap.size w w' := by
  have HR := Lib.hid hr
  have HN := Lib.hid (And.intro hn (And.intro hrn hqn))
  clear hr hrn hqn
  go_enter Tryz.func31, Tryz.ntmps31
  go_wp2_with fail
  go_loopw [7, 12] (fun v i wr => ∃ k : Nat, k ≤ n ∧ i = .int .i64 (k : Nat) ∧ OwnM wr w.heap.size v (dn r k) (fun _ => n - 1) (fun i j => bs (skp r i) (skp q j)) (fun i j => ss (skp r i) (skp q j)) (fun i j => es (skp r i) (skp q j)) ∧ Below w.heap.size w wr) (fun _ i _ => n - (RowKit.intOf i).toNat)
  case atStart => exact ⟨0, Nat.zero_le _, rfl, OwnT.nil_ _ _ _ _ _ _, Below.refl _ _⟩
  case round =>
    obtain ⟨k, hk, rfl, hown, hB⟩ := hrel
    by_cases hlt : k < n
    · obtain ⟨b, off, rfl, hc⟩ := (HR.out.below hB) (by omega)
      obtain ⟨Ai, ci, _, hAi, g1, hi1⟩ := hc k hlt
      have hlti : (k : Int) < (n : Int) := by omega
      by_cases hkr : k = r
      · subst hkr
        have hz : ((k : Int) != (k : Int)) = false := by simp
        have hown2 : OwnM wr w.heap.size u7 (dn k (k + 1)) (fun _ => n - 1) (fun i j => bs (skp k i) (skp q j)) (fun i j => ss (skp k i) (skp q j)) (fun i j => es (skp k i) (skp q j)) := by rw [dn_eq]; exact hown
        clear hc hi1 hown
        go_wp2
        exact ⟨⟨k + 1, by omega, by go_num, hown2, hB⟩, by simp [RowKit.intOf]; omega⟩
      · have hz : ((k : Int) != (r : Int)) = true := by simp; omega
        have hdn : dn r (k + 1) = dn r k + 1 := by
          rcases Nat.lt_or_gt_of_ne hkr with h | h
          · exact dn_lt h
          · exact dn_gt h
        have hsk := skp_dn hkr
        have hdl := dn_le r k
        have hmk : n ≤ 1000 := HN.out.1
        have hq1 : q < n := HN.out.2.2
        have hvl := OwnT.lt hown
        have HS := Lib.hid (And.intro hown hB)
        have HK := Lib.hid (And.intro hkr (And.intro hdn (And.intro hsk (And.intro hdl (And.intro hmk hq1)))))
        have cl := Lib.hid (mclone_any Ai n ci (bs k) (ss k) (es k) wr hmk hAi hi1.num)
        clear hc hown hB hi1 hkr hdn hsk hdl hmk hq1
        go_wp2_with fail
        refine cl.out.mono ?_
        rintro e w1 ⟨⟨v1, rfl, ho1⟩, hb1⟩
        clear cl
        obtain ⟨g, c1, rfl⟩ := ho1.some_ (by have := HK.out; omega)
        have cd := Lib.hid (mdelete_any g n c1 q (q + 1) wr.heap.size (cel3 (bs k) (ss k) (es k)) w1 (cel3_len _ _ _) (fun j u => cel3_one _ _ _ j u) rfl (by have := HK.out; omega) (by have := HK.out; omega) ho1)
        have HB1 := Lib.hid hb1
        have hq63 : (q : Int) + 1 ≤ 1001 := by have := HK.out; omega
        have hq0 : (0 : Int) ≤ (q : Int) := by omega
        rw [show (((q + 1 : Nat) : Nat) : Int) = (q : Int) + 1 by omega] at cd
        clear ho1 hb1
        go_wp2_with fail
        refine cd.out.mono ?_
        rintro e w5 ⟨⟨v2, rfl, ho2⟩, hb2⟩
        clear cd
        replace ho2 := ho2.congr (f' := cel3 (fun j => bs k (skp q j)) (fun j => ss k (skp q j)) (fun j => es k (skp q j))) (fun j _ => cel3_skp _ _ _ q j)
        have hb5 : Below wr.heap.size wr w5 := hb2 _ _ (Nat.le_refl _) HB1.out
        clear hb2 HB1
        obtain ⟨A', c', rfl, hnc, hrd, hba, hno⟩ := OwnK.rd (k := 3) (fun _ => rfl) ho2
        obtain ⟨hown, hB⟩ := HS.out
        have hB5 := nxt hB hb5
        have hown5 := OwnM.below hown hb5
        have hap := ho2.apart (u := u7) (fun g hg => (hvl g hg).2) rfl
        have hown6 := OwnM.below hown5 (b1 w5 (.cells #[.slice A' (n - 1) c'] 38))
        have hown6' : OwnT (w5.alloc (.cells #[.slice A' (n - 1) c'] 38)) w.heap.size 38 3 u7 (dn r k) (fun _ => n - 1) (fun i => cel3 (fun j => bs (skp r i) (skp q j)) (fun j => ss (skp r i) (skp q j)) (fun j => es (skp r i) (skp q j))) := hown6
        have hrd6 := hrd.below (cel3_len _ _ _) (b1 w5 (.cells #[.slice A' (n - 1) c'] 38))
        have hrd7 : RdK (w5.alloc (.cells #[.slice A' (n - 1) c'] 38)) A' (n - 1) 3 (cel3 (fun j => bs (skp r (dn r k)) (skp q j)) (fun j => ss (skp r (dn r k)) (skp q j)) (fun j => es (skp r (dn r k)) (skp q j))) := by rw [HK.out.2.2.1]; exact hrd6
        have Z := (Bx.new w5 38 #[.slice A' (n - 1) c']).cel 0
        have hap6 : ∀ a, A' = some a → a.block < (w5.alloc (.cells #[.slice A' (n - 1) c'] 38)).heap.size ∧ _ := fun a ha => ⟨Nat.lt_of_lt_of_le (hap a ha).1 (by simp), (hap a ha).2⟩
        have hsz6 : w.heap.size ≤ (w5.alloc (.cells #[.slice A' (n - 1) c'] 38)).heap.size := by have := hB5.size; simp; omega
        have h63 : dn r k + 1 ≤ 9223372036854775807 := by have := HK.out; omega
        have hby : (dn r k + 1) * 24 ≤ 140737488355328 := by have := HK.out; omega
        have HB := Lib.hid hB5
        clear hown hB hown5 hown6 hrd hrd6 hba hap ho2 hb5 hB5 HS hvl
        go_wp2_with (at_builtin; refine wpList_appendT rfl (.tmp 20) (.tmp 27) _ rfl w.heap.size 38 (.slice none 0 0) 3 24 Tryz.underlying22 info_Nums rfl u7 (dn r k) (fun _ => n - 1) (fun i => cel3 (fun j => bs (skp r i) (skp q j)) (fun j => ss (skp r i) (skp q j)) (fun j => es (skp r i) (skp q j))) (fun i j => cel3_len _ _ _ j) rfl hown6' ⟨w5.heap.size, 0, none⟩ rfl rfl A' c' Z hnc hno hrd7 hap6 h63 hby hsz6 ?_; intro v2 w7 ho2 hb7)
        have hB8 := belB (nxtA HB.out (.cells #[.slice A' (n - 1) c'] 38)) hb7 (Nat.le_refl _)
        rw [← HK.out.2.1] at ho2
        exact ⟨⟨k + 1, by omega, by go_num, ho2, hB8⟩, by simp [RowKit.intOf]; omega⟩
    · obtain rfl : k = n := by omega
      have hlti : ¬ (k : Int) < (k : Int) := by omega
      rw [dn_n HN.out.2.1] at hown
      obtain ⟨B, d, rfl, _, hrd, _⟩ := OwnT.rd hown
      go_wp2
      go_ret
      exact ⟨⟨B, ⟨d, rfl⟩, hrd⟩, hB⟩
end Go.Proofs.YtibbhpgpleeglaaGreatDoor

namespace Go.Proofs.YtibbhpgpleeglaaGreatDoor
open Go Go.RowKit

set_option maxRecDepth 100000 in
set_option maxHeartbeats 2000000 in
theorem rwithout_any (A : Option Addr) (n c r q : Nat) (bs : Nat → Nat → Bool) (ss : Nat → Nat → ByteArray) (es : Nat → Nat → Int) (w : World) (hn : n ≤ 1000) (hrn : r < n) (hqn : q < n) (hr : RdM w A n (fun _ => n) bs ss es) :
    Calls Tryz.prog 35 #[.slice A n c, .int .i64 (r : Nat), .int .i64 (q : Nat)] w fun e w' => (∃ B d, e = .returned (.slice B (n - 1) d) ∧ RdM w' B (n - 1) (fun _ => n - 1) (fun i j => bs (skp r i) (skp q j)) (fun i j => ss (skp r i) (skp q j)) (fun i j => es (skp r i) (skp q j))) ∧ Below w.heap.size w w' := by
  have HR := Lib.hid hr
  have HN := Lib.hid (And.intro hn (And.intro hrn hqn))
  clear hr hrn hqn
  go_enter Tryz.func35, Tryz.ntmps35
  go_wp2_with fail
  go_loopw [7, 8] (fun v i wr => ∃ k : Nat, k ≤ n ∧ i = .int .i64 (k : Nat) ∧ OwnM wr w.heap.size v (dn r k) (fun _ => n - 1) (fun i j => bs (skp r i) (skp q j)) (fun i j => ss (skp r i) (skp q j)) (fun i j => es (skp r i) (skp q j)) ∧ Below w.heap.size w wr) (fun _ i _ => n - (RowKit.intOf i).toNat)
  case atStart => exact ⟨0, Nat.zero_le _, rfl, OwnT.nil_ _ _ _ _ _ _, Below.refl _ _⟩
  case round =>
    obtain ⟨k, hk, rfl, hown, hB⟩ := hrel
    by_cases hlt : k < n
    · have hlti : (k : Int) < (n : Int) := by omega
      by_cases hkr : k = r
      · subst hkr
        have hz : ((k : Int) == (k : Int)) = true := by simp
        have hown2 : OwnM wr w.heap.size u7 (dn k (k + 1)) (fun _ => n - 1) (fun i j => bs (skp k i) (skp q j)) (fun i j => ss (skp k i) (skp q j)) (fun i j => es (skp k i) (skp q j)) := by rw [dn_eq]; exact hown
        clear hown
        go_wp2
        exact ⟨⟨k + 1, by omega, by go_num, hown2, hB⟩, by simp [RowKit.intOf]; omega⟩
      · obtain ⟨b, off, rfl, hc⟩ := (HR.out.below hB) (by omega)
        obtain ⟨Ai, ci, hnci, hAi, g1, hi1⟩ := hc k hlt
        obtain ⟨bi, offi, rfl, hci0⟩ := hi1 (show 0 < n by omega)
        have hci : ∀ j, j < n → ∀ i, i < 3 → wr.cell? ⟨bi, offi + j * 3 + i, none⟩ = (cel3 (bs k) (ss k) (es k) j)[i]? := hci0
        have hz : ((k : Int) == (r : Int)) = false := by simp; omega
        have hdn : dn r (k + 1) = dn r k + 1 := by
          rcases Nat.lt_or_gt_of_ne hkr with h | h
          · exact dn_lt h
          · exact dn_gt h
        have hvl := OwnT.lt hown
        have HS := Lib.hid (And.intro hown hB)
        have HI := Lib.hid hci
        have HK := Lib.hid (And.intro hkr (And.intro hdn (And.intro (skp_dn hkr) (And.intro (dn_le r k) (And.intro HN.out.1 (And.intro HN.out.2.2 (show n ≤ ci from hnci)))))))
        clear hc hown hB hi1 hkr hdn hci hci0 hnci hAi
        by_cases hcp : ci = q + 1
        · subst hcp
          have hq0 : (0 : Int) ≤ (q : Int) := by omega
          have hk0 : (0 : Int) ≤ (k : Int) := by omega
          have hqc : (q : Int) ≤ ((q + 1) : Nat) := by have := HK.out; omega
          have hqn : (q : Int) + 1 ≤ (n : Int) := by have := HK.out; omega
          have hqs : (q : Int) + 1 ≤ 1001 := by have := HK.out; omega
          have ho := own_new0 wr 29 3 wr.heap.size (Nat.le_refl _) (cel3 (bs k) (ss k) (es k))
          have hb1 := b1 wr (.cells #[] 29)
          have hr1 : RdK (wr.alloc (.cells #[] 29)) (some ⟨bi, offi, none⟩) q 3 (cel3 (bs k) (ss k) (es k)) := fun h0 => by
            refine ⟨bi, offi, rfl, fun j hj i hi => ?_⟩
            have h1 := HI.out j (by have := HK.out; omega) i hi
            obtain ⟨u, hu⟩ : ∃ u, (cel3 (bs k) (ss k) (es k) j)[i]? = some u := ⟨_, List.getElem?_eq_getElem hi⟩
            rw [hu] at h1 ⊢
            exact cell_later hb1 h1
          have hsz : wr.heap.size ≤ (wr.alloc (.cells #[] 29)).heap.size := by simp
          have hq63 : 0 + q ≤ 9223372036854775807 := by have := HK.out; omega
          have hq64 : (0 + q) * 32 ≤ 140737488355328 := by have := HK.out; omega
          have g1a := cell_later hb1 g1
          go_wp2_with (first
            | (at_builtin; refine wpList_appendRowN rfl (.tmp 19) (.tmp 25) _ rfl wr.heap.size 29 _ 3 32 Tryz.underlying38 info_Num rfl (by decide) _ 0 (cel3 (bs k) (ss k) (es k)) rfl ho (cel3 (bs k) (ss k) (es k)) (fun _ => rfl) (some ⟨bi, offi, none⟩) q (q + 1) (cel3_one _ _ _) rfl (fun h => nomatch h) hr1 hq63 hq64 hsz ?_; intro v1 w5 ho1 hb5
               rw [Nat.zero_add] at ho1
               replace hb5 := belB hb1 hb5 (Nat.le_refl _)
               have g1b := cell_later hb5 g1
               have HO1 := Lib.hid ho1
               have HB5 := Lib.hid hb5
               have hr2 : RdK w5 (some ⟨bi, offi, none⟩) (n - (q + 1)) 3 (cel3 (fun j => bs k (q + 1 + j)) (fun j => ss k (q + 1 + j)) (fun j => es k (q + 1 + j))) := fun h0 => by
                 refine ⟨bi, offi, rfl, fun j hj i hi => ?_⟩
                 have h1 := HI.out (q + 1 + j) (by omega) i hi
                 obtain ⟨u, hu⟩ : ∃ u, (cel3 (bs k) (ss k) (es k) (q + 1 + j))[i]? = some u := ⟨_, List.getElem?_eq_getElem hi⟩
                 rw [show (cel3 (fun j => bs k (q + 1 + j)) (fun j => ss k (q + 1 + j)) (fun j => es k (q + 1 + j)) j) = cel3 (bs k) (ss k) (es k) (q + 1 + j) from rfl]
                 rw [hu] at h1 ⊢
                 exact absurd h0 (by have := HK.out; omega)
               have hq65 : q + (n - (q + 1)) ≤ 9223372036854775807 := by have := HK.out; omega
               have hq66 : (q + (n - (q + 1))) * 32 ≤ 140737488355328 := by have := HK.out; omega
               have hsz5 := hb5.size
               clear ho ho1 hb5 hr1 hb1 hq63 hq64 hsz g1a)
            | (at_builtin; refine wpList_appendRowN rfl (.tmp 28) (.tmp 35) _ rfl wr.heap.size 29 _ 3 32 Tryz.underlying38 info_Num rfl (by decide) _ q (cel3 (bs k) (ss k) (es k)) rfl (HO1.out.congr fun j hj => by rw [if_neg (by omega), Nat.sub_zero]) (cel3 (fun j => bs k (q + 1 + j)) (fun j => ss k (q + 1 + j)) (fun j => es k (q + 1 + j))) (fun _ => rfl) (some ⟨bi, offi, none⟩) (n - (q + 1)) 0 (cel3_one _ _ _) rfl (fun h => nomatch h) hr2 hq65 hq66 hsz5 ?_; intro v2 w6 ho2 hb6
               replace ho2 := ho2.congr (f' := cel3 (fun j => bs k (skp q j)) (fun j => ss k (skp q j)) (fun j => es k (skp q j))) (fun j _ => by
                 unfold cel3 skp
                 by_cases h : j < q
                 · simp only [if_pos h]
                 · simp only [if_neg h]
                   rw [show q + 1 + (j - q) = j + 1 by omega])
               rw [show q + (n - (q + 1)) = n - 1 by have := HK.out; omega] at ho2
               have hb7 := belB HB5.out hb6 (Nat.le_refl _)
               obtain ⟨A', c', rfl, hnc, hrd, hba, hno⟩ := OwnK.rd (k := 3) (fun _ => rfl) ho2
               have HO2 := Lib.hid ho2
               clear ho2)
            | (at_builtin
               obtain ⟨hown, hB⟩ := HS.out
               have hB5 := nxt hB hb7
               have hown5 := OwnM.below hown hb7
               have hap := HO2.out.apart (u := u7) (fun g hg => (hvl g hg).2) rfl
               have hown6 := OwnM.below hown5 (b1 w6 (.cells #[.slice A' (n - 1) c'] 38))
               have hown6' : OwnT (w6.alloc (.cells #[.slice A' (n - 1) c'] 38)) w.heap.size 38 3 u7 (dn r k) (fun _ => n - 1) (fun i => cel3 (fun j => bs (skp r i) (skp q j)) (fun j => ss (skp r i) (skp q j)) (fun j => es (skp r i) (skp q j))) := hown6
               have hrd6 := hrd.below (cel3_len _ _ _) (b1 w6 (.cells #[.slice A' (n - 1) c'] 38))
               have hrd7 : RdK (w6.alloc (.cells #[.slice A' (n - 1) c'] 38)) A' (n - 1) 3 (cel3 (fun j => bs (skp r (dn r k)) (skp q j)) (fun j => ss (skp r (dn r k)) (skp q j)) (fun j => es (skp r (dn r k)) (skp q j))) := by rw [HK.out.2.2.1]; exact hrd6
               have Z := (Bx.new w6 38 #[.slice A' (n - 1) c']).cel 0
               have hap6 : ∀ a, A' = some a → a.block < (w6.alloc (.cells #[.slice A' (n - 1) c'] 38)).heap.size ∧ _ := fun a ha => ⟨Nat.lt_of_lt_of_le (hap a ha).1 (by simp), (hap a ha).2⟩
               have hsz6 : w.heap.size ≤ (w6.alloc (.cells #[.slice A' (n - 1) c'] 38)).heap.size := by have := hB5.size; simp; omega
               have h63 : dn r k + 1 ≤ 9223372036854775807 := by have := HK.out; omega
               have hby : (dn r k + 1) * 24 ≤ 140737488355328 := by have := HK.out; omega
               have HB := Lib.hid hB5
               refine wpList_appendT rfl (.tmp 27) (.tmp 37) _ rfl w.heap.size 38 (.slice none 0 0) 3 24 Tryz.underlying22 info_Nums rfl u7 (dn r k) (fun _ => n - 1) (fun i => cel3 (fun j => bs (skp r i) (skp q j)) (fun j => ss (skp r i) (skp q j)) (fun j => es (skp r i) (skp q j))) (fun i j => cel3_len _ _ _ j) rfl hown6' ⟨w6.heap.size, 0, none⟩ rfl rfl A' c' Z hnc hno hrd7 hap6 h63 hby hsz6 ?_; intro v3 w7 ho3 hb8; clear hown hown5 hown6 hown6' hrd hrd6 hrd7 hap hap6 Z hB hb7 hB5))
          have hB8 := belB (nxtA HB.out (.cells #[.slice A' (n - 1) c'] 38)) hb8 (Nat.le_refl _)
          rw [← HK.out.2.1] at ho3
          clear hvl hr2
          go_wp2
          exact ⟨⟨k + 1, by omega, by go_num, ho3, hB8⟩, by simp [RowKit.intOf]; omega⟩
        · have hcp2 : ¬ (ci : Int) = (q : Int) + 1 := by omega
          have hq0 : (0 : Int) ≤ (q : Int) := by omega
          have hk0 : (0 : Int) ≤ (k : Int) := by omega
          have hqc : (q : Int) ≤ (ci : Nat) := by have := HK.out; omega
          have hqn : (q : Int) + 1 ≤ (n : Int) := by have := HK.out; omega
          have hqs : (q : Int) + 1 ≤ 1001 := by have := HK.out; omega
          have ho := own_new0 wr 29 3 wr.heap.size (Nat.le_refl _) (cel3 (bs k) (ss k) (es k))
          have hb1 := b1 wr (.cells #[] 29)
          have hr1 : RdK (wr.alloc (.cells #[] 29)) (some ⟨bi, offi, none⟩) q 3 (cel3 (bs k) (ss k) (es k)) := fun h0 => by
            refine ⟨bi, offi, rfl, fun j hj i hi => ?_⟩
            have h1 := HI.out j (by have := HK.out; omega) i hi
            obtain ⟨u, hu⟩ : ∃ u, (cel3 (bs k) (ss k) (es k) j)[i]? = some u := ⟨_, List.getElem?_eq_getElem hi⟩
            rw [hu] at h1 ⊢
            exact cell_later hb1 h1
          have hsz : wr.heap.size ≤ (wr.alloc (.cells #[] 29)).heap.size := by simp
          have hq63 : 0 + q ≤ 9223372036854775807 := by have := HK.out; omega
          have hq64 : (0 + q) * 32 ≤ 140737488355328 := by have := HK.out; omega
          have g1a := cell_later hb1 g1
          go_wp2_with (first
            | (at_builtin; refine wpList_appendRowN rfl (.tmp 19) (.tmp 25) _ rfl wr.heap.size 29 _ 3 32 Tryz.underlying38 info_Num rfl (by decide) _ 0 (cel3 (bs k) (ss k) (es k)) rfl ho (cel3 (bs k) (ss k) (es k)) (fun _ => rfl) (some ⟨bi, offi, none⟩) q ci (cel3_one _ _ _) rfl (fun h => nomatch h) hr1 hq63 hq64 hsz ?_; intro v1 w5 ho1 hb5
               rw [Nat.zero_add] at ho1
               replace hb5 := belB hb1 hb5 (Nat.le_refl _)
               have g1b := cell_later hb5 g1
               have HO1 := Lib.hid ho1
               have HB5 := Lib.hid hb5
               have hr2 : RdK w5 (some ⟨bi, offi + (q + 1) * 3, none⟩) (n - (q + 1)) 3 (cel3 (fun j => bs k (q + 1 + j)) (fun j => ss k (q + 1 + j)) (fun j => es k (q + 1 + j))) := fun h0 => by
                 refine ⟨bi, offi + (q + 1) * 3, rfl, fun j hj i hi => ?_⟩
                 have h1 := HI.out (q + 1 + j) (by omega) i hi
                 obtain ⟨u, hu⟩ : ∃ u, (cel3 (bs k) (ss k) (es k) (q + 1 + j))[i]? = some u := ⟨_, List.getElem?_eq_getElem hi⟩
                 rw [show (cel3 (fun j => bs k (q + 1 + j)) (fun j => ss k (q + 1 + j)) (fun j => es k (q + 1 + j)) j) = cel3 (bs k) (ss k) (es k) (q + 1 + j) from rfl]
                 rw [hu] at h1 ⊢
                 rw [show offi + (q + 1) * 3 + j * 3 + i = offi + (q + 1 + j) * 3 + i by omega]
                 exact cell_later hb5 h1
               have hq65 : q + (n - (q + 1)) ≤ 9223372036854775807 := by have := HK.out; omega
               have hq66 : (q + (n - (q + 1))) * 32 ≤ 140737488355328 := by have := HK.out; omega
               have hsz5 := hb5.size
               clear ho ho1 hb5 hr1 hb1 hq63 hq64 hsz g1a)
            | (at_builtin; refine wpList_appendRowN rfl (.tmp 28) (.tmp 35) _ rfl wr.heap.size 29 _ 3 32 Tryz.underlying38 info_Num rfl (by decide) _ q (cel3 (bs k) (ss k) (es k)) rfl (HO1.out.congr fun j hj => by rw [if_neg (by omega), Nat.sub_zero]) (cel3 (fun j => bs k (q + 1 + j)) (fun j => ss k (q + 1 + j)) (fun j => es k (q + 1 + j))) (fun _ => rfl) (some ⟨bi, offi + (q + 1) * 3, none⟩) (n - (q + 1)) (ci - (q + 1)) (cel3_one _ _ _) rfl (fun h => nomatch h) hr2 hq65 hq66 hsz5 ?_; intro v2 w6 ho2 hb6
               replace ho2 := ho2.congr (f' := cel3 (fun j => bs k (skp q j)) (fun j => ss k (skp q j)) (fun j => es k (skp q j))) (fun j _ => by
                 unfold cel3 skp
                 by_cases h : j < q
                 · simp only [if_pos h]
                 · simp only [if_neg h]
                   rw [show q + 1 + (j - q) = j + 1 by omega])
               rw [show q + (n - (q + 1)) = n - 1 by have := HK.out; omega] at ho2
               have hb7 := belB HB5.out hb6 (Nat.le_refl _)
               obtain ⟨A', c', rfl, hnc, hrd, hba, hno⟩ := OwnK.rd (k := 3) (fun _ => rfl) ho2
               have HO2 := Lib.hid ho2
               clear ho2)
            | (at_builtin
               obtain ⟨hown, hB⟩ := HS.out
               have hB5 := nxt hB hb7
               have hown5 := OwnM.below hown hb7
               have hap := HO2.out.apart (u := u7) (fun g hg => (hvl g hg).2) rfl
               have hown6 := OwnM.below hown5 (b1 w6 (.cells #[.slice A' (n - 1) c'] 38))
               have hown6' : OwnT (w6.alloc (.cells #[.slice A' (n - 1) c'] 38)) w.heap.size 38 3 u7 (dn r k) (fun _ => n - 1) (fun i => cel3 (fun j => bs (skp r i) (skp q j)) (fun j => ss (skp r i) (skp q j)) (fun j => es (skp r i) (skp q j))) := hown6
               have hrd6 := hrd.below (cel3_len _ _ _) (b1 w6 (.cells #[.slice A' (n - 1) c'] 38))
               have hrd7 : RdK (w6.alloc (.cells #[.slice A' (n - 1) c'] 38)) A' (n - 1) 3 (cel3 (fun j => bs (skp r (dn r k)) (skp q j)) (fun j => ss (skp r (dn r k)) (skp q j)) (fun j => es (skp r (dn r k)) (skp q j))) := by rw [HK.out.2.2.1]; exact hrd6
               have Z := (Bx.new w6 38 #[.slice A' (n - 1) c']).cel 0
               have hap6 : ∀ a, A' = some a → a.block < (w6.alloc (.cells #[.slice A' (n - 1) c'] 38)).heap.size ∧ _ := fun a ha => ⟨Nat.lt_of_lt_of_le (hap a ha).1 (by simp), (hap a ha).2⟩
               have hsz6 : w.heap.size ≤ (w6.alloc (.cells #[.slice A' (n - 1) c'] 38)).heap.size := by have := hB5.size; simp; omega
               have h63 : dn r k + 1 ≤ 9223372036854775807 := by have := HK.out; omega
               have hby : (dn r k + 1) * 24 ≤ 140737488355328 := by have := HK.out; omega
               have HB := Lib.hid hB5
               refine wpList_appendT rfl (.tmp 27) (.tmp 37) _ rfl w.heap.size 38 (.slice none 0 0) 3 24 Tryz.underlying22 info_Nums rfl u7 (dn r k) (fun _ => n - 1) (fun i => cel3 (fun j => bs (skp r i) (skp q j)) (fun j => ss (skp r i) (skp q j)) (fun j => es (skp r i) (skp q j))) (fun i j => cel3_len _ _ _ j) rfl hown6' ⟨w6.heap.size, 0, none⟩ rfl rfl A' c' Z hnc hno hrd7 hap6 h63 hby hsz6 ?_; intro v3 w7 ho3 hb8; clear hown hown5 hown6 hown6' hrd hrd6 hrd7 hap hap6 Z hB hb7 hB5))
          have hB8 := belB (nxtA HB.out (.cells #[.slice A' (n - 1) c'] 38)) hb8 (Nat.le_refl _)
          rw [← HK.out.2.1] at ho3
          clear hvl hr2
          go_wp2
          exact ⟨⟨k + 1, by omega, by go_num, ho3, hB8⟩, by simp [RowKit.intOf]; omega⟩
    · obtain rfl : k = n := by omega
      have hlti : ¬ (k : Int) < (k : Int) := by omega
      rw [dn_n HN.out.2.1] at hown
      obtain ⟨B, d, rfl, _, hrd, _⟩ := OwnT.rd hown
      go_wp2
      go_ret
      exact ⟨⟨B, ⟨d, rfl⟩, hrd⟩, hB⟩
end Go.Proofs.YtibbhpgpleeglaaGreatDoor

