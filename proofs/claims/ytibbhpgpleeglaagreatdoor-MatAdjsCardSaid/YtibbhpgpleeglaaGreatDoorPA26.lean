/- The walks and plain laws beneath the statements. -/
import Derived.Test.YtibbhpgpleeglaaGreatDoorPA24
import Derived.Test.YtibbhpgpleeglaaGreatDoorPA25
namespace Go.Proofs.YtibbhpgpleeglaaGreatDoor
open Go Go.RowKit

set_option maxRecDepth 100000 in
set_option maxHeartbeats 2000000 in
theorem mdelete_full (g n c q base : Nat) (f : Nat → List Value) (w : World) (hf : ∀ j, (f j).length = 3) (hf1 : ∀ j u, u ∈ f j → u.oneCell' = true) (hqp : c = q + 1) (hpn' : c ≤ n) (hn : n ≤ 1000) (hcp' : c = c) (ho : OwnK w base 29 3 (.slice (some ⟨g, 0, none⟩) n c) n f) :
    Calls Tryz.prog 54 #[.slice (some ⟨g, 0, none⟩) n c, .int .i64 (q : Nat), .int .i64 (c : Nat)] w fun e w' => (∃ v, e = .returned v ∧ OwnK w' base 29 3 v (n - 1) (fun j => if j < q then f j else f (j + 1))) ∧ ∀ B' a0, B' ≤ base → Below B' a0 w → Below B' a0 w' := by
  obtain ⟨F, hC, hnc, hcm, hbg, hF⟩ := ho.cel hf
  have hF1 : ∀ j, j < (n - c) * 3 → (F (c * 3 + j)).oneCell' = true := fun j hj => by
    have h1 := hF (c + j / 3) (by omega) (j % 3) (by omega)
    rw [show (c + j / 3) * 3 + j % 3 = c * 3 + j by omega] at h1
    exact hf1 _ _ (List.mem_of_getElem? h1)
  have HF := Lib.hid hF
  have HF1 := Lib.hid hF1
  have HCM := Lib.hid hcm
  have HBG := Lib.hid hbg
  have hq0 : (0 : Int) ≤ (q : Int) := by omega
  have hqc : (q : Int) ≤ (c : Int) := by omega
  have hp0 : (0 : Int) ≤ (c : Int) := by omega
  have hqp2 : (q : Int) ≤ (c : Int) := by omega
  have hpn : (c : Int) ≤ (n : Int) := by omega
  have hnci : (n : Int) ≤ (c : Int) := by omega
  have hc0 : ¬ c = 0 := by omega
  have hcp : c = c := hcp'
  have hne : ((q : Int) == (c : Int)) = false := by simp; omega
  have hne2 : ¬ (q : Int) = (c : Int) := by omega
  have HC := Lib.hid hC
  have HQ := Lib.hid (And.intro hqp (And.intro hpn' (And.intro hn (And.intro hnc hcp'))))
  clear hF hF1 hC ho hf1 hcm hbg hqp hpn' hcp' hnc hn
  go_enter Tryz.func54, Tryz.ntmps54
  go_upto_region 5 with (fail)
  refine wp_region_k [20, 21, 22, 23, 24, 25] [.eq (.slice (some ⟨g, 0, none⟩) n c), .eq (.int .i64 (q : Nat)), .eq (.slice (some ⟨g, 0, none⟩) q c), .eq (.slice (some ⟨g, 0, none⟩) n c), .eq (.int .i64 (c : Nat)), .eq (.slice (some ⟨g, 0, none⟩) (n - c) (c - c))] 33 (by kernel_rfl) (by exact fun _ _ _ _ _ h => h) (by kernel_rfl) (by rfl) ?hop ?htail
  case hop =>
    intro A hA
    have hN : A.tmps.size = 33 := by rw [hA]; rfl
    have q0 : A.tmps.getD 0 undef = .slice (some ⟨g, 0, none⟩) n c := by rw [hA]; rfl
    have q1 : A.tmps.getD 1 undef = .int .i64 (q : Nat) := by rw [hA]; rfl
    have q2 : A.tmps.getD 2 undef = .int .i64 (c : Nat) := by rw [hA]; rfl
    clear hA
    refine ⟨?_, ?_, ?_, ?_, ?_, ?_, trivial⟩
    · refine kok hN fun u W ev ec ef E B hG hf => ?_
      exact k_val _ rfl rfl hG (by simp [go_sem, B 0 rfl rfl q0]) rfl
    · refine kok hN fun u W ev ec ef E B hG hf => ?_
      exact k_val _ rfl rfl hG (by simp [go_sem, B 1 rfl rfl q1]) rfl
    · refine kok hN fun u W ev ec ef E B hG hf => ?_
      exact k_val _ rfl rfl hG (by simp [go_sem, E 20 0 rfl rfl (hf 0 rfl), E 21 1 rfl rfl (hf 1 rfl), hq0, hqc, hc0]) rfl
    · refine kok hN fun u W ev ec ef E B hG hf => ?_
      exact k_val _ rfl rfl hG (by simp [go_sem, B 0 rfl rfl q0]) rfl
    · refine kok hN fun u W ev ec ef E B hG hf => ?_
      exact k_val _ rfl rfl hG (by simp [go_sem, B 2 rfl rfl q2]) rfl
    · refine kok hN fun u W ev ec ef E B hG hf => ?_
      exact k_val _ rfl rfl hG (by simp [go_sem, E 23 3 rfl rfl (hf 3 rfl), E 24 4 rfl rfl (hf 4 rfl), hp0, hpn]) rfl
  case htail =>
  intro u w2 hG hP _
  have f22 : u 2 = .slice (some ⟨g, 0, none⟩) q c := hP 2 (by decide)
  have f25 : u 5 = .slice (some ⟨g, 0, none⟩) (n - c) (c - c) := hP 5 (by decide)
  simp only [putAll, Act.put, List.setIfInBounds_toArray, List.set_cons_zero, List.set_cons_succ, List.length_cons, List.length_nil, Nat.reduceAdd, List.drop_succ_cons, List.drop_zero, f22, f25]
  have hC2 := HC.out.bel hG
  have HG := Lib.hid hG
  clear hP hG f22 f25
  have h0 := HQ.out
  have hroom : q + (n - c) ≤ c := by omega
  have hT : (q + (n - c)) * 3 ≤ c * 3 := by omega
  have hoff : c * 3 + (n - c) * 3 ≤ c * 3 := by omega
  have hB : 0 < n - c → (⟨g, 0, none⟩ : Addr) = ⟨g, c * 3, none⟩ := fun h => absurd h (by omega)
  clear h0
  go_wp2_with (at_builtin; refine wpList_append_room rfl (.tmp 22) (.tmp 25) _ rfl 29 3 Tryz.underlying38 (by kernel_rfl) g q c (n - c) (c - c) (c * 3) ⟨g, 0, none⟩ rfl rfl hB _ (c * 3) F hC2 HF1.out hroom hT hoff ?_; intro w3 hC3 hb3)
  clear hC2 hroom hT hoff hB
  have HB3 := Lib.hid hb3
  clear hb3
  obtain ⟨r, hr⟩ : ∃ r, r = q + (n - c) := ⟨_, rfl⟩
  rw [← hr] at hC3 ⊢
  have hr1 : r + 1 = n := by have := HQ.out; omega
  have hr0 : (0 : Int) ≤ (r : Int) := by omega
  have hrn : (r : Int) ≤ (n : Int) := by omega
  have hnci2 : (n : Int) ≤ (c : Int) := by have := HQ.out; omega
  have hcr : ¬ c = r := by have := HQ.out; omega
  have hnr : n - r = 1 := by omega
  have HR := Lib.hid (And.intro hr hr1)
  have hoff2 : r * 3 + 3 ≤ c * 3 := by have := HQ.out; omega
  clear hr hr1
  obtain ⟨w4, F4, hrun, hC4, hF4, hb4⟩ := run_clear_one (P := Tryz.prog) 38 0 29 (.agg #[.bool false, .string ⟨#[]⟩, .int .i64 0]) 3 Tryz.underlying38 (fun w => by kernel_rfl) (by kernel_rfl) rfl (by intro u hu; simp [Value.cells] at hu; rcases hu with rfl | rfl | rfl <;> rfl) g (r * 3) (n - r) (c - r) hnr _ (c * 3) _ hC3 hoff2
  have HH := Lib.hid hrun
  have HC4 := Lib.hid hC4
  have HB4 := Lib.hid hb4
  have HF4 := Lib.hid hF4
  clear hrun hC4 hF4 hb4
  go_wp2_with fail
  rw [HH.out]
  simp only [Result.andThen_ok]
  go_wp2
  go_ret
  have h0 := HQ.out
  have h1 := HR.out
  refine ⟨⟨_, rfl, ?_⟩, fun B' a0 hB' hb => HB4.out B' a0 (Nat.le_trans hB' HBG.out) (HB3.out B' a0 (Nat.le_trans hB' HBG.out) (hb.trans (HG.out.mono ?_)))⟩
  · have e1 : r = n - 1 := by omega
    subst e1
    refine Cel.own (fun j => by split <;> exact hf _) (by decide) HC4.out (by omega) HCM.out HBG.out fun j hj i hi => ?_
    rw [HF4.out _ (by omega)]
    by_cases hjq : j < q
    · rw [if_pos hjq, if_neg (by omega)]
      exact HF.out j (by omega) i hi
    · rw [if_neg hjq, if_pos (by omega), HF.out (j + 1) (by omega) i hi]
      congr 2
      omega
  · exact Nat.le_trans hB' (Nat.le_trans HBG.out (Nat.le_of_lt HC.out.lt))
set_option maxRecDepth 100000 in
set_option maxHeartbeats 2000000 in
theorem mdelete_part (g n c q p base : Nat) (f : Nat → List Value) (w : World) (hf : ∀ j, (f j).length = 3) (hf1 : ∀ j u, u ∈ f j → u.oneCell' = true) (hqp : p = q + 1) (hpn' : p ≤ n) (hn : n ≤ 1000) (hcp' : ¬ c = p) (ho : OwnK w base 29 3 (.slice (some ⟨g, 0, none⟩) n c) n f) :
    Calls Tryz.prog 54 #[.slice (some ⟨g, 0, none⟩) n c, .int .i64 (q : Nat), .int .i64 (p : Nat)] w fun e w' => (∃ v, e = .returned v ∧ OwnK w' base 29 3 v (n - 1) (fun j => if j < q then f j else f (j + 1))) ∧ ∀ B' a0, B' ≤ base → Below B' a0 w → Below B' a0 w' := by
  obtain ⟨F, hC, hnc, hcm, hbg, hF⟩ := ho.cel hf
  have hF1 : ∀ j, j < (n - p) * 3 → (F (p * 3 + j)).oneCell' = true := fun j hj => by
    have h1 := hF (p + j / 3) (by omega) (j % 3) (by omega)
    rw [show (p + j / 3) * 3 + j % 3 = p * 3 + j by omega] at h1
    exact hf1 _ _ (List.mem_of_getElem? h1)
  have HF := Lib.hid hF
  have HF1 := Lib.hid hF1
  have HCM := Lib.hid hcm
  have HBG := Lib.hid hbg
  have hq0 : (0 : Int) ≤ (q : Int) := by omega
  have hqc : (q : Int) ≤ (c : Int) := by omega
  have hp0 : (0 : Int) ≤ (p : Int) := by omega
  have hqp2 : (q : Int) ≤ (p : Int) := by omega
  have hpn : (p : Int) ≤ (n : Int) := by omega
  have hnci : (n : Int) ≤ (c : Int) := by omega
  have hc0 : ¬ c = 0 := by omega
  have hcp : ¬ c = p := hcp'
  have hne : ((q : Int) == (p : Int)) = false := by simp; omega
  have hne2 : ¬ (q : Int) = (p : Int) := by omega
  have HC := Lib.hid hC
  have HQ := Lib.hid (And.intro hqp (And.intro hpn' (And.intro hn (And.intro hnc hcp'))))
  clear hF hF1 hC ho hf1 hcm hbg hqp hpn' hcp' hnc hn
  go_enter Tryz.func54, Tryz.ntmps54
  go_upto_region 5 with (fail)
  refine wp_region_k [20, 21, 22, 23, 24, 25] [.eq (.slice (some ⟨g, 0, none⟩) n c), .eq (.int .i64 (q : Nat)), .eq (.slice (some ⟨g, 0, none⟩) q c), .eq (.slice (some ⟨g, 0, none⟩) n c), .eq (.int .i64 (p : Nat)), .eq (.slice (some ⟨g, p * 3, none⟩) (n - p) (c - p))] 33 (by kernel_rfl) (by exact fun _ _ _ _ _ h => h) (by kernel_rfl) (by rfl) ?hop ?htail
  case hop =>
    intro A hA
    have hN : A.tmps.size = 33 := by rw [hA]; rfl
    have q0 : A.tmps.getD 0 undef = .slice (some ⟨g, 0, none⟩) n c := by rw [hA]; rfl
    have q1 : A.tmps.getD 1 undef = .int .i64 (q : Nat) := by rw [hA]; rfl
    have q2 : A.tmps.getD 2 undef = .int .i64 (p : Nat) := by rw [hA]; rfl
    clear hA
    refine ⟨?_, ?_, ?_, ?_, ?_, ?_, trivial⟩
    · refine kok hN fun u W ev ec ef E B hG hf => ?_
      exact k_val _ rfl rfl hG (by simp [go_sem, B 0 rfl rfl q0]) rfl
    · refine kok hN fun u W ev ec ef E B hG hf => ?_
      exact k_val _ rfl rfl hG (by simp [go_sem, B 1 rfl rfl q1]) rfl
    · refine kok hN fun u W ev ec ef E B hG hf => ?_
      exact k_val _ rfl rfl hG (by simp [go_sem, E 20 0 rfl rfl (hf 0 rfl), E 21 1 rfl rfl (hf 1 rfl), hq0, hqc, hc0]) rfl
    · refine kok hN fun u W ev ec ef E B hG hf => ?_
      exact k_val _ rfl rfl hG (by simp [go_sem, B 0 rfl rfl q0]) rfl
    · refine kok hN fun u W ev ec ef E B hG hf => ?_
      exact k_val _ rfl rfl hG (by simp [go_sem, B 2 rfl rfl q2]) rfl
    · refine kok hN fun u W ev ec ef E B hG hf => ?_
      exact k_val _ rfl rfl hG (by simp [go_sem, E 23 3 rfl rfl (hf 3 rfl), E 24 4 rfl rfl (hf 4 rfl), hp0, hpn, hcp]) rfl
  case htail =>
  intro u w2 hG hP _
  have f22 : u 2 = .slice (some ⟨g, 0, none⟩) q c := hP 2 (by decide)
  have f25 : u 5 = .slice (some ⟨g, p * 3, none⟩) (n - p) (c - p) := hP 5 (by decide)
  simp only [putAll, Act.put, List.setIfInBounds_toArray, List.set_cons_zero, List.set_cons_succ, List.length_cons, List.length_nil, Nat.reduceAdd, List.drop_succ_cons, List.drop_zero, f22, f25]
  have hC2 := HC.out.bel hG
  have HG := Lib.hid hG
  clear hP hG f22 f25
  have h0 := HQ.out
  have hroom : q + (n - p) ≤ c := by omega
  have hT : (q + (n - p)) * 3 ≤ c * 3 := by omega
  have hoff : p * 3 + (n - p) * 3 ≤ c * 3 := by omega
  have hB : 0 < n - p → (⟨g, p * 3, none⟩ : Addr) = ⟨g, p * 3, none⟩ := fun h => rfl
  clear h0
  go_wp2_with (at_builtin; refine wpList_append_room rfl (.tmp 22) (.tmp 25) _ rfl 29 3 Tryz.underlying38 (by kernel_rfl) g q c (n - p) (c - p) (p * 3) ⟨g, p * 3, none⟩ rfl rfl hB _ (c * 3) F hC2 HF1.out hroom hT hoff ?_; intro w3 hC3 hb3)
  clear hC2 hroom hT hoff hB
  have HB3 := Lib.hid hb3
  clear hb3
  obtain ⟨r, hr⟩ : ∃ r, r = q + (n - p) := ⟨_, rfl⟩
  rw [← hr] at hC3 ⊢
  have hr1 : r + 1 = n := by have := HQ.out; omega
  have hr0 : (0 : Int) ≤ (r : Int) := by omega
  have hrn : (r : Int) ≤ (n : Int) := by omega
  have hnci2 : (n : Int) ≤ (c : Int) := by have := HQ.out; omega
  have hcr : ¬ c = r := by have := HQ.out; omega
  have hnr : n - r = 1 := by omega
  have HR := Lib.hid (And.intro hr hr1)
  have hoff2 : r * 3 + 3 ≤ c * 3 := by have := HQ.out; omega
  clear hr hr1
  obtain ⟨w4, F4, hrun, hC4, hF4, hb4⟩ := run_clear_one (P := Tryz.prog) 38 0 29 (.agg #[.bool false, .string ⟨#[]⟩, .int .i64 0]) 3 Tryz.underlying38 (fun w => by kernel_rfl) (by kernel_rfl) rfl (by intro u hu; simp [Value.cells] at hu; rcases hu with rfl | rfl | rfl <;> rfl) g (r * 3) (n - r) (c - r) hnr _ (c * 3) _ hC3 hoff2
  have HH := Lib.hid hrun
  have HC4 := Lib.hid hC4
  have HB4 := Lib.hid hb4
  have HF4 := Lib.hid hF4
  clear hrun hC4 hF4 hb4
  go_wp2_with fail
  rw [HH.out]
  simp only [Result.andThen_ok]
  go_wp2
  go_ret
  have h0 := HQ.out
  have h1 := HR.out
  refine ⟨⟨_, rfl, ?_⟩, fun B' a0 hB' hb => HB4.out B' a0 (Nat.le_trans hB' HBG.out) (HB3.out B' a0 (Nat.le_trans hB' HBG.out) (hb.trans (HG.out.mono ?_)))⟩
  · have e1 : r = n - 1 := by omega
    subst e1
    refine Cel.own (fun j => by split <;> exact hf _) (by decide) HC4.out (by omega) HCM.out HBG.out fun j hj i hi => ?_
    rw [HF4.out _ (by omega)]
    by_cases hjq : j < q
    · rw [if_pos hjq, if_neg (by omega)]
      exact HF.out j (by omega) i hi
    · rw [if_neg hjq, if_pos (by omega), HF.out (j + 1) (by omega) i hi]
      congr 2
      omega
  · exact Nat.le_trans hB' (Nat.le_trans HBG.out (Nat.le_of_lt HC.out.lt))
theorem mdelete_any (g n c q p base : Nat) (f : Nat → List Value) (w : World) (hf : ∀ j, (f j).length = 3) (hf1 : ∀ j u, u ∈ f j → u.oneCell' = true) (hqp : p = q + 1) (hpn' : p ≤ n) (hn : n ≤ 1000) (ho : OwnK w base 29 3 (.slice (some ⟨g, 0, none⟩) n c) n f) :
    Calls Tryz.prog 54 #[.slice (some ⟨g, 0, none⟩) n c, .int .i64 (q : Nat), .int .i64 (p : Nat)] w fun e w' => (∃ v, e = .returned v ∧ OwnK w' base 29 3 v (n - 1) (fun j => if j < q then f j else f (j + 1))) ∧ ∀ B' a0, B' ≤ base → Below B' a0 w → Below B' a0 w' := by
  by_cases h : c = p
  · subst h
    exact mdelete_full g n c q base f w hf hf1 hqp hpn' hn rfl ho
  · exact mdelete_part g n c q p base f w hf hf1 hqp hpn' hn h ho
end Go.Proofs.YtibbhpgpleeglaaGreatDoor

