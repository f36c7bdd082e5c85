/- The walks and plain laws beneath the statements. -/
import Derived.Test.YtkgogbmeehiloaaGreatDoorPK34
import Derived.Test.YtkgogbmeehiloaaGreatDoorPK35
namespace Go.Proofs.YtkgogbmeehiloaaGreatDoor
open Go Go.RowKit Go.Lib

theorem info_Num : (Tryz.prog.info? 38).map (fun i => (i.zero, i.size, i.bytes)) = some (some (.agg #[.bool false, .string ⟨#[]⟩, .int .i64 0]), 3, 32) := by kernel_rfl
theorem belB {B B' : Nat} {a w1 w2 : World} (h : Below B a w1) (h2 : Below B' w1 w2) (hle : B ≤ B') : Below B a w2 := h.trans (h2.mono hle)
/-- A number's cells. -/
def cel3 (bs : Nat → Bool) (ss : Nat → ByteArray) (es : Nat → Int) (j : Nat) : List Value := [.bool (bs j), .string (ss j), .int .i64 (es j)]
theorem cel3_one (bs : Nat → Bool) (ss : Nat → ByteArray) (es : Nat → Int) (j : Nat) (u : Value) (h : u ∈ cel3 bs ss es j) : u.oneCell' = true := by
  simp [cel3] at h
  rcases h with rfl | rfl | rfl <;> rfl
/-- A row of numbers, read. -/
theorem RdK.num {w : World} {A : Option Addr} {n : Nat} {bs : Nat → Bool} {ss : Nat → ByteArray} {es : Nat → Int} (h : RdK w A n 3 (cel3 bs ss es)) : RdN w A n bs ss es := fun h0 => by
  obtain ⟨b, off, rfl, hc⟩ := h h0
  exact ⟨b, off, rfl, fun j hj => ⟨hc j hj 0 (by decide), hc j hj 1 (by decide), hc j hj 2 (by decide)⟩⟩

/-- What is left of a row's text from a field on. -/
def restL (fs : Nat → List UInt8) : Nat → Nat → List UInt8
  | k, 0 => fs k
  | k, m + 1 => fs k ++ 32 :: restL fs (k + 1) m
def atN (fs : Nat → List UInt8) : Nat → Nat
  | 0 => 0
  | k + 1 => atN fs k + (fs k).length + 1
theorem restL_snoc (fs : Nat → List UInt8) : ∀ (m k : Nat), restL fs k (m + 1) = restL fs k m ++ 32 :: fs (k + m + 1)
  | 0, k => rfl
  | m + 1, k => by
    rw [restL, restL_snoc fs m (k + 1)]
    show _ = (fs k ++ 32 :: restL fs (k + 1) m) ++ _
    rw [show k + 1 + m + 1 = k + (m + 1) + 1 by omega]
    simp
theorem rowL_rest (xs : Nat → Dyadic) : ∀ n, rowL xs (n + 1) = restL (fun j => ntL (xs j)) 0 n
  | 0 => rowL_one xs
  | n + 1 => by rw [rowL_succ, rowL_rest xs n, restL_snoc]; simp
theorem index_no {f : List UInt8} (h : ∀ c, c ∈ f → c ≠ 32) : Lib.index f [32] = -1 := by
  induction f with
  | nil => rfl
  | cons a f ih =>
    have h1' : ((32 : UInt8) == a) = false := by
      rw [beq_eq_false_iff_ne]; exact fun e => h a (by simp) e.symm
    unfold Lib.index
    have h2 : ¬ (32 : UInt8) = a := fun e => h a (by simp) e.symm
    simp [h2, ih (fun c hc => h c (by simp [hc]))]
theorem index_at {f r : List UInt8} (h : ∀ c, c ∈ f → c ≠ 32) : Lib.index (f ++ 32 :: r) [32] = f.length := by
  induction f with
  | nil => simp [Lib.index]
  | cons a f ih =>
    have h1' : ((32 : UInt8) == a) = false := by
      rw [beq_eq_false_iff_ne]; exact fun e => h a (by simp) e.symm
    rw [List.cons_append]
    unfold Lib.index
    rw [ih (fun c hc => h c (by simp [hc]))]
    have : ((f.length : Int) == -1) = false := by rw [beq_eq_false_iff_ne]; omega
    have h2 : ¬ (32 : UInt8) = a := fun e => h a (by simp) e.symm
    simp [h2]
theorem cut_mid {f r : List UInt8} (h : ∀ c, c ∈ f → c ≠ 32) : Lib.cut (f ++ 32 :: r) [32] = (f, r, true) := by
  unfold Lib.cut
  rw [index_at h, if_pos (by omega)]
  simp
theorem cut_end {f : List UInt8} (h : ∀ c, c ∈ f → c ≠ 32) : Lib.cut f [32] = (f, [], false) := by
  unfold Lib.cut
  rw [index_no h, if_neg (by omega)]
theorem atN_le {fs : Nat → List UInt8} {n : Nat} (h : ∀ j, j < n → (fs j).length ≤ 4000) : ∀ k, k ≤ n → atN fs k ≤ 4001 * k
  | 0, _ => Nat.le_refl _
  | k + 1, hk => by
    have h1 := atN_le h k (by omega)
    have h2 := h k (by omega)
    show atN fs k + _ + 1 ≤ _
    omega
theorem restL_len {fs : Nat → List UInt8} {n : Nat} (h : ∀ j, j < n → (fs j).length ≤ 4000) : ∀ d k, k + d < n → (restL fs k d).length ≤ 4001 * (d + 1)
  | 0, k, hk => by have := h k (by omega); unfold restL; omega
  | d + 1, k, hk => by
    have h1 := restL_len h d (k + 1) (by omega)
    have h2 := h k (by omega)
    rw [restL, List.length_append, List.length_cons]
    omega

set_option maxRecDepth 100000 in
set_option maxHeartbeats 2000000 in
theorem split_run (fs : Nat → List UInt8) (xs : Nat → Dyadic) (n m : Nat) (i e mx : Int) (w : World) (hn : n + 1 ≤ 1000) (hm : m ≤ n + 1) (hne : restL fs 0 n ≠ []) (hl : ∀ j, j < n + 1 → (fs j).length ≤ 4000) (hs : ∀ j, j < n + 1 → ∀ c, c ∈ fs j → c ≠ 32) (hp : ∀ j, j < m → litV (fs j) = (xs j, 0, 0)) (hq : m ≤ n → ∃ x, litV (fs m) = (x, i, e)) (he : e ≠ 0) (hi : 0 ≤ i ∧ i ≤ 100000) (hT : Tab0 w) (hx : w.cell? ⟨1, 0, none⟩ = some (.int .i64 mx)) :
    Calls Tryz.prog 24 #[.string ⟨(restL fs 0 n).toArray⟩] w fun r w' => (m = n + 1 → ∃ A c, r = .returned (.tuple #[.slice A (n + 1) c, .int .i64 0, .int .i64 0]) ∧ RdN w' A (n + 1) (fun j => neg (dm (xs j))) (fun j => mag (dm (xs j))) (fun j => de (xs j))) ∧ (m ≤ n → r = .returned (.tuple #[.slice none 0 0, .int .i64 (atN fs m + i), .int .i64 e])) ∧ Below w.heap.size w w' := by
  have HT := Lib.hid hT
  have HX := Lib.hid hx
  have HP := Lib.hid hp
  have HQ := Lib.hid hq
  have HS := Lib.hid hs
  have HL := Lib.hid hl
  have hz : (restL fs 0 n).isEmpty = false := by
    rw [List.isEmpty_eq_false_iff]; exact hne
  clear hT hx hp hq hs hl
  go_enter Tryz.func24, Tryz.ntmps24
  go_wp2_with fail
  clear hz hne
  have hon := OwnK.nil_ w w.heap.size 38 3 (cel3 (fun j => neg (dm (xs j))) (fun j => mag (dm (xs j))) (fun j => de (xs j)))
  go_loopw [0, 2, 3] (fun sv v av wr => ∃ (k d : Nat), k + d = n ∧ k ≤ m ∧ sv = .string ⟨(restL fs k d).toArray⟩ ∧ av = .int .i64 (atN fs k : Nat) ∧ OwnK wr w.heap.size 38 3 v k (cel3 (fun j => neg (dm (xs j))) (fun j => mag (dm (xs j))) (fun j => de (xs j))) ∧ Below w.heap.size w wr) (fun _ _ av _ => 5000000 - (RowKit.intOf av).toNat)
  case atStart => exact ⟨0, n, by omega, Nat.zero_le _, rfl, rfl, hon, Below.refl _ _⟩
  case round =>
    obtain ⟨k, d, hkd, hkm, rfl, rfl, hown, hB⟩ := hrel
    have hat := atN_le HL.out k (by omega)
    have hcm := cell_later hB HX.out
    have hT1 := tab_keep HT.out hB
    have hsz := restL_len HL.out d k (by omega)
    obtain ⟨R, mo, c1, hmo1, hmo0⟩ : ∃ (R : ByteArray) (mo : Bool), Hid (Calls Tryz.prog 50 #[.string ⟨(restL fs k d).toArray⟩, .string ⟨#[32]⟩] wr fun r w' => r = .returned (.tuple #[.string ⟨(fs k).toArray⟩, .string R, .bool mo]) ∧ ∃ q, w' = wr.drewN q) ∧ (mo = true → ∃ d', d = d' + 1 ∧ R = ⟨(restL fs (k + 1) d').toArray⟩) ∧ (mo = false → d = 0) := by
      have c1 := Tryz.strings_Cut (⟨(restL fs k d).toArray⟩ : ByteArray) ⟨#[32]⟩ mx wr (by rw [ba_size]; omega) hcm
      rw [show (⟨(restL fs k d).toArray⟩ : ByteArray).data.toList = restL fs k d from rfl, show (⟨#[32]⟩ : ByteArray).data.toList = [32] from rfl] at c1
      rcases d with _ | d
      · rw [show restL fs k 0 = fs k from rfl, cut_end (HS.out k (by omega))] at c1
        exact ⟨⟨#[]⟩, false, Lib.hid c1, fun h => by simp at h, fun _ => rfl⟩
      · rw [show restL fs k (d + 1) = fs k ++ 32 :: restL fs (k + 1) d from rfl, cut_mid (HS.out k (by omega))] at c1
        exact ⟨_, true, Lib.hid c1, fun _ => ⟨d, rfl, rfl⟩, fun h => by simp at h⟩
    have hfz := HL.out k (by omega)
    have HK := Lib.hid (And.intro hkd (And.intro hkm (And.intro hat hfz)))
    have HM := Lib.hid (And.intro hmo1 hmo0)
    have zk : (⟨(fs k).toArray⟩ : ByteArray).size ≤ 60000 := by rw [ba_size]; omega
    clear hcm hmo1 hmo0 hsz
    by_cases hkm2 : k = m
    · obtain ⟨x, hq⟩ := HQ.out (by omega)
      have c2 := fun W h => lParse_at (s := ⟨(fs k).toArray⟩) (x := x) (i := i) (e := e) (by rw [← hq, hkm2]) W zk h
      unfold vN at c2
      replace c2 := Lib.hid c2
      have hei : (e != 0) = true := by simpa using he
      clear zk hq
      generalize (⟨(restL fs k d).toArray⟩ : ByteArray) = sb at *
      generalize (⟨(fs k).toArray⟩ : ByteArray) = fb at *
      have HA := Lib.hid (show atN fs k = atN fs m by rw [hkm2])
      generalize atN fs k = at0 at *
      go_wp2_with fail
      refine c1.out.mono ?_
      rintro r w1 ⟨rfl, nd, rfl⟩
      have hb1 := below_drewN' (Below.refl wr.heap.size wr) nd
      replace hT1 := tab_keep hT1 hb1
      replace hB := nxt hB hb1
      clear hb1 c1 hown
      generalize wr.drewN nd = w1 at *
      go_wp2_with fail
      refine (c2.out _ hT1).mono ?_
      rintro r w2 ⟨rfl, hb⟩
      replace hB := nxt hB hb
      clear hb hT1 c2
      go_wp2
      go_ret3
      refine ⟨fun h => absurd h (by have := HK.out; omega), fun _ => by rw [← HA.out]; rfl, nxtA hB _⟩
    · have c2 := fun W h => lParse_at (s := ⟨(fs k).toArray⟩) (HP.out k (by omega)) W zk h
      unfold vN at c2
      replace c2 := Lib.hid c2
      clear zk
      generalize (⟨(restL fs k d).toArray⟩ : ByteArray) = sb at *
      have hfb : ((⟨(fs k).toArray⟩ : ByteArray).size : Int) = ((fs k).length : Int) := by rw [ba_size]
      generalize (⟨(fs k).toArray⟩ : ByteArray) = fb at *
      go_wp2_with fail
      refine c1.out.mono ?_
      rintro r w1 ⟨rfl, nd, rfl⟩
      have hb1 := below_drewN' (Below.refl wr.heap.size wr) nd
      replace hT1 := tab_keep hT1 hb1
      replace hB := nxt hB hb1
      replace hown := hown.below hb1
      clear hb1 c1
      generalize wr.drewN nd = w1 at *
      go_wp2_with fail
      refine (c2.out _ hT1).mono ?_
      rintro r w2 ⟨rfl, hb⟩
      replace hB := nxt hB hb
      replace hown := hown.below hb
      clear hb hT1 c2
      have hO := hown.below (b2 w2 (.cells #[.bool (neg (dm (xs k))), .string (mag (dm (xs k))), .int .i64 (de (xs k))] 38) (.cells #[.bool (neg (dm (xs k))), .string (mag (dm (xs k))), .int .i64 (de (xs k))] 38))
      have ZR := Bx.at1 w2 (.cells #[.bool (neg (dm (xs k))), .string (mag (dm (xs k))), .int .i64 (de (xs k))] 38) 38 #[.bool (neg (dm (xs k))), .string (mag (dm (xs k))), .int .i64 (de (xs k))]
      have Z3 := Bx.new w2 38 #[.bool (neg (dm (xs k))), .string (mag (dm (xs k))), .int .i64 (de (xs k))]
      have hB3 := nxtA (nxtA hB (.cells #[.bool (neg (dm (xs k))), .string (mag (dm (xs k))), .int .i64 (de (xs k))] 38)) (.cells #[.bool (neg (dm (xs k))), .string (mag (dm (xs k))), .int .i64 (de (xs k))] 38)
      obtain ⟨r1, r2, r3, _, _, _⟩ := Z3.three
      have HO := Lib.hid (And.intro hO hB3)
      have HN := Lib.hid (show ∀ j, j < 1 → ∀ i, i < 3 → ((w2.alloc (.cells #[.bool (neg (dm (xs k))), .string (mag (dm (xs k))), .int .i64 (de (xs k))] 38)).alloc (.cells #[.bool (neg (dm (xs k))), .string (mag (dm (xs k))), .int .i64 (de (xs k))] 38)).cell? ⟨w2.heap.size + 1, 0 + j * 3 + i, none⟩ = (cel3 (fun j => neg (dm (xs (k + j)))) (fun j => mag (dm (xs (k + j)))) (fun j => de (xs (k + j))) j)[i]? from fun j hj i hi => by
        have hj' : j = 0 := by omega
        have hi' : i = 0 ∨ i = 1 ∨ i = 2 := by omega
        subst hj'
        rcases hi' with rfl | rfl | rfl <;> simp [ZR.cel, cel3])
      have HS2 := Lib.hid (show w.heap.size ≤ ((w2.alloc (.cells #[.bool (neg (dm (xs k))), .string (mag (dm (xs k))), .int .i64 (de (xs k))] 38)).alloc (.cells #[.bool (neg (dm (xs k))), .string (mag (dm (xs k))), .int .i64 (de (xs k))] 38)).heap.size by have := hB.size; simp; omega)
      have HM2 := Lib.hid (show k + 1 ≤ 9223372036854775807 ∧ (k + 1) * 32 ≤ 140737488355328 by omega)
      clear hO ZR hB3 hB hown Z3
      go_wp2_with (at_builtin; refine wpList_appendK rfl (.tmp 31) (.tmp 33) _ rfl w.heap.size 38 _ 3 32 Tryz.underlying35 info_Num rfl (by decide) _ k (cel3 (fun j => neg (dm (xs j))) (fun j => mag (dm (xs j))) (fun j => de (xs j))) rfl HO.out.1 ⟨w2.heap.size + 1, 0, none⟩ 1 1 (cel3 (fun j => neg (dm (xs (k + j)))) (fun j => mag (dm (xs (k + j)))) (fun j => de (xs (k + j)))) (fun _ => rfl) (fun _ => rfl) (cel3_one _ _ _) rfl rfl HN.out HM2.out.1 HM2.out.2 HS2.out ?_; intro v' w5 ho' hb5)
      all_goals
        have hown2 := ho'.congr (f' := cel3 (fun j => neg (dm (xs j))) (fun j => mag (dm (xs j))) (fun j => de (xs j))) (fun j hj => by
          split
          · rfl
          · rename_i h
            unfold cel3
            dsimp only
            rw [show k + (j - k) = j by omega])
        have hB4 := belB HO.out.2 hb5 (Nat.le_refl _)
        obtain ⟨q1, q2, q3, q4⟩ := HK.out
      · rename_i hmo
        obtain rfl : d = 0 := HM.out.2 (by simpa using hmo)
        obtain rfl : k = n := by omega
        obtain ⟨A', c', rfl, hnc, hrd, hba, hno⟩ := OwnK.rd (k := 3) (fun _ => rfl) hown2
        go_ret3
        exact ⟨fun _ => ⟨A', c', rfl, hrd.num⟩, fun h => absurd h (by omega), hB4⟩
      · rename_i hmo
        obtain ⟨d', rfl, rfl⟩ := HM.out.1 (by simpa using hmo)
        refine ⟨⟨k + 1, d', by omega, by omega, rfl, by simp [atN], hown2, hB4⟩, ?_⟩
        simp only [RowKit.intOf]
        omega
end Go.Proofs.YtkgogbmeehiloaaGreatDoor

namespace Go.Proofs.YtkgogbmeehiloaaGreatDoor
open Go Go.RowKit Go.Lib

theorem numK3_m2 (W : World) : Calls Tryz.prog 45 #[.int .i64 3, .int .i64 (-2)] W fun r w' => r = .returned (.agg #[.bool false, .string ⟨#[3]⟩, .int .i64 (-2)]) ∧ Below W.heap.size W w' := by
  have c := (num_r (n := 3) (p := (-2)) (by decide) (by decide) W).at
  rwa [show vN (dy (dm (dy 3 0)) (de (dy 3 0) + (-2))) = .agg #[.bool false, .string ⟨#[3]⟩, .int .i64 (-2)] from by kernel_rfl] at c
theorem numKm5_0 (W : World) : Calls Tryz.prog 45 #[.int .i64 (-5), .int .i64 0] W fun r w' => r = .returned (.agg #[.bool true, .string ⟨#[5]⟩, .int .i64 0]) ∧ Below W.heap.size W w' := by
  have c := (num_r (n := (-5)) (p := 0) (by decide) (by decide) W).at
  rwa [show vN (dy (dm (dy (-5) 0)) (de (dy (-5) 0) + 0)) = .agg #[.bool true, .string ⟨#[5]⟩, .int .i64 0] from by kernel_rfl] at c
theorem numK12_0 (W : World) : Calls Tryz.prog 45 #[.int .i64 12, .int .i64 0] W fun r w' => r = .returned (.agg #[.bool false, .string ⟨#[3]⟩, .int .i64 2]) ∧ Below W.heap.size W w' := by
  have c := (num_r (n := 12) (p := 0) (by decide) (by decide) W).at
  rwa [show vN (dy (dm (dy 12 0)) (de (dy 12 0) + 0)) = .agg #[.bool false, .string ⟨#[3]⟩, .int .i64 2] from by kernel_rfl] at c
theorem numK0_0 (W : World) : Calls Tryz.prog 45 #[.int .i64 0, .int .i64 0] W fun r w' => r = .returned (.agg #[.bool false, .string ⟨#[]⟩, .int .i64 0]) ∧ Below W.heap.size W w' := by
  have c := (num_r (n := 0) (p := 0) (by decide) (by decide) W).at
  rwa [show vN (dy (dm (dy 0 0)) (de (dy 0 0) + 0)) = .agg #[.bool false, .string ⟨#[]⟩, .int .i64 0] from by kernel_rfl] at c
theorem numKm3_m2 (W : World) : Calls Tryz.prog 45 #[.int .i64 (-3), .int .i64 (-2)] W fun r w' => r = .returned (.agg #[.bool true, .string ⟨#[3]⟩, .int .i64 (-2)]) ∧ Below W.heap.size W w' := by
  have c := (num_r (n := (-3)) (p := (-2)) (by decide) (by decide) W).at
  rwa [show vN (dy (dm (dy (-3) 0)) (de (dy (-3) 0) + (-2))) = .agg #[.bool true, .string ⟨#[3]⟩, .int .i64 (-2)] from by kernel_rfl] at c
theorem numK1_0 (W : World) : Calls Tryz.prog 45 #[.int .i64 1, .int .i64 0] W fun r w' => r = .returned (.agg #[.bool false, .string ⟨#[1]⟩, .int .i64 0]) ∧ Below W.heap.size W w' := by
  have c := (num_r (n := 1) (p := 0) (by decide) (by decide) W).at
  rwa [show vN (dy (dm (dy 1 0)) (de (dy 1 0) + 0)) = .agg #[.bool false, .string ⟨#[1]⟩, .int .i64 0] from by kernel_rfl] at c
theorem numK1_m1 (W : World) : Calls Tryz.prog 45 #[.int .i64 1, .int .i64 (-1)] W fun r w' => r = .returned (.agg #[.bool false, .string ⟨#[1]⟩, .int .i64 (-1)]) ∧ Below W.heap.size W w' := by
  have c := (num_r (n := 1) (p := (-1)) (by decide) (by decide) W).at
  rwa [show vN (dy (dm (dy 1 0)) (de (dy 1 0) + (-1))) = .agg #[.bool false, .string ⟨#[1]⟩, .int .i64 (-1)] from by kernel_rfl] at c
theorem prK3_m2 (W : World) (hT : Tab0 W) (h10 : Tab10 W) : Calls Tryz.prog 17 #[.agg #[.bool false, .string ⟨#[3]⟩, .int .i64 (-2)]] W fun r w' => r = .returned (.string ⟨#[51, 112, 45, 50]⟩) ∧ Below W.heap.size W w' := by
  have c := lPrint_any false ⟨#[3]⟩ (-2) W (by decide) (by decide) hT h10
  rwa [show ntext (dy (ival false (sval ⟨#[3]⟩)) (-2)) = ⟨#[51, 112, 45, 50]⟩ from by kernel_rfl] at c
theorem prKm5_0 (W : World) (hT : Tab0 W) (h10 : Tab10 W) : Calls Tryz.prog 17 #[.agg #[.bool true, .string ⟨#[5]⟩, .int .i64 0]] W fun r w' => r = .returned (.string ⟨#[45, 53]⟩) ∧ Below W.heap.size W w' := by
  have c := lPrint_any true ⟨#[5]⟩ 0 W (by decide) (by decide) hT h10
  rwa [show ntext (dy (ival true (sval ⟨#[5]⟩)) 0) = ⟨#[45, 53]⟩ from by kernel_rfl] at c
theorem prK12_0 (W : World) (hT : Tab0 W) (h10 : Tab10 W) : Calls Tryz.prog 17 #[.agg #[.bool false, .string ⟨#[3]⟩, .int .i64 2]] W fun r w' => r = .returned (.string ⟨#[51, 112, 50]⟩) ∧ Below W.heap.size W w' := by
  have c := lPrint_any false ⟨#[3]⟩ 2 W (by decide) (by decide) hT h10
  rwa [show ntext (dy (ival false (sval ⟨#[3]⟩)) 2) = ⟨#[51, 112, 50]⟩ from by kernel_rfl] at c
theorem prK0_0 (W : World) (hT : Tab0 W) (h10 : Tab10 W) : Calls Tryz.prog 17 #[.agg #[.bool false, .string ⟨#[]⟩, .int .i64 0]] W fun r w' => r = .returned (.string ⟨#[48]⟩) ∧ Below W.heap.size W w' := by
  have c := lPrint_any false ⟨#[]⟩ 0 W (by decide) (by decide) hT h10
  rwa [show ntext (dy (ival false (sval ⟨#[]⟩)) 0) = ⟨#[48]⟩ from by kernel_rfl] at c
theorem isK0 (W : World) (hT : Tab0 W) : Calls Tryz.prog 23 #[.string ⟨#[51, 47, 52]⟩, .agg #[.bool false, .string ⟨#[3]⟩, .int .i64 (-2)]] W fun r w' => r = .returned (.bool true) ∧ Below W.heap.size W w' := by
  have c := (is_r (s := ⟨#[51, 47, 52]⟩) (x := dy 3 (-2)) (by decide) (by kernel_rfl) W hT).at
  rwa [show vN (dy 3 (-2)) = .agg #[.bool false, .string ⟨#[3]⟩, .int .i64 (-2)] from by kernel_rfl] at c
theorem isK1 (W : World) (hT : Tab0 W) : Calls Tryz.prog 23 #[.string ⟨#[45, 54, 112, 45, 51]⟩, .agg #[.bool true, .string ⟨#[3]⟩, .int .i64 (-2)]] W fun r w' => r = .returned (.bool true) ∧ Below W.heap.size W w' := by
  have c := (is_r (s := ⟨#[45, 54, 112, 45, 51]⟩) (x := dy (-3) (-2)) (by decide) (by kernel_rfl) W hT).at
  rwa [show vN (dy (-3) (-2)) = .agg #[.bool true, .string ⟨#[3]⟩, .int .i64 (-2)] from by kernel_rfl] at c
theorem isK2 (W : World) (hT : Tab0 W) : Calls Tryz.prog 23 #[.string ⟨#[48, 112, 57]⟩, .agg #[.bool false, .string ⟨#[]⟩, .int .i64 0]] W fun r w' => r = .returned (.bool true) ∧ Below W.heap.size W w' := by
  have c := (is_r (s := ⟨#[48, 112, 57]⟩) (x := dy 0 0) (by decide) (by kernel_rfl) W hT).at
  rwa [show vN (dy 0 0) = .agg #[.bool false, .string ⟨#[]⟩, .int .i64 0] from by kernel_rfl] at c
theorem wrK0 (W : World) (hT : Tab0 W) : Calls Tryz.prog 46 #[.string ⟨#[]⟩, .int .i64 0, .int .i64 2] W fun r w' => r = .returned (.bool true) ∧ Below W.heap.size W w' := (wrong_r (s := ⟨#[]⟩) (i := 0) (e := 2) (by decide) (by kernel_rfl) W hT).at
theorem wrK1 (W : World) (hT : Tab0 W) : Calls Tryz.prog 46 #[.string ⟨#[49, 112]⟩, .int .i64 2, .int .i64 2] W fun r w' => r = .returned (.bool true) ∧ Below W.heap.size W w' := (wrong_r (s := ⟨#[49, 112]⟩) (i := 2) (e := 2) (by decide) (by kernel_rfl) W hT).at
theorem wrK2 (W : World) (hT : Tab0 W) : Calls Tryz.prog 46 #[.string ⟨#[49, 47]⟩, .int .i64 2, .int .i64 2] W fun r w' => r = .returned (.bool true) ∧ Below W.heap.size W w' := (wrong_r (s := ⟨#[49, 47]⟩) (i := 2) (e := 2) (by decide) (by kernel_rfl) W hT).at
theorem wrK3 (W : World) (hT : Tab0 W) : Calls Tryz.prog 46 #[.string ⟨#[49, 112, 50, 112, 51]⟩, .int .i64 3, .int .i64 2] W fun r w' => r = .returned (.bool true) ∧ Below W.heap.size W w' := (wrong_r (s := ⟨#[49, 112, 50, 112, 51]⟩) (i := 3) (e := 2) (by decide) (by kernel_rfl) W hT).at
theorem wrK4 (W : World) (hT : Tab0 W) : Calls Tryz.prog 46 #[.string ⟨#[120]⟩, .int .i64 0, .int .i64 2] W fun r w' => r = .returned (.bool true) ∧ Below W.heap.size W w' := (wrong_r (s := ⟨#[120]⟩) (i := 0) (e := 2) (by decide) (by kernel_rfl) W hT).at
theorem wrK5 (W : World) (hT : Tab0 W) : Calls Tryz.prog 46 #[.string ⟨#[45, 48]⟩, .int .i64 1, .int .i64 2] W fun r w' => r = .returned (.bool true) ∧ Below W.heap.size W w' := (wrong_r (s := ⟨#[45, 48]⟩) (i := 1) (e := 2) (by decide) (by kernel_rfl) W hT).at
theorem wrK6 (W : World) (hT : Tab0 W) : Calls Tryz.prog 46 #[.string ⟨#[49, 47, 51]⟩, .int .i64 0, .int .i64 1] W fun r w' => r = .returned (.bool true) ∧ Below W.heap.size W w' := (wrong_r (s := ⟨#[49, 47, 51]⟩) (i := 0) (e := 1) (by decide) (by kernel_rfl) W hT).at
theorem wrK7 (W : World) (hT : Tab0 W) : Calls Tryz.prog 46 #[.string ⟨#[49, 47, 45, 50]⟩, .int .i64 0, .int .i64 1] W fun r w' => r = .returned (.bool true) ∧ Below W.heap.size W w' := (wrong_r (s := ⟨#[49, 47, 45, 50]⟩) (i := 0) (e := 1) (by decide) (by kernel_rfl) W hT).at
theorem wrK8 (W : World) (hT : Tab0 W) : Calls Tryz.prog 46 #[.string ⟨#[49, 112, 51, 50, 55, 54, 57]⟩, .int .i64 0, .int .i64 3] W fun r w' => r = .returned (.bool true) ∧ Below W.heap.size W w' := (wrong_r (s := ⟨#[49, 112, 51, 50, 55, 54, 57]⟩) (i := 0) (e := 3) (by decide) (by kernel_rfl) W hT).at
/-- The rows of the examples. -/
def eb (_ : Nat) : Bool := false
def es (_ : Nat) : ByteArray := ⟨#[1]⟩
def ee (j : Nat) : Int := if j = 0 then 0 else -1
def ef1 (j : Nat) : List UInt8 := if j = 0 then [49] else [49, 112, 45, 49]
def ef2 (j : Nat) : List UInt8 := if j = 0 then [49] else if j = 1 then [] else [50]
def ex (j : Nat) : Dyadic := if j = 0 then dy 1 0 else dy 1 (-1)
theorem spK1 (mx : Int) (W : World) (hT : Tab0 W) (hx : W.cell? ⟨1, 0, none⟩ = some (.int .i64 mx)) :
    Calls Tryz.prog 24 #[.string ⟨#[49, 32, 49, 112, 45, 49]⟩] W fun r w' => ∃ A c, r = .returned (.tuple #[.slice A 2 c, .int .i64 0, .int .i64 0]) ∧ RdN w' A 2 eb es ee ∧ Below W.heap.size W w' := by
  have c := split_run ef1 ex 1 2 0 1 mx W (by decide) (by decide) (by decide) (fun j hj => by rcases (by omega : j = 0 ∨ j = 1) with rfl | rfl <;> decide) (fun j hj => by rcases (by omega : j = 0 ∨ j = 1) with rfl | rfl <;> decide) (fun j hj => by rcases (by omega : j = 0 ∨ j = 1) with rfl | rfl <;> kernel_rfl) (fun h => absurd h (by decide)) (by decide) (by decide) hT hx
  rw [show (⟨(restL ef1 0 1).toArray⟩ : ByteArray) = ⟨#[49, 32, 49, 112, 45, 49]⟩ from rfl] at c
  refine c.mono ?_
  rintro r w1 ⟨h1, _, hb⟩
  obtain ⟨A, c, rfl, hr⟩ := h1 rfl
  refine ⟨A, c, rfl, fun h => ?_, hb⟩
  obtain ⟨b, off, e, hc⟩ := hr h
  refine ⟨b, off, e, fun j hj => ?_⟩
  have h2 := hc j hj
  dsimp only at h2
  rcases (by omega : j = 0 ∨ j = 1) with rfl | rfl
  · rw [show neg (dm (ex 0)) = eb 0 from by kernel_rfl, show mag (dm (ex 0)) = es 0 from by kernel_rfl, show de (ex 0) = ee 0 from by kernel_rfl] at h2; exact h2
  · rw [show neg (dm (ex 1)) = eb 1 from by kernel_rfl, show mag (dm (ex 1)) = es 1 from by kernel_rfl, show de (ex 1) = ee 1 from by kernel_rfl] at h2; exact h2
theorem spK2 (mx : Int) (W : World) (hT : Tab0 W) (hx : W.cell? ⟨1, 0, none⟩ = some (.int .i64 mx)) :
    Calls Tryz.prog 24 #[.string ⟨#[49, 32, 32, 50]⟩] W fun r w' => r = .returned (.tuple #[.slice none 0 0, .int .i64 2, .int .i64 2]) ∧ Below W.heap.size W w' := by
  have c := split_run ef2 ex 2 1 0 2 mx W (by decide) (by decide) (by decide) (fun j hj => by rcases (by omega : j = 0 ∨ j = 1 ∨ j = 2) with rfl | rfl | rfl <;> decide) (fun j hj => by rcases (by omega : j = 0 ∨ j = 1 ∨ j = 2) with rfl | rfl | rfl <;> decide) (fun j hj => by rcases (by omega : j = 0) with rfl; kernel_rfl) (fun h => ⟨0, by kernel_rfl⟩) (by decide) (by decide) hT hx
  rw [show (⟨(restL ef2 0 2).toArray⟩ : ByteArray) = ⟨#[49, 32, 32, 50]⟩ from rfl] at c
  refine c.mono ?_
  rintro r w1 ⟨_, h1, hb⟩
  exact ⟨h1 (by decide), hb⟩
theorem rowK (A : Option Addr) (c : Nat) (W : World) (hr : RdN W A 2 eb es ee) (hT : Tab0 W) (h10 : Tab10 W) : Calls Tryz.prog 19 #[.slice A 2 c] W fun r w' => r = .returned (.string ⟨#[49, 32, 49, 112, 45, 49]⟩) ∧ Below W.heap.size W w' := by
  have h := lRow_any A 2 c eb es ee W (by decide) (fun j _ => by show (⟨#[1]⟩ : ByteArray).size ≤ 1000; decide) (fun j hj => by rcases (by omega : j = 0 ∨ j = 1) with rfl | rfl <;> decide) hr hT h10
  rwa [show rowT (xsOf eb es ee) 2 = ⟨#[49, 32, 49, 112, 45, 49]⟩ from by kernel_rfl] at h
theorem erd {w : World} {g : Nat} (h : Bx w g 38 #[.bool false, .string ⟨#[1]⟩, .int .i64 0, .bool false, .string ⟨#[1]⟩, .int .i64 (-1)]) : RdN w (some ⟨g, 0, none⟩) 2 eb es ee := fun _ => ⟨g, 0, rfl, fun j hj => by
  rcases (by omega : j = 0 ∨ j = 1) with rfl | rfl
  · exact ⟨h.cel 0, h.cel 1, h.cel 2⟩
  · exact ⟨h.cel 3, h.cel 4, h.cel 5⟩⟩

set_option maxRecDepth 100000 in
set_option maxHeartbeats 8000000 in
theorem awakeL (mx : Int) (w : World) (hT : Tab0 w) (h10 : Tab10 w) (hx : w.cell? ⟨1, 0, none⟩ = some (.int .i64 mx)) :
    Calls Tryz.prog 15 #[] w fun r w' => r = .returned (.bool true) ∧ Below w.heap.size w w' := by
  have k1 := Lib.hid (spK1 mx w hT hx)
  have HT0 := Lib.hid hT
  have H100 := Lib.hid h10
  have HX := Lib.hid hx
  clear hT h10 hx
  go_enter Tryz.func15, Tryz.ntmps15
  go_wp2_with fail
  refine k1.out.mono ?_
  rintro r w1 ⟨A, c, rfl, hrd, hB0⟩
  have HT := Lib.hid (tab_keep HT0.out hB0)
  have H10 := Lib.hid (H100.out.later hB0)
  have k2 := Lib.hid (spK2 mx w1 HT.out (cell_later hB0 HX.out))
  have HR := Lib.hid hrd
  have HB0 := Lib.hid hB0
  clear hrd hB0 k1 HT0 H100 HX
  go_wp2_with fail
  refine k2.out.mono ?_
  rintro r w2 ⟨rfl, hB⟩
  have cn3_m2 := Lib.hid (fun W (hb : Below w1.heap.size w1 W) => numK3_m2 W)
  have cnm5_0 := Lib.hid (fun W (hb : Below w1.heap.size w1 W) => numKm5_0 W)
  have cn12_0 := Lib.hid (fun W (hb : Below w1.heap.size w1 W) => numK12_0 W)
  have cn0_0 := Lib.hid (fun W (hb : Below w1.heap.size w1 W) => numK0_0 W)
  have cnm3_m2 := Lib.hid (fun W (hb : Below w1.heap.size w1 W) => numKm3_m2 W)
  have cn1_0 := Lib.hid (fun W (hb : Below w1.heap.size w1 W) => numK1_0 W)
  have cn1_m1 := Lib.hid (fun W (hb : Below w1.heap.size w1 W) => numK1_m1 W)
  have cp3_m2 := Lib.hid (fun W (hb : Below w1.heap.size w1 W) => prK3_m2 W (tab_keep HT.out hb) (H10.out.later hb))
  have cpm5_0 := Lib.hid (fun W (hb : Below w1.heap.size w1 W) => prKm5_0 W (tab_keep HT.out hb) (H10.out.later hb))
  have cp12_0 := Lib.hid (fun W (hb : Below w1.heap.size w1 W) => prK12_0 W (tab_keep HT.out hb) (H10.out.later hb))
  have cp0_0 := Lib.hid (fun W (hb : Below w1.heap.size w1 W) => prK0_0 W (tab_keep HT.out hb) (H10.out.later hb))
  have ci0 := Lib.hid (fun W (hb : Below w1.heap.size w1 W) => isK0 W (tab_keep HT.out hb))
  have ci1 := Lib.hid (fun W (hb : Below w1.heap.size w1 W) => isK1 W (tab_keep HT.out hb))
  have ci2 := Lib.hid (fun W (hb : Below w1.heap.size w1 W) => isK2 W (tab_keep HT.out hb))
  have cw0 := Lib.hid (fun W (hb : Below w1.heap.size w1 W) => wrK0 W (tab_keep HT.out hb))
  have cw1 := Lib.hid (fun W (hb : Below w1.heap.size w1 W) => wrK1 W (tab_keep HT.out hb))
  have cw2 := Lib.hid (fun W (hb : Below w1.heap.size w1 W) => wrK2 W (tab_keep HT.out hb))
  have cw3 := Lib.hid (fun W (hb : Below w1.heap.size w1 W) => wrK3 W (tab_keep HT.out hb))
  have cw4 := Lib.hid (fun W (hb : Below w1.heap.size w1 W) => wrK4 W (tab_keep HT.out hb))
  have cw5 := Lib.hid (fun W (hb : Below w1.heap.size w1 W) => wrK5 W (tab_keep HT.out hb))
  have cw6 := Lib.hid (fun W (hb : Below w1.heap.size w1 W) => wrK6 W (tab_keep HT.out hb))
  have cw7 := Lib.hid (fun W (hb : Below w1.heap.size w1 W) => wrK7 W (tab_keep HT.out hb))
  have cw8 := Lib.hid (fun W (hb : Below w1.heap.size w1 W) => wrK8 W (tab_keep HT.out hb))
  have cr := Lib.hid (fun A c W (h : RdN W A 2 eb es ee) (hb : Below w1.heap.size w1 W) => rowK A c W h (tab_keep HT.out hb) (H10.out.later hb))
  have cs := Lib.hid (fun B c' W (h : RdN W B 2 eb es ee) (hb : Below w1.heap.size w1 W) => same_any A B 2 c c' eb es ee W (by decide) (HR.out.below hb) h)
  go_wp2_with fail
  refine (cn3_m2.out _ hB).mono ?_
  rintro r w3 ⟨rfl, hb⟩
  replace hB := nxt hB hb
  clear hb
  go_wp2_with fail
  refine (cp3_m2.out _ hB).mono ?_
  rintro r w4 ⟨rfl, hb⟩
  replace hB := nxt hB hb
  clear hb
  go_wp2_with fail
  refine (cnm5_0.out _ hB).mono ?_
  rintro r w5 ⟨rfl, hb⟩
  replace hB := nxt hB hb
  clear hb
  go_wp2_with fail
  refine (cpm5_0.out _ hB).mono ?_
  rintro r w6 ⟨rfl, hb⟩
  replace hB := nxt hB hb
  clear hb
  go_wp2_with fail
  refine (cn12_0.out _ hB).mono ?_
  rintro r w7 ⟨rfl, hb⟩
  replace hB := nxt hB hb
  clear hb
  go_wp2_with fail
  refine (cp12_0.out _ hB).mono ?_
  rintro r w8 ⟨rfl, hb⟩
  replace hB := nxt hB hb
  clear hb
  go_wp2_with fail
  refine (cn0_0.out _ hB).mono ?_
  rintro r w9 ⟨rfl, hb⟩
  replace hB := nxt hB hb
  clear hb
  go_wp2_with fail
  refine (cp0_0.out _ hB).mono ?_
  rintro r w10 ⟨rfl, hb⟩
  replace hB := nxt hB hb
  clear hb
  go_wp2_with fail
  refine (cn3_m2.out _ hB).mono ?_
  rintro r w11 ⟨rfl, hb⟩
  replace hB := nxt hB hb
  clear hb
  go_wp2_with fail
  refine (ci0.out _ hB).mono ?_
  rintro r w12 ⟨rfl, hb⟩
  replace hB := nxt hB hb
  clear hb
  go_wp2_with fail
  refine (cnm3_m2.out _ hB).mono ?_
  rintro r w13 ⟨rfl, hb⟩
  replace hB := nxt hB hb
  clear hb
  go_wp2_with fail
  refine (ci1.out _ hB).mono ?_
  rintro r w14 ⟨rfl, hb⟩
  replace hB := nxt hB hb
  clear hb
  go_wp2_with fail
  refine (cn0_0.out _ hB).mono ?_
  rintro r w15 ⟨rfl, hb⟩
  replace hB := nxt hB hb
  clear hb
  go_wp2_with fail
  refine (ci2.out _ hB).mono ?_
  rintro r w16 ⟨rfl, hb⟩
  replace hB := nxt hB hb
  clear hb
  go_wp2_with fail
  refine (cw0.out _ hB).mono ?_
  rintro r w17 ⟨rfl, hb⟩
  replace hB := nxt hB hb
  clear hb
  go_wp2_with fail
  refine (cw1.out _ hB).mono ?_
  rintro r w18 ⟨rfl, hb⟩
  replace hB := nxt hB hb
  clear hb
  go_wp2_with fail
  refine (cw2.out _ hB).mono ?_
  rintro r w19 ⟨rfl, hb⟩
  replace hB := nxt hB hb
  clear hb
  go_wp2_with fail
  refine (cw3.out _ hB).mono ?_
  rintro r w20 ⟨rfl, hb⟩
  replace hB := nxt hB hb
  clear hb
  go_wp2_with fail
  refine (cw4.out _ hB).mono ?_
  rintro r w21 ⟨rfl, hb⟩
  replace hB := nxt hB hb
  clear hb
  go_wp2_with fail
  refine (cw5.out _ hB).mono ?_
  rintro r w22 ⟨rfl, hb⟩
  replace hB := nxt hB hb
  clear hb
  go_wp2_with fail
  refine (cw6.out _ hB).mono ?_
  rintro r w23 ⟨rfl, hb⟩
  replace hB := nxt hB hb
  clear hb
  go_wp2_with fail
  refine (cw7.out _ hB).mono ?_
  rintro r w24 ⟨rfl, hb⟩
  replace hB := nxt hB hb
  clear hb
  go_wp2_with fail
  refine (cw8.out _ hB).mono ?_
  rintro r w25 ⟨rfl, hb⟩
  replace hB := nxt hB hb
  clear hb
  go_wp2_with fail
  refine (cn1_0.out _ hB).mono ?_
  rintro r w26 ⟨rfl, hb⟩
  replace hB := nxt hB hb
  clear hb
  go_wp2_with fail
  refine (cn1_m1.out _ hB).mono ?_
  rintro r w27 ⟨rfl, hb⟩
  replace hB := nxt hB hb
  clear hb
  have hr27 := erd (Bx.new w27 38 #[.bool false, .string ⟨#[1]⟩, .int .i64 0, .bool false, .string ⟨#[1]⟩, .int .i64 (-1)])
  replace hB := nxtA hB (.cells #[.bool false, .string ⟨#[1]⟩, .int .i64 0, .bool false, .string ⟨#[1]⟩, .int .i64 (-1)] 38)
  go_wp2_with fail
  refine (cr.out _ _ _ hr27 hB).mono ?_
  rintro r w28 ⟨rfl, hb⟩
  replace hB := nxt hB hb
  clear hb hr27
  go_wp2_with fail
  refine (cn1_0.out _ hB).mono ?_
  rintro r w29 ⟨rfl, hb⟩
  replace hB := nxt hB hb
  clear hb
  go_wp2_with fail
  refine (cn1_m1.out _ hB).mono ?_
  rintro r w30 ⟨rfl, hb⟩
  replace hB := nxt hB hb
  clear hb
  have hr30 := erd (Bx.new w30 38 #[.bool false, .string ⟨#[1]⟩, .int .i64 0, .bool false, .string ⟨#[1]⟩, .int .i64 (-1)])
  replace hB := nxtA hB (.cells #[.bool false, .string ⟨#[1]⟩, .int .i64 0, .bool false, .string ⟨#[1]⟩, .int .i64 (-1)] 38)
  go_wp2_with fail
  refine (cs.out _ _ _ hr30 hB).mono ?_
  rintro r w31 ⟨rfl, hb⟩
  replace hB := nxt hB hb
  clear hb hr30
  go_wp2
  go_ret
  exact ⟨rfl, nxt HB0.out hB⟩
end Go.Proofs.YtkgogbmeehiloaaGreatDoor

namespace Go.Proofs.YtkgogbmeehiloaaGreatDoor
open Go Go.RowKit Go.Lib

def okF (s : ByteArray) (e : Int) : Prop := s.size ≤ 24 ∧ -32000 ≤ e ∧ e ≤ 32000
theorem farN (b : Bool) (s : ByteArray) (e : Int) (W : World) (h : okF s e) : Calls Tryz.prog 16 #[.agg #[.bool b, .string s, .int .i64 e]] W fun r w' => r = .returned (.bool false) ∧ Below W.heap.size W w' := (far_n h W).at
theorem farY (b : Bool) (s : ByteArray) (e : Int) (W : World) (h : ¬ okF s e) : Calls Tryz.prog 16 #[.agg #[.bool b, .string s, .int .i64 e]] W fun r w' => r = .returned (.bool true) ∧ Below W.heap.size W w' := (far_y h W).at

theorem RdN.cel {w : World} {A : Option Addr} {n : Nat} {bs : Nat → Bool} {ss : Nat → ByteArray} {es : Nat → Int} (h : RdN w A n bs ss es) : RdK w A n 3 (cel3 bs ss es) := fun h0 => by
  obtain ⟨b, off, rfl, hc⟩ := h h0
  refine ⟨b, off, rfl, fun j hj i hi => ?_⟩
  have hi' : i = 0 ∨ i = 1 ∨ i = 2 := by omega
  obtain ⟨h1, h2, h3⟩ := hc j hj
  rcases hi' with rfl | rfl | rfl
  · exact h1
  · exact h2
  · exact h3
end Go.Proofs.YtkgogbmeehiloaaGreatDoor

namespace Go.Proofs.YtkgogbmeehiloaaGreatDoor
open Go Go.RowKit Go.Lib

theorem dig_no32 (n : Nat) : ∀ c, c ∈ decDigits n → c ≠ 32 := by
  intro c hc e
  obtain ⟨h1, _⟩ := isDig_iff.1 (dec_dig n c hc)
  subst e
  exact absurd h1 (by decide)
theorem itoa_no32 (z : Int) : ∀ c, c ∈ itoa z → c ≠ 32 := by
  intro c hc
  unfold itoa at hc
  split at hc
  · rcases List.mem_cons.1 hc with rfl | hc
    · decide
    · exact dig_no32 _ c hc
  · exact dig_no32 _ c hc
theorem itoa_ne (z : Int) : itoa z ≠ [] := by
  unfold itoa
  split
  · simp
  · exact dec_ne _
theorem ntL_no32 (x : Dyadic) : ∀ c, c ∈ ntL x → c ≠ 32 := by
  intro c hc
  unfold ntL at hc
  split at hc
  · exact itoa_no32 _ c hc
  · rcases List.mem_append.1 hc with hc | hc
    · exact itoa_no32 _ c hc
    · rcases List.mem_cons.1 hc with rfl | hc
      · decide
      · exact itoa_no32 _ c hc
theorem ntL_ne (x : Dyadic) : ntL x ≠ [] := by
  unfold ntL
  split
  · exact itoa_ne _
  · simp
theorem restL_ne (fs : Nat → List UInt8) (h : ∀ j, fs j ≠ []) : ∀ d k, restL fs k d ≠ []
  | 0, k => h k
  | d + 1, k => by unfold restL; simp
theorem lit_parts (l : List UInt8) : ((litV l).2.2 ≠ 0 → (litV l).1 = 0) ∧ ((litV l).2.2 = 0 → (litV l).2.1 = 0) ∧ bsz (dm (litV l).1) ≤ l.length := by
  have h0 : ∀ n : Nat, bsz (dm 0) ≤ n := fun n => Nat.zero_le n
  have hd : parseAt (l.take (sgK l)) = none → ∀ e : Int, bsz (dm (dy (parseZ (l.take (sgK l))) e)) ≤ l.length := fun h e => by
    refine Nat.le_trans (bsz_natAbs_le (dm_le _ _)) ?_
    have h2 := pz_bsz (l := l.take (sgK l)) (n := l.length) (by rw [List.length_take]; omega)
    unfold pz at h2
    rw [h] at h2
    exact h2
  unfold litV
  split
  · exact ⟨fun _ => rfl, fun h => absurd h (by show ¬ (2 : Int) = 0; decide), h0 _⟩
  · rename_i hn
    replace hd := hd hn
    split
    · exact ⟨fun h => absurd rfl h, fun _ => rfl, hd _⟩
    · split
      · exact ⟨fun _ => rfl, fun h => absurd h (by show ¬ (2 : Int) = 0; decide), h0 _⟩
      · split
        · split
          · exact ⟨fun h => absurd rfl h, fun _ => rfl, hd _⟩
          · exact ⟨fun _ => rfl, fun h => absurd h (by decide), h0 _⟩
        · split
          · exact ⟨fun h => absurd rfl h, fun _ => rfl, hd _⟩
          · exact ⟨fun _ => rfl, fun h => absurd h (by decide), h0 _⟩
theorem own_de {b : Bool} {s : ByteArray} {e : Int} (h : okF s e) : -32768 ≤ de (dy (ival b (sval s)) e) ∧ de (dy (ival b (sval s)) e) ≤ 32768 := by
  have hn : (ival b (sval s)).natAbs < 256 ^ 24 := by
    have h1 := sval_lt s
    have h2 : (256 : Nat) ^ s.size ≤ 256 ^ 24 := Nat.pow_le_pow_right (by decide) h.1
    have h3 : (ival b (sval s)).natAbs = sval s := by unfold ival; split <;> omega
    omega
  have h2 := h.2
  rcases de_bd (e := e) hn with ⟨_, h⟩ | h
  · omega
  · omega
theorem own_ok {b : Bool} {s : ByteArray} {e : Int} (h : okF s e) : litV (ntL (dy (ival b (sval s)) e)) = (dy (ival b (sval s)) e, 0, 0) := lit_own _ (own_de h)
set_option maxRecDepth 100000 in
set_option maxHeartbeats 1000000 in
theorem split_none (w : World) : Calls Tryz.prog 24 #[.string ⟨#[]⟩] w fun r w' => r = .returned (.tuple #[.slice none 0 0, .int .i64 0, .int .i64 0]) ∧ Below w.heap.size w w' := by
  go_enter Tryz.func24, Tryz.ntmps24
  go_wp2_with fail
  go_ret3
  exact ⟨rfl, Below.refl _ _⟩
/-- A row's own text is split as the row. -/
theorem split_row (bs : Nat → Bool) (ss : Nat → ByteArray) (es : Nat → Int) (n : Nat) (mx : Int) (W : World) (hn : n ≤ 20) (hok : ∀ j, j < n → okF (ss j) (es j)) (hT : Tab0 W) (hx : W.cell? ⟨1, 0, none⟩ = some (.int .i64 mx)) :
    Calls Tryz.prog 24 #[.string (rowT (xsOf bs ss es) n)] W fun r w' => (∃ A c, r = .returned (.tuple #[.slice A n c, .int .i64 0, .int .i64 0]) ∧ RdN w' A n (fun j => neg (dm (xsOf bs ss es j))) (fun j => mag (dm (xsOf bs ss es j))) (fun j => de (xsOf bs ss es j))) ∧ Below W.heap.size W w' := by
  rcases n with _ | n
  · exact (split_none W).mono fun r w' h => ⟨⟨none, 0, h.1, fun h0 => absurd h0 (by decide)⟩, h.2⟩
  · have hl : ∀ j, j < n + 1 → (ntL (xsOf bs ss es j)).length ≤ 4000 := fun j hj => by
      have h := ntext_size (b := bs j) (s := ss j) (e := es j) (by have := (hok j hj).1; omega) (by have := (hok j hj).2; omega)
      unfold ntext at h
      rwa [ba_size] at h
    have hp : ∀ j, j < n + 1 → litV (ntL (xsOf bs ss es j)) = (xsOf bs ss es j, 0, 0) := fun j hj => own_ok (hok j hj)
    have c := split_run (fun j => ntL (xsOf bs ss es j)) (xsOf bs ss es) n (n + 1) 0 1 mx W (by omega) (Nat.le_refl _) (restL_ne _ (fun j => ntL_ne _) _ _) hl (fun j _ => ntL_no32 _) hp (fun h => absurd h (by omega)) (by decide) (by decide) hT hx
    rw [show (⟨(restL (fun j => ntL (xsOf bs ss es j)) 0 n).toArray⟩ : ByteArray) = rowT (xsOf bs ss es) (n + 1) by unfold rowT; rw [rowL_rest]] at c
    exact c.mono fun r w' ⟨h1, _, h3⟩ => ⟨h1 rfl, h3⟩
end Go.Proofs.YtkgogbmeehiloaaGreatDoor

