/- The walk of ogeelaw02.WholeAdds: it answers true. -/
import Derived.Test.YtmnmfidcldmhdaaDoorWLawC
import Derived.Laws.AppendOwnNone
import Derived.BigQuiet
import Derived.Deep.QuietTactic
namespace Go.Proofs.YtmnmfidcldmhdaaDoor
open Go.RowKit

/-- The cells of a row of api.Int. -/
def flatI (bs : Nat → Bool) (ss : Nat → ByteArray) : Nat → List Value | 0 => [] | n + 1 => flatI bs ss n ++ [.bool (bs n), .string (ss n)]
theorem flatI_len (bs : Nat → Bool) (ss : Nat → ByteArray) : ∀ n, (flatI bs ss n).length = n * 2
  | 0 => rfl
  | n + 1 => by
    show (flatI bs ss n ++ _).length = _
    rw [List.length_append, flatI_len bs ss n]; simp; omega
theorem flatI_at (bs : Nat → Bool) (ss : Nat → ByteArray) : ∀ {n j : Nat}, j < n → (flatI bs ss n)[j * 2]? = some (.bool (bs j)) ∧ (flatI bs ss n)[j * 2 + 1]? = some (.string (ss j))
  | n + 1, j, h => by
    show (flatI bs ss n ++ _)[j * 2]? = _ ∧ (flatI bs ss n ++ _)[j * 2 + 1]? = _
    have hl := flatI_len bs ss n
    by_cases e : j = n
    · subst e
      rw [List.getElem?_append_right (by omega), List.getElem?_append_right (by omega), hl]
      simp
    · rw [List.getElem?_append_left (by omega), List.getElem?_append_left (by omega)]
      exact flatI_at bs ss (by omega)
theorem flatI_mem (bs : Nat → Bool) (ss : Nat → ByteArray) : ∀ (n : Nat) (u : Value), u ∈ flatI bs ss n → u.oneCell' = true
  | 0, _, h => by cases h
  | n + 1, u, h => by
    rcases List.mem_append.1 h with h | h
    · exact flatI_mem bs ss n u h
    · rcases List.mem_cons.1 h with rfl | h
      · rfl
      · rcases List.mem_cons.1 h with rfl | h
        · rfl
        · cases h
theorem flatI_cell {w : World} {b off n : Nat} {bs : Nat → Bool} {ss : Nat → ByteArray} (h : ∀ j, j < n → w.cell? ⟨b, off + j * 2, none⟩ = some (.bool (bs j)) ∧ w.cell? ⟨b, off + j * 2 + 1, none⟩ = some (.string (ss j))) (i : Nat) (u : Value) (hu : (flatI bs ss n)[i]? = some u) : w.cell? ((⟨b, off, none⟩ : Addr).add i) = some u := by
  have hlt : i < n * 2 := by
    rw [← flatI_len bs ss n]
    exact (List.getElem?_eq_some_iff.1 hu).1
  rw [add_plain]
  have hj : i / 2 < n := by omega
  have hat := flatI_at bs ss hj
  rcases Nat.mod_two_eq_zero_or_one i with h0 | h0
  · have e : i = i / 2 * 2 := by omega
    rw [e] at hu ⊢
    rw [hat.1] at hu
    rw [← Option.some.inj hu]; exact (h _ hj).1
  · have e : i = i / 2 * 2 + 1 := by omega
    rw [e] at hu ⊢
    rw [hat.2] at hu
    rw [← Option.some.inj hu, ← Nat.add_assoc]; exact (h _ hj).2
/-- A row that the call made by append reads as its cells. -/
theorem own_rdI {w : World} {base : Nat} {e : TypeId} {v : Value} {n : Nat} {bs : Nat → Bool} {ss : Nat → ByteArray} (h : w.ownsRow base e 2 v n (flatI bs ss n)) : ∃ A c, v = .slice A n c ∧ RdI w A n bs ss := by
  rcases h.2 with ⟨rfl, rfl⟩ | ⟨g, cap, cur, rfl, hb, hh, hn, _, hs, hx⟩
  · exact ⟨none, 0, rfl, fun h => absurd h (by decide)⟩
  · refine ⟨_, cap, rfl, fun _ => ⟨g, 0, rfl, fun j hj => ?_⟩⟩
    have hat := flatI_at bs ss hj
    rw [← hx] at hat
    rw [List.getElem?_take_of_lt (by omega), List.getElem?_take_of_lt (by omega)] at hat
    rw [cell_of_row w g _ cur e (0, 0) hh, cell_of_row w g _ cur e (0, 0) hh, Nat.zero_add]
    exact ⟨by rw [← Array.getElem?_toList]; exact hat.1, by rw [← Array.getElem?_toList]; exact hat.2⟩
section
variable {P : Program} {w : World} {ops : Array Oper} {rest : List Oper} {o : Oper} {a : Act} {Q : Exit → Act → World → Prop}
/-- append([]api.Int{}, x...). -/
theorem wpList_append_I (hgd : o.guard = none) (s x : Operand) (t : TypeId)
    (ho : o.op = .call { callee := .builtin .append, args := #[s, x], argTypes := #[t, t] })
    (e : TypeId) (z : Value) (bytes : Nat) (ht : P.underlying t = some (.slice e)) (hinfo : (P.info? e).map (fun i => (i.zero, i.size, i.bytes)) = some (some z, 2, bytes)) (hz2 : z.cells.size = 2)
    (A : Option Addr) (n c : Nat) (bs : Nat → Bool) (ss : Nat → ByteArray) (hs : a.eval s = .slice (some ⟨w.heap.size, 0, none⟩) 0 0) (hx : a.eval x = .slice A n c) (hA : A = none → n = 0 ∧ c = 0)
    (hr : RdI w A n bs ss) (h63 : n ≤ 1048576) (hby : bytes ≤ 1048576)
    (k : ∀ A' c' w', RdI w' A' n bs ss → Below w.heap.size w w' → wpList P ops Q rest (a.put o.dst (.slice A' n c')) w') :
    wpList P ops Q (o :: rest) a (w.alloc (.cells #[] e)) := by
  obtain ⟨i, hi, hz, hsz, hb⟩ := info_parts hinfo
  have hown : (w.alloc (.cells #[] e)).ownsRow w.heap.size e 2 (.slice (some ⟨w.heap.size, 0, none⟩) 0 0) 0 [] :=
    ⟨rfl, .inr ⟨w.heap.size, 0, #[], rfl, Nat.le_refl _, heap_alloc_new w _, Nat.le_refl _, Nat.zero_le _, rfl, rfl⟩⟩
  rcases A with _ | ad
  · obtain ⟨rfl, rfl⟩ := hA rfl
    refine wpList_append_own_none (P := P) hgd s x t ho w.heap.size e i 2 ht hi _ 0 [] hs hown hx ?_
    exact k _ 0 _ (fun h => absurd h (by decide)) (b1 w _)
  · have h1 : n * bytes ≤ 1048576 * 1048576 := Nat.mul_le_mul h63 hby
    refine wpList_append_own (P := P) _ hgd s x t ho w.heap.size e i z 2 bytes ht hi hz hsz hb hz2 (by decide) _ 0 [] hs hown ad n c (flatI bs ss n) hx (flatI_len bs ss n) ?_ (flatI_mem bs ss n) (by unfold maxLen; omega) (by rw [Nat.zero_add]; omega) (by simp) ?_
    · intro j u hj
      have h0 : 0 < n := by
        rcases Nat.eq_zero_or_pos n with h | h
        · subst h; simp [flatI] at hj
        · exact h
      obtain ⟨b, off, e1, hc⟩ := (RdI.below hr (b1 w (.cells #[] e))) h0
      injection e1 with e1
      subst e1
      exact flatI_cell hc j u hj
    · intro v' w' hown' hg _
      rw [Nat.zero_add, List.nil_append] at hown'
      obtain ⟨A', c', rfl, hr'⟩ := own_rdI hown'
      exact k A' c' w' hr' ((b1 w _).grown hg (by simp) (fun g h => by
        have h2 : w.heap.size = g := by injection h
        omega))
end
theorem info_Int : (Tryd.prog.info? 26).map (fun i => (i.zero, i.size, i.bytes)) = some (some (.agg #[.bool false, .string ⟨#[]⟩]), 2, 24) := by kernel_rfl

set_option maxRecDepth 100000 in
set_option maxHeartbeats 2000000 in
theorem wholeAdds_any (A : Option Addr) (n c : Nat) (bs : Nat → Bool) (ss : Nat → ByteArray) (w : World) (hA : A = none → n = 0 ∧ c = 0) (hr : RdI w A n bs ss) (hT : TabAt 0 Lib.deBruijn64tab w) :
    Calls Tryd.prog 3 #[.slice A n c] w fun e w' => e = .returned (.bool true) ∧ Below w.heap.size w w' := by
  have HA := Lib.hid (fun W (h : Below w.heap.size w W) => wawake_any W (tab_keep hT h))
  have hB0 := Below.refl w.heap.size w
  clear hT
  by_cases h1 : 20 < n
  · go_enter Tryd.func3, Tryd.ntmps3
    go_wp2_with fail
    refine (HA.out _ hB0).mono ?_
    rintro e wz ⟨rfl, hb⟩
    go_wp2
    go_ret
    exact ⟨rfl, nxt hB0 hb⟩
  have h1' : n ≤ 20 := by omega
  clear h1
  by_cases h2 : ∃ k, k < n ∧ (150 : Int) < ((ss k).size : Int)
  · obtain ⟨k0, hk0, hk⟩ := h2
    have cl := Lib.hid (long_yes A n c bs ss 150 w (by omega) k0 hk0 hk hr)
    clear hk hk0 hr
    go_enter Tryd.func3, Tryd.ntmps3
    go_wp2_with fail
    refine cl.out.mono ?_
    rintro e w1 ⟨rfl, rfl⟩
    go_wp2_with fail
    refine (HA.out _ hB0).mono ?_
    rintro e wz ⟨rfl, hb⟩
    go_wp2
    go_ret
    exact ⟨rfl, nxt hB0 hb⟩
  have hsz : ∀ j, j < n → (ss j).size ≤ 150 := fun j hj => by
    have := mt (fun h => (⟨j, hj, h⟩ : ∃ k, k < n ∧ (150 : Int) < ((ss k).size : Int))) h2
    omega
  have cl := Lib.hid (long_no A n c bs ss 150 w (by omega) (fun j hj => by have := hsz j hj; omega) hr)
  have HSZ := Lib.hid hsz
  clear h2 hsz
  go_enter Tryd.func3, Tryd.ntmps3
  go_wp2_with fail
  refine cl.out.mono ?_
  rintro e w1 ⟨rfl, rfl⟩
  have hr2 : RdI w A n bs (fun j => if j < n then ss j else ⟨#[]⟩) := hr.congr fun j hj => by rw [if_pos hj]
  have hs2 : ∀ j, (if j < n then ss j else (⟨#[]⟩ : ByteArray)).size ≤ 150 := fun j => by
    split
    · exact HSZ.out j ‹_›
    · exact Nat.zero_le _
  have HS2 := Lib.hid hs2
  have hA' := Lib.hid hA
  have hr' := Lib.hid hr
  have hn1 : n ≤ 1048576 := by omega
  clear hA hs2
  go_wp2_with (at_builtin; refine wpList_append_I rfl (.tmp 13) (.tmp 14) _ rfl 26 _ 24 Tryd.underlying22 info_Int rfl A n c bs ss rfl rfl hA'.out hr'.out hn1 (by decide) ?_; intro A' c' w2 hro hB)
  have hro2 : RdI w2 A' n bs (fun j => if j < n then ss j else ⟨#[]⟩) := hro.congr fun j hj => by rw [if_pos hj]
  have cM := Lib.hid (wAdd_any A' n c' bs _ w2 (by omega) (fun j => Nat.le_trans (HS2.out j) (by decide)) hro2)
  have cN := Lib.hid (fun W (h : Below w.heap.size w W) => rWAdd_any A n c bs _ W (by omega) (fun j => Nat.le_trans (HS2.out j) (by decide)) (hr2.below h))
  generalize sumI (fun j => ival (bs j) (sval (if j < n then ss j else ⟨#[]⟩))) n = Z at *
  clear hr2 hro2
  go_wp2_with fail
  refine cM.out.mono ?_
  rintro e w3 ⟨rfl, hb⟩
  replace hB := nxt hB hb
  replace hro := hro.below hb
  clear hb
  go_wp2_with fail
  refine (cN.out _ hB).mono ?_
  rintro e w4 ⟨rfl, hb⟩
  replace hB := nxt hB hb
  replace hro := hro.below hb
  clear hb
  go_wp2_with fail
  go_loopw [4] (fun i wr => ∃ k : Nat, k ≤ n ∧ i = .int .i64 (k : Nat) ∧ RdI wr A' n bs ss ∧ Below w.heap.size w wr) (fun i _ => n - (intOf i).toNat)
  case atStart => exact ⟨0, Nat.zero_le _, rfl, hro, hB⟩
  case round =>
    obtain ⟨k, hk, rfl, hro3, hB2⟩ := hrel
    by_cases hlt : k < n
    · obtain ⟨b, off, rfl, hc⟩ := hr (by omega)
      obtain ⟨b2, off2, rfl, hc2⟩ := hro3 (by omega)
      have g1 := cell_later hB2 (hc k hlt).1
      have g2 := cell_later hB2 (hc k hlt).2
      have o1 := (hc2 k hlt).1
      have o2 := (hc2 k hlt).2
      have HRO := Lib.hid hro3
      rcases k with _ | p
      · simp only [Nat.zero_mul, Nat.add_zero] at g1 g2 o1 o2
        have e0 : ((0 : Nat) : Int) = 0 := rfl
        rw [e0]
        clear hc hc2 e0 hro3
        go_wp2_with fail
        go_quiet (fail)
        go_wp2
        exact ⟨⟨1, hlt, rfl, HRO.out, below_drewN' hB2 _⟩, by simp [intOf]; omega⟩
      · have g3 := cell_later hB2 (hc p (by omega)).1
        have g4 := cell_later hB2 (hc p (by omega)).2
        have z1 : (ss p).size ≤ 150 := HSZ.out p (by omega)
        have z2 : (ss (p + 1)).size ≤ 150 := HSZ.out (p + 1) hlt
        have cS := Lib.hid (fun W => wSub_any (ss p) (ss (p + 1)) (bs p) (bs (p + 1)) W (by omega) (by omega))
        have cT := Lib.hid (fun W => rWSub_any (ss p) (ss (p + 1)) (bs p) (bs (p + 1)) W (by omega) (by omega))
        have cU := Lib.hid (fun W => wCmp_any (ss p) (ss (p + 1)) (bs p) (bs (p + 1)) W (by omega) (by omega))
        have cV := Lib.hid (fun W => rWCmp_any (ss p) (ss (p + 1)) (bs p) (bs (p + 1)) W (by omega) (by omega))
        generalize ival (bs p) (sval (ss p)) - ival (bs (p + 1)) (sval (ss (p + 1))) = D at *
        obtain ⟨I, hI⟩ : ∃ I : Int, I = ((p + 1 : Nat) : Int) := ⟨_, rfl⟩
        rw [← hI]
        have HI := Lib.hid hI
        have i1 : I < (n : Int) := by omega
        have i2 : (p : Int) < (n : Int) := by omega
        have i3 : 0 ≤ I := by omega
        have i4 : I.toNat = p + 1 := by omega
        have i5 : IntKind.i64.wrap (I - 1) = (p : Int) := by rw [IntWalk.i64_in _ (by omega)]; omega
        have i6 : IntKind.i64.wrap (p : Int) = (p : Int) := IntWalk.i64_in _ (by omega)
        have i7 : decide ((0 : Int) < I) = true := decide_eq_true (by omega)
        have i8 : (0 : Int) < I := by omega
        have i9 : I ≤ 20 := by omega
        clear hI
        clear hc hc2 hro3 z1 z2
        go_wp2_with fail
        go_region_held3 (fun w' => w'.cell? ⟨b, off + (p + 1) * 2, none⟩ = some (.bool (bs (p + 1))) ∧ w'.cell? ⟨b, off + (p + 1) * 2 + 1, none⟩ = some (.string (ss (p + 1))) ∧ w'.cell? ⟨b2, off2 + (p + 1) * 2, none⟩ = some (.bool (bs (p + 1))) ∧ w'.cell? ⟨b2, off2 + (p + 1) * 2 + 1, none⟩ = some (.string (ss (p + 1))) ∧ w'.cell? ⟨b, off + p * 2, none⟩ = some (.bool (bs p)) ∧ w'.cell? ⟨b, off + p * 2 + 1, none⟩ = some (.string (ss p))) (first | exact ⟨g1, g2, o1, o2, g3, g4⟩ | exact ⟨cell_later ha g1, cell_later ha g2, cell_later ha o1, cell_later ha o2, cell_later ha g3, cell_later ha g4⟩ | exact ⟨cell_later hb (cell_later ha g1), cell_later hb (cell_later ha g2), cell_later hb (cell_later ha o1), cell_later hb (cell_later ha o2), cell_later hb (cell_later ha g3), cell_later hb (cell_later ha g4)⟩ | exact ⟨cell_later hc (cell_later hb (cell_later ha g1)), cell_later hc (cell_later hb (cell_later ha g2)), cell_later hc (cell_later hb (cell_later ha o1)), cell_later hc (cell_later hb (cell_later ha o2)), cell_later hc (cell_later hb (cell_later ha g3)), cell_later hc (cell_later hb (cell_later ha g4))⟩ | exact ⟨cell_later hd (cell_later hc (cell_later hb (cell_later ha g1))), cell_later hd (cell_later hc (cell_later hb (cell_later ha g2))), cell_later hd (cell_later hc (cell_later hb (cell_later ha o1))), cell_later hd (cell_later hc (cell_later hb (cell_later ha o2))), cell_later hd (cell_later hc (cell_later hb (cell_later ha g3))), cell_later hd (cell_later hc (cell_later hb (cell_later ha g4)))⟩)
          (first
            | (go_at_call 17; refine (cS.out wr.drew).mono ?_; rintro e wa ⟨rfl, ha'⟩; have ha := undrew ha'; clear ha')
            | (go_at_call 18; refine (cT.out wa).mono ?_; rintro e wb ⟨rfl, hb⟩)
            | (go_at_call 19; refine (cU.out wb).mono ?_; rintro e wc ⟨rfl, hc⟩)
            | (go_at_call 20; refine (cV.out wc).mono ?_; rintro e wd ⟨rfl, hd⟩))
        go_wp2
        exact ⟨⟨p + 2, hlt, by rw [HI.out]; go_num, (((HRO.out.below ha).below hb).below hc).below hd, nxt (nxt (nxt (nxt hB2 ha) hb) hc) hd⟩, by simp [intOf]; omega⟩
    · obtain rfl : k = n := by omega
      go_wp2_with fail
      refine (HA.out _ hB2).mono ?_
      rintro e wz ⟨rfl, hb⟩
      go_wp2
      go_ret
      exact ⟨rfl, nxt hB2 hb⟩

end Go.Proofs.YtmnmfidcldmhdaaDoor
