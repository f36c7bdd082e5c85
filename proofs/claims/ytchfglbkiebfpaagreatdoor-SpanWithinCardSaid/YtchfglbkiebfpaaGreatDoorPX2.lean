/- The walks and plain laws beneath the statements. -/
import Derived.Test.YtchfglbkiebfpaaGreatDoorPX1
namespace Go.Proofs.YtchfglbkiebfpaaGreatDoor
open Go Go.RowKit

/-- Does a wait for i, over however many steps? -/
inductive Rch (ops : Array Oper) : Nat → Nat → Prop
  | one {a i : Nat} : i ∈ waits ops a → Rch ops a i
  | more {a j i : Nat} : j ∈ waits ops a → Rch ops j i → Rch ops a i
theorem rch_listed {ops : Array Oper} {n : Nat} {listed : Array Bool} (inv : HeadInv .any ops n listed) {a i : Nat} (h : Rch ops a i) : (∀ j, j ∈ waits ops a → listed.getD j false = true) → listed.getD i false = true := by
  induction h with
  | one h => exact fun k => k _ h
  | more h _ ih => exact fun k => ih fun j hj => waits_listed inv (k _ h) hj
def upd {α : Type} (f : Nat → α) (i : Nat) (x : α) (k : Nat) : α := if k = i then x else f k
theorem upd_at {α : Type} (f : Nat → α) (i : Nat) (x : α) : upd f i x i = x := if_pos rfl
theorem upd_ne {α : Type} (f : Nat → α) {i k : Nat} (x : α) (h : k ≠ i) : upd f i x k = f k := if_neg h
section
variable {Γ : Type}
/-- What is asked of operation i. -/
def GhOk (P : Program) (ops : Array Oper) (F : (Nat → Value) → Act) (G : World → Prop) (Φ : Nat → (Nat → Value) → (Nat → Γ) → World → Prop) (Fr : Nat → Γ → Nat → Prop) (i : Nat) : Prop :=
  ∀ (o : Oper), ops[i]? = some o → ∀ (u : Nat → Value) (γ : Nat → Γ) (w : World), G w → (∀ j, Rch ops i j → Φ j u γ w) → ∀ (Q : Exit → Act → World → Prop) (K : Act → World → Prop),
    (∀ v g w', Below w.heap.size w w' → G w' → Φ i (upd u i v) (upd γ i g) w' → (∀ b, Fr i g b → w.heap.size ≤ b ∧ b < w'.heap.size) → K ((F u).put o.dst v) w') → if Region.wanted o (yielded ops (F u).tmps) = true then Oper.wp P o (F u) w K Q else K ((F u).put o.dst undef) w
def GhLate (P : Program) (ops : Array Oper) (F : (Nat → Value) → Act) (G : World → Prop) (Φ : Nat → (Nat → Value) → (Nat → Γ) → World → Prop) (i : Nat) : Prop :=
  ∀ (o : Oper), ops[i]? = some o → ∀ (u : Nat → Value) (γ : Nat → Γ) (w : World), G w → (∀ j, Rch ops i j → Φ j u γ w) → ∃ v, Yields P ops o v (F u) ∧ Φ i (upd u i v) γ w
theorem wpAny_gh {P : Program} {ops : Array Oper} {n : Nat} {Q : Exit → Act → World → Prop} {l : List Oper} (hl : l.toArray = ops) (F : (Nat → Value) → Act) (G : World → Prop) (Φ : Nat → (Nat → Value) → (Nat → Γ) → World → Prop) (Fr : Nat → Γ → Nat → Prop) (B : Nat)
    (st : Nat → Bool) (hB : growB ops n st = true) (hQ : ∀ (d : Tmp) (v : Value) c a w, Q (.panic c) (a.put (some d) v) w → Q (.panic c) a w) (hdd : ∀ i o, i < n → ops[i]? = some o → ∃ d : Tmp, o.dst = some d) (hput : ∀ (u : Nat → Value) (i : Nat) (v : Value) (o : Oper), i < n → ops[i]? = some o → (F u).put o.dst v = F (upd u i v))
    (hst : ∀ i u γ w w', i < n → Below w.heap.size w w' → Φ i u γ w → Φ i u γ w')
    (hcg : ∀ i u u' γ γ' w, i < n → (∀ j, j = i ∨ Rch ops i j → u j = u' j ∧ γ j = γ' j) → Φ i u γ w → Φ i u' γ' w)
    (hop : ∀ i, i < n → GhOk P ops F G Φ Fr i) (hlate : ∀ i, i < n → st i = false → (∀ g b, ¬ Fr i g b) ∧ GhLate P ops F G Φ i)
    (u0 : Nat → Value) (htail : ∀ u γ w, (∀ k, n ≤ k → u k = u0 k) → G w → (∀ i, i < n → Φ i u γ w) → (∀ i, i < n → ∀ b, Fr i (γ i) b → B ≤ b ∧ b < w.heap.size) → (∀ i j, i < n → j < n → i ≠ j → ∀ b, Fr i (γ i) b → ¬ Fr j (γ j) b) → wpList P ops Q (l.drop n) (F u) w) :
    ∀ (f : Nat) (listed : Array Bool) (u : Nat → Value) (γ : Nat → Γ) (w : World), left n listed = f → HeadInv .any ops n listed → (∀ k, n ≤ k → u k = u0 k) → G w → B ≤ w.heap.size → (∀ i, i < n → listed.getD i true = true → Φ i u γ w) →
      (∀ i, i < n → listed.getD i true = true → ∀ b, Fr i (γ i) b → B ≤ b ∧ b < w.heap.size) →
      (∀ i j, i < n → j < n → listed.getD i true = true → listed.getD j true = true → i ≠ j → ∀ b, Fr i (γ i) b → ¬ Fr j (γ j) b) →
      wpAny P .any ops Q (f + (ops.size - n)) listed (F u) w := by
  simp only [growB, Bool.and_eq_true, decide_eq_true_eq] at hB
  obtain ⟨⟨⟨⟨⟨⟨hn, hsel⟩, hc⟩, hs⟩, hfree⟩, hback⟩, hseq⟩ := hB
  have hwlt : ∀ a j, a < n → j ∈ waits ops a → j < a := fun a j ha hj => by
    have h1 := List.all_eq_true.1 hback a (List.mem_range.2 ha)
    simpa using List.all_eq_true.1 h1 _ hj
  have hrlt : ∀ a j, Rch ops a j → a < n → j < a := by
    intro a j h
    induction h with
    | one h => exact fun ha => hwlt _ _ ha h
    | more h _ ih =>
      intro ha
      have h1 := hwlt _ _ ha h
      have := ih (by omega)
      omega
  intro f
  induction f with
  | zero =>
    intro listed u γ w hf inv hu0 hG hBw hΦ hF hD
    have hall := left_zero hf
    have he : listed = Array.replicate n true ++ Array.replicate (ops.size - n) false := by
      apply Array.ext
      · simp [inv.size]; omega
      · intro i h1 h2
        by_cases hi : i < n
        · have := hall i hi
          rw [Array.getElem_append_left (by simpa using hi)]
          simpa [h1] using this
        · have := inv.tail i (by omega) (by rw [← inv.size]; exact h1)
          rw [Array.getElem_append_right (by simp; omega)]
          simpa [h1] using this
    rw [Nat.zero_add]
    have hlen : (l.drop n).length = ops.size - n := by rw [← hl]; simp
    rw [← hlen] at hseq ⊢
    exact wpAny_of_seq (l.drop n) n listed (F u) w (fun j => by rw [← hl]; simp [List.getElem?_drop]) (by rw [he, ← hlen]; exact hseq) (htail u γ w hu0 hG (fun i hi => hΦ i hi (hall i hi)) (fun i hi => hF i hi (hall i hi)) (fun i j hi hj => hD i j hi hj (hall i hi) (hall j hj)))
  | succ f ih =>
    intro listed u γ w hf inv hu0 hG hBw hΦ hF hD
    obtain ⟨i0, hi0, hl0, hmin⟩ := left_some (n := n) (listed := listed) (by omega)
    have hready : i0 ∈ Region.ready .any ops listed := by
      have hlt : i0 < ops.size := by omega
      obtain ⟨o, ho⟩ : ∃ o, ops[i0]? = some o := ⟨ops[i0], by simp [hlt]⟩
      refine mem_ready.2 ⟨hl0, o, ho, fun e he hb => ?_⟩
      have hw : e.on ∈ waits ops i0 := by
        unfold waits; rw [ho]
        exact List.mem_map.2 ⟨e, List.mem_filter.2 ⟨Array.mem_toList_iff.2 he, hb⟩, rfl⟩
      have hlt2 : e.on < i0 := hwlt _ _ hi0 hw
      have h3 := hmin _ hlt2
      have h4 : e.on < listed.size := by rw [inv.size]; omega
      simpa [h4] using h3
    rw [show f + 1 + (ops.size - n) = (f + (ops.size - n)) + 1 by omega]
    -- what is known of all that a ready operation waits for
    have hall2 : ∀ i, i ∈ Region.ready .any ops listed → ∀ j, Rch ops i j → listed.getD j false = true := fun i hi j hj => by
      obtain ⟨_, o, ho, hdeps⟩ := mem_ready.1 hi
      refine rch_listed inv hj fun k hk => ?_
      unfold waits at hk; rw [ho] at hk
      obtain ⟨e, he, rfl⟩ := List.mem_map.1 hk
      obtain ⟨he1, he2⟩ := List.mem_filter.1 he
      exact hdeps e (Array.mem_toList_iff.1 he1) he2
    have hin2 : ∀ j, j < n → listed.getD j false = true → listed.getD j true = true := fun j hj h => by
      have h4 : j < listed.size := by rw [inv.size]; omega
      simpa [h4] using h
    have hfacts : ∀ i, i < n → i ∈ Region.ready .any ops listed → ∀ j, Rch ops i j → Φ j u γ w := fun i hin hi j hj => by
      have hlt2 := hrlt _ _ hj hin
      exact hΦ _ (by omega) (hin2 j (by omega) (hall2 i hi j hj))
    -- what was known stays known when another one comes
    have hkeep : ∀ i, i < n → listed.getD i true = false → ∀ v g w', Below w.heap.size w w' → ∀ j, j < n → listed.getD j true = true → Φ j (upd u i v) (upd γ i g) w' := fun i hi hil v g w' hb j hj hjl => by
      refine hcg j u _ γ _ w' hj (fun k hk => ?_) (hst j u γ w w' hj hb (hΦ j hj hjl))
      have hne : k ≠ i := by
        rintro rfl
        rcases hk with rfl | hk
        · rw [hil] at hjl; cases hjl
        · have hjs : j < ops.size := by omega
          have h1 : listed.getD k false = true := rch_listed inv hk fun m hm => by
            refine waits_listed inv ?_ hm
            have h4 : j < listed.size := by rw [inv.size]; omega
            simpa [h4] using hjl
          rw [getD_both hil] at h1
          cases h1
      rw [upd_ne u v hne, upd_ne γ g hne]
      exact ⟨rfl, rfl⟩
    by_cases hall : ∃ i, i < n ∧ st i = true ∧ listed.getD i true = false
    case neg =>
      have hst0 : st i0 = false := by
        cases h : st i0 with
        | false => rfl
        | true => exact absurd ⟨i0, hi0, h, hl0⟩ hall
      obtain ⟨hfr0, hlt0⟩ := hlate i0 hi0 hst0
      obtain ⟨_, o, ho, hdeps⟩ := mem_ready.1 hready
      obtain ⟨v, hy, hv⟩ := hlt0 o ho u γ w hG (hfacts i0 hi0 hready)
      have hQ2 : ∀ c a w, Q (.panic c) (a.put o.dst v) w → Q (.panic c) a w := by
        obtain ⟨d, hd⟩ := hdd i0 o hi0 ho
        rw [hd]; exact hQ d v
      have eγ : upd γ i0 (γ i0) = γ := by funext k; unfold upd; split <;> simp_all
      refine wpAny_first ho (Region.noSelect_spec hsel) hQ2 _ listed (F u) w (fun j oj hoj hji hjun hnot => ?_) hready hy ?_
      · have hjs : j < ops.size := (Array.getElem?_eq_some_iff.1 hoj).1
        have h1 := List.all_eq_true.1 hfree i0 (List.mem_range.2 hi0)
        rw [hst0, Bool.false_or] at h1
        have h2 := List.all_eq_true.1 h1 j (List.mem_range.2 hjs)
        simp only [Bool.or_eq_true, Bool.and_eq_true, decide_eq_true_eq, beq_iff_eq, ho, hoj] at h2
        rcases h2 with ((h2 | h2) | h2) | h2
        · exact absurd h2 hji
        · exact absurd ⟨j, h2.1, h2.2, hjun⟩ hall
        · obtain ⟨o', ho', e, he, hb, hon⟩ := Region.waitsFor_spec h2
          have : o' = oj := Option.some.inj (ho'.symm.trans hoj)
          subst this
          exact absurd hon (hnot e he hb)
        · exact h2
      · rw [hput u i0 v o hi0 ho]
        refine ih _ _ γ w (by have := left_set hi0 hl0; omega) (inv.set hready hi0) (fun k hk => by rw [upd_ne u v (by omega)]; exact hu0 k hk) hG hBw (fun j hj hjl => ?_) (fun j hj hjl b hb => ?_) (fun j k hj hk hjl hkl hne b hb hb2 => ?_)
        · by_cases e : j = i0
          · subst e; exact hv
          · rw [getD_set_ne true (Ne.symm e)] at hjl
            have h5 := hkeep i0 hi0 hl0 v (γ i0) w (Below.refl _ _) j hj hjl
            rwa [eγ] at h5
        · have ej : j ≠ i0 := fun e => hfr0 _ _ (e ▸ hb)
          rw [getD_set_ne true (Ne.symm ej)] at hjl
          exact hF j hj hjl b hb
        · have ej : j ≠ i0 := fun e => hfr0 _ _ (e ▸ hb)
          have ek : k ≠ i0 := fun e => hfr0 _ _ (e ▸ hb2)
          rw [getD_set_ne true (Ne.symm ej)] at hjl
          rw [getD_set_ne true (Ne.symm ek)] at hkl
          exact hD j k hj hk hjl hkl hne b hb hb2
    obtain ⟨is, his, hss, hsl⟩ := hall
    refine ⟨fun h0 => (by rw [h0] at hready; cases hready), fun i hi => ?_⟩
    have hin : i < n := by
      rcases Nat.lt_or_ge i n with h | h
      · exact h
      · exact absurd hi (tail_not_ready hs hc inv his hss hsl i h)
    obtain ⟨hil, o, ho, hdeps⟩ := mem_ready.1 hi
    have hgo : ∀ v g w', Below w.heap.size w w' → G w' → Φ i (upd u i v) (upd γ i g) w' → (∀ b, Fr i g b → w.heap.size ≤ b ∧ b < w'.heap.size) → wpAny P .any ops Q (f + (ops.size - n)) (listed.setIfInBounds i true) ((F u).put o.dst v) w' := fun v g w' hb hG' hv hnew => by
      rw [hput u i v o hin ho]
      refine ih _ _ (upd γ i g) w' (by have := left_set hin hil; omega) (inv.set hi hin) (fun k hk => by rw [upd_ne u v (by omega)]; exact hu0 k hk) hG' (Nat.le_trans hBw hb.size) (fun j hj hjl => ?_) (fun j hj hjl b hbb => ?_) (fun j k hj hk hjl hkl hne b hb1 hb2 => ?_)
      · by_cases e : j = i
        · subst e; exact hv
        · rw [getD_set_ne true (Ne.symm e)] at hjl
          exact hkeep i hin hil v g w' hb j hj hjl
      · by_cases e : j = i
        · subst e
          rw [upd_at] at hbb
          have := hnew b hbb
          omega
        · rw [getD_set_ne true (Ne.symm e)] at hjl
          rw [upd_ne γ g e] at hbb
          have h1 := hF j hj hjl b hbb
          have h2 := hb.size
          omega
      · by_cases ej : j = i
        · subst ej
          have ek : k ≠ j := Ne.symm hne
          rw [upd_at] at hb1
          rw [upd_ne γ g ek] at hb2
          rw [getD_set_ne true (Ne.symm ek)] at hkl
          have h1 := hnew b hb1
          have h2 := hF k hk hkl b hb2
          omega
        · rw [getD_set_ne true (Ne.symm ej)] at hjl
          rw [upd_ne γ g ej] at hb1
          by_cases ek : k = i
          · subst ek
            rw [upd_at] at hb2
            have h1 := hnew b hb2
            have h2 := hF j hj hjl b hb1
            omega
          · rw [getD_set_ne true (Ne.symm ek)] at hkl
            rw [upd_ne γ g ek] at hb2
            exact hD j k hj hk hjl hkl hne b hb1 hb2
    have hrun := hop i hin o ho u γ w hG (hfacts i hin hi) Q _ hgo
    unfold wpOp
    simp only [ho]
    split
    · rename_i hw; rw [if_pos hw] at hrun; exact .inl hrun
    · rename_i hw; rw [if_neg hw] at hrun; exact hrun

/-- **The law**, in the words of slots. -/
theorem wp_region_gh {P : Program} {id : Nat} {Q : Exit → Act → World → Prop} {a : Act} {w : World} {l : List Oper} (ds : List Nat) (G : World → Prop) (Φ : Nat → (Nat → Value) → (Nat → Γ) → World → Prop) (Fr : Nat → Γ → Nat → Prop) (γ0 : Nat → Γ) (st : Nat → Bool)
    (hm : P.follows .mixedOrders = true) (hB : growB l.toArray ds.length st = true) (hQ : ∀ (d : Tmp) (v : Value) c a w, Q (.panic c) (a.put (some d) v) w → Q (.panic c) a w)
    (hds : ((List.range ds.length).all fun i => ((l.toArray[i]?).bind (·.dst)) == ds[i]?) = true) (hnb : nodupB ds = true) (_hlt : ds.all (· < a.tmps.size) = true)
    (hG : G w.drew)
    (hst : ∀ i u γ w w', i < ds.length → Below w.heap.size w w' → Φ i u γ w → Φ i u γ w')
    (hcg : ∀ i u u' γ γ' w, i < ds.length → (∀ j, j = i ∨ Rch l.toArray i j → u j = u' j ∧ γ j = γ' j) → Φ i u γ w → Φ i u' γ' w)
    (hop : ∀ i, i < ds.length → GhOk P l.toArray (frm a ds) G Φ Fr i)
    (hlate : ∀ i, i < ds.length → st i = false → (∀ g b, ¬ Fr i g b) ∧ GhLate P l.toArray (frm a ds) G Φ i)
    (htail : ∀ u γ w', G w' → (∀ i, i < ds.length → Φ i u γ w') → (∀ i, i < ds.length → ∀ b, Fr i (γ i) b → w.heap.size ≤ b ∧ b < w'.heap.size) → (∀ i j, i < ds.length → j < ds.length → i ≠ j → ∀ b, Fr i (γ i) b → ¬ Fr j (γ j) b) → wpList P l.toArray Q (l.drop ds.length) (frm a ds u) w') : (Code.region id l.toArray true).wp P Q a w := by
  refine wp_region_any hm ?_
  have hnd := nodup_of hnb
  have hn : ds.length ≤ l.toArray.size := by
    simp only [growB, Bool.and_eq_true, decide_eq_true_eq] at hB
    exact hB.1.1.1.1.1.1
  have inv0 : HeadInv .any l.toArray ds.length (Array.replicate l.toArray.size false) :=
    ⟨by simp, fun j oj _ hl => (by rw [getD_replicate_false] at hl; cases hl), fun t _ ht => getD_in (by simpa using ht) (getD_replicate_false _ _)⟩
  have hnone : ∀ i, i < ds.length → (Array.replicate l.toArray.size false).getD i true = false := fun i hi => getD_in (by simpa using (by omega : i < l.toArray.size)) (getD_replicate_false _ _)
  have hleft : left ds.length (Array.replicate l.toArray.size false) = ds.length := by
    unfold left
    rw [List.filter_eq_self.2 (fun i hi => by rw [hnone i (List.mem_range.1 hi)]; rfl), List.length_range]
  have hdst : ∀ i, i < ds.length → ∃ d, ds[i]? = some d ∧ ∀ o, l.toArray[i]? = some o → o.dst = some d := fun i hi => by
    have h1 := List.all_eq_true.1 hds i (List.mem_range.2 hi)
    have h2 : ((l.toArray[i]?).bind (·.dst)) = ds[i]? := by simpa using h1
    refine ⟨ds[i], by simp [hi], fun o ho => ?_⟩
    rw [ho] at h2
    have h3 : ds[i]? = some ds[i] := by simp [hi]
    rw [h3] at h2
    exact h2
  have h := wpAny_gh (Q := Q) (l := l) rfl (frm a ds) G Φ Fr w.heap.size st hB hQ (fun i o hi ho => by obtain ⟨d, _, hd2⟩ := hdst i hi; exact ⟨d, hd2 o ho⟩) (fun u i v o hi ho => by
      obtain ⟨d, hd, hd2⟩ := hdst i hi
      rw [hd2 o ho]
      exact frm_put hnd u hd v) hst hcg hop hlate (fun i => a.tmps.getD (ds.getD i 0) undef) (fun u γ w' _ hG' hΦ hF hD => htail u γ w' hG' hΦ hF hD) ds.length _ (fun i => a.tmps.getD (ds.getD i 0) undef) γ0 w.drew hleft inv0 (fun _ _ => rfl) hG (Nat.le_refl _)
      (fun i hi hl => (by rw [hnone i hi] at hl; cases hl)) (fun i hi hl => (by rw [hnone i hi] at hl; cases hl)) (fun i j hi hj hl => (by rw [hnone i hi] at hl; cases hl))
  rw [show ds.length + (l.toArray.size - ds.length) = l.toArray.size by omega] at h
  rw [← frm_self a ds] at h
  exact h
end
end Go.Proofs.YtchfglbkiebfpaaGreatDoor

namespace Go.Proofs.YtchfglbkiebfpaaGreatDoor
open Go Go.RowKit

/-- A value that is worked with: known outright; pointing into a block of the call's own; made of such; handed over. -/
inductive SV where
  | val (y : Value)
  | ptr (b o : Nat)
  | sli (b o n c : Nat)
  | clo (fn : Fn) (l m : List SV)
  | agg (l : List SV)
  | tup (l : List SV)
  | han (i : Nat)
/-- Where the blocks lie; what the values handed over are, and which blocks are theirs. -/
structure Env where
  b : Nat → Nat
  x : Nat → Value
  S : Nat → Nat → Prop
mutual
def SV.den (r : Env) : SV → Value
  | .val y => y
  | .ptr b o => .pointer (some ⟨r.b b, o, none⟩)
  | .sli b o n c => .slice (some ⟨r.b b, o, none⟩) n c
  | .clo fn l m => .func fn (denL r l).toArray (denL r m).toArray
  | .agg l => .agg (denL r l).toArray
  | .tup l => .tuple (denL r l).toArray
  | .han i => r.x i
def denL (r : Env) : List SV → List Value
  | [] => []
  | s :: l => s.den r :: denL r l
end
mutual
/-- It points to such blocks, and such values handed over, alone. -/
def SV.ok (β ξ : Nat → Bool) : SV → Bool
  | .val _ => true
  | .ptr b _ => β b
  | .sli b _ _ _ => β b
  | .clo _ l m => okL β ξ l && okL β ξ m
  | .agg l => okL β ξ l
  | .tup l => okL β ξ l
  | .han i => ξ i
def okL (β ξ : Nat → Bool) : List SV → Bool
  | [] => true
  | s :: l => s.ok β ξ && okL β ξ l
end
mutual
theorem den_congr {r r' : Env} {β ξ : Nat → Bool} (hb : ∀ i, β i = true → r.b i = r'.b i) (hx : ∀ i, ξ i = true → r.x i = r'.x i) : ∀ s : SV, s.ok β ξ = true → s.den r = s.den r'
  | .val _, _ => rfl
  | .ptr b _, h => by simp only [SV.den, hb b h]
  | .sli b _ _ _, h => by simp only [SV.den, hb b h]
  | .clo _ l m, h => by
    have h1 := Bool.and_eq_true_iff.1 h
    simp only [SV.den, denL_congr hb hx l h1.1, denL_congr hb hx m h1.2]
  | .agg l, h => by simp only [SV.den, denL_congr hb hx l h]
  | .tup l, h => by simp only [SV.den, denL_congr hb hx l h]
  | .han i, h => hx i h
theorem denL_congr {r r' : Env} {β ξ : Nat → Bool} (hb : ∀ i, β i = true → r.b i = r'.b i) (hx : ∀ i, ξ i = true → r.x i = r'.x i) : ∀ l : List SV, okL β ξ l = true → denL r l = denL r' l
  | [], _ => rfl
  | s :: l, h => by
    have h1 := Bool.and_eq_true_iff.1 h
    simp only [denL, den_congr hb hx s h1.1, denL_congr hb hx l h1.2]
end
mutual
theorem ok_mono {β ξ β' ξ' : Nat → Bool} (hb : ∀ i, β i = true → β' i = true) (hx : ∀ i, ξ i = true → ξ' i = true) : ∀ s : SV, s.ok β ξ = true → s.ok β' ξ' = true
  | .val _, _ => rfl
  | .ptr b _, h => hb b h
  | .sli b _ _ _, h => hb b h
  | .clo _ l m, h => by
    have h1 := Bool.and_eq_true_iff.1 h
    exact Bool.and_eq_true_iff.2 ⟨okL_mono hb hx l h1.1, okL_mono hb hx m h1.2⟩
  | .agg l, h => okL_mono hb hx l h
  | .tup l, h => okL_mono hb hx l h
  | .han i, h => hx i h
theorem okL_mono {β ξ β' ξ' : Nat → Bool} (hb : ∀ i, β i = true → β' i = true) (hx : ∀ i, ξ i = true → ξ' i = true) : ∀ l : List SV, okL β ξ l = true → okL β' ξ' l = true
  | [], _ => rfl
  | s :: l, h => by
    have h1 := Bool.and_eq_true_iff.1 h
    exact Bool.and_eq_true_iff.2 ⟨ok_mono hb hx s h1.1, okL_mono hb hx l h1.2⟩
end
theorem blt_lt {a b : Nat} (h : Nat.blt a b = true) : a < b := Nat.le_of_ble_eq_true h
theorem lt_blt {a b : Nat} (h : a < b) : Nat.blt a b = true := Nat.ble_eq_true_of_le h
theorem denL_map (r : Env) : ∀ l : List SV, denL r l = l.map (·.den r)
  | [] => rfl
  | s :: l => by simp [denL, denL_map r l]
theorem denL_len (r : Env) (l : List SV) : (denL r l).length = l.length := by simp [denL_map]
theorem denL_v (r : Env) (l : List Value) : denL r (l.map SV.val) = l := by induction l <;> simp_all [denL, SV.den]
theorem okL_v (β ξ : Nat → Bool) (l : List Value) : okL β ξ (l.map SV.val) = true := by induction l <;> simp_all [okL, SV.ok]
theorem okL_all {β ξ : Nat → Bool} : ∀ {l : List SV}, okL β ξ l = true ↔ ∀ s, s ∈ l → s.ok β ξ = true
  | [] => by simp [okL]
  | s :: l => by simp [okL, @okL_all β ξ l]
def look {α : Type} (k : Nat) : List (Nat × α) → Option α
  | [] => none
  | (j, s) :: l => bif Nat.beq j k then some s else look k l
def nth {α : Type} : List (Option α) → Nat → Option α
  | [], _ => none
  | x :: _, 0 => x
  | _ :: l, n + 1 => nth l n
def setNth {α : Type} : List (Option α) → Nat → α → List (Option α)
  | [], _, _ => []
  | _ :: l, 0, y => some y :: l
  | x :: l, n + 1, y => x :: setNth l n y
theorem nth_lt {α : Type} : ∀ {l : List (Option α)} {i : Nat} {y : α}, nth l i = some y → i < l.length
  | [], _, _, h => by cases h
  | _ :: _, 0, _, _ => Nat.succ_pos _
  | _ :: l, _ + 1, _, h => Nat.succ_lt_succ (nth_lt (l := l) h)
theorem setNth_len {α : Type} : ∀ (l : List (Option α)) (i : Nat) (y : α), (setNth l i y).length = l.length
  | [], _, _ => rfl
  | _ :: _, 0, _ => rfl
  | _ :: l, n + 1, y => congrArg Nat.succ (setNth_len l n y)
theorem nth_app {α : Type} : ∀ {l : List (Option α)} {x : Option α} {i : Nat} {y : α}, nth (l ++ [x]) i = some y → nth l i = some y ∨ (i = l.length ∧ x = some y)
  | [], _, 0, _, h => .inr ⟨rfl, h⟩
  | [], _, _ + 1, _, h => by cases h
  | _ :: _, _, 0, _, h => .inl h
  | _ :: l, _, i + 1, _, h => (nth_app (l := l) (i := i) h).imp id fun ⟨e, e2⟩ => ⟨congrArg Nat.succ e, e2⟩

/-- Memory that is handed over: v, its blocks, what is known of them. -/
structure Res where
  φ : Value → (Nat → Prop) → World → Prop
  one : ∀ v S w, φ v S w → v.oneCell' = true
  loc : ∀ v S w w', (∀ b, S b → w'.heap[b]? = w.heap[b]?) → φ v S w → φ v S w'
/-- What is known: how many slots there are, of some what they hold; the blocks; what was handed over. -/
structure St where
  n : Nat
  ts : List (Nat × SV)
  bs : List (Option (TypeId × List SV))
  rs : List (Option Res)
def St.lt (σ : St) (s : SV) : Bool := s.ok (fun i => Nat.blt i σ.bs.length) (fun i => Nat.blt i σ.rs.length)
def St.ltL (σ : St) (l : List SV) : Bool := okL (fun i => Nat.blt i σ.bs.length) (fun i => Nat.blt i σ.rs.length) l
structure See (w0 : World) (σ : St) (r : Env) (a : Act) (w : World) : Prop where
  low : Below w0.heap.size w0 w
  size : a.tmps.size = σ.n
  ts : ∀ k s, look k σ.ts = some s → a.tmps.getD k undef = s.den r ∧ σ.lt s = true
  bs : ∀ i t cs, nth σ.bs i = some (t, cs) → Bx w (r.b i) t (denL r cs).toArray ∧ σ.ltL cs = true
  rs : ∀ i R, nth σ.rs i = some R → R.φ (r.x i) (r.S i) w ∧ ∀ b, r.S i b → b < w.heap.size
  one : ∀ i, i < σ.rs.length → (r.x i).oneCell' = true
structure Sep (w0 : World) (σ : St) (r : Env) : Prop where
  own : ∀ i p, nth σ.bs i = some p → w0.heap.size ≤ r.b i
  inj : ∀ i j p q, nth σ.bs i = some p → nth σ.bs j = some q → i ≠ j → r.b i ≠ r.b j
  ownS : ∀ i R, nth σ.rs i = some R → ∀ b, r.S i b → w0.heap.size ≤ b
  disj : ∀ i j R R', nth σ.rs i = some R → nth σ.rs j = some R' → i ≠ j → ∀ b, r.S i b → ¬ r.S j b
  apart : ∀ i j p R, nth σ.bs i = some p → nth σ.rs j = some R → ¬ r.S j (r.b i)
structure Sat (w0 : World) (σ : St) (r : Env) (a : Act) (w : World) : Prop where
  see : See w0 σ r a w
  sep : Sep w0 σ r
  defers : a.defers = []
theorem See.later {w0 : World} {σ : St} {r : Env} {a : Act} {w w' : World} (h : See w0 σ r a w) (hb : Below w.heap.size w w') : See w0 σ r a w' :=
  ⟨nxt h.low hb, h.size, h.ts, fun i t cs hi => ⟨(h.bs i t cs hi).1.later hb, (h.bs i t cs hi).2⟩, fun i R hi => ⟨R.loc _ _ _ _ (fun b hS => hb.block b ((h.rs i R hi).2 b hS)) (h.rs i R hi).1, fun b hS => Nat.lt_of_lt_of_le ((h.rs i R hi).2 b hS) hb.size⟩, h.one⟩

/-- What an operation yields, and what it makes. -/
structure Out where
  s : SV
  b : Option (TypeId × List SV) := none
  r : Option Res := none
structure Gh where
  b : Nat
  x : Value
  S : Nat → Prop
def Gh.no : Gh := ⟨0, .bool false, fun _ => False⟩
def Env.add (r : Env) (nb nx : Nat) (γ : Gh) : Env := ⟨upd r.b nb γ.b, upd r.x nx γ.x, upd r.S nx γ.S⟩
def Env.add' (r : Env) (σ : St) (γ : Gh) : Env := r.add σ.bs.length σ.rs.length γ
theorem den_add {σ : St} {s : SV} (h : σ.lt s = true) (r : Env) (γ : Gh) : s.den (r.add' σ γ) = s.den r :=
  den_congr (fun _ hi => upd_ne _ _ (Nat.ne_of_lt (blt_lt hi))) (fun _ hi => upd_ne _ _ (Nat.ne_of_lt (blt_lt hi))) s h
theorem denL_add {σ : St} {l : List SV} (h : σ.ltL l = true) (r : Env) (γ : Gh) : denL (r.add' σ γ) l = denL r l :=
  denL_congr (fun _ hi => upd_ne _ _ (Nat.ne_of_lt (blt_lt hi))) (fun _ hi => upd_ne _ _ (Nat.ne_of_lt (blt_lt hi))) l h
/-- What was made lies in new blocks. -/
structure Made (r' : Env) (o : Out) (γ : Gh) (w w' : World) : Prop where
  one : γ.x.oneCell' = true
  b : ∀ t cs, o.b = some (t, cs) → Bx w' γ.b t (denL r' cs).toArray ∧ w.heap.size ≤ γ.b
  r : ∀ R, o.r = some R → R.φ γ.x γ.S w' ∧ ∀ b, γ.S b → w.heap.size ≤ b ∧ b < w'.heap.size
  apart : ∀ p R, o.b = some p → o.r = some R → ¬ γ.S γ.b
def snoc {α : Type} : List α → α → List α
  | [], y => [y]
  | x :: l, y => x :: snoc l y
theorem snoc_eq {α : Type} : ∀ (l : List α) (y : α), snoc l y = l ++ [y]
  | [], _ => rfl
  | x :: l, y => congrArg (x :: ·) (snoc_eq l y)
/-- It may be yielded: what it points to is known by then. -/
def St.fits (σ : St) (o : Out) : Bool :=
  (o.s.ok (fun i => Nat.blt i (match o.b with | some _ => σ.bs.length + 1 | none => σ.bs.length)) (fun i => Nat.blt i (match o.r with | some _ => σ.rs.length + 1 | none => σ.rs.length))) &&
  (match o.b with | some (_, cs) => σ.ltL cs | none => true)
def St.grow (σ : St) (o : Out) : St := { σ with bs := match o.b with | some x => snoc σ.bs (some x) | none => σ.bs, rs := match o.r with | some R => snoc σ.rs (some R) | none => σ.rs }
def St.push (σ : St) (d : Option Tmp) (s : SV) : St := match d with | some d => { σ with ts := (d, s) :: σ.ts } | none => σ
theorem grow_bs {σ : St} {o : Out} : σ.bs.length ≤ (σ.grow o).bs.length := by
  unfold St.grow; cases o.b <;> simp [snoc_eq]
theorem grow_rs {σ : St} {o : Out} : σ.rs.length ≤ (σ.grow o).rs.length := by
  unfold St.grow; cases o.r <;> simp [snoc_eq]
theorem lt_grow {σ : St} {o : Out} {s : SV} (h : σ.lt s = true) : (σ.grow o).lt s = true :=
  ok_mono (fun _ hi => lt_blt (Nat.lt_of_lt_of_le (blt_lt hi) grow_bs)) (fun _ hi => lt_blt (Nat.lt_of_lt_of_le (blt_lt hi) grow_rs)) s h
theorem ltL_grow {σ : St} {o : Out} {l : List SV} (h : σ.ltL l = true) : (σ.grow o).ltL l = true :=
  okL_mono (fun _ hi => lt_blt (Nat.lt_of_lt_of_le (blt_lt hi) grow_bs)) (fun _ hi => lt_blt (Nat.lt_of_lt_of_le (blt_lt hi) grow_rs)) l h
theorem grow_nb {σ : St} {o : Out} {i : Nat} {p : TypeId × List SV} (h : nth (σ.grow o).bs i = some p) : nth σ.bs i = some p ∨ (i = σ.bs.length ∧ o.b = some p) := by
  unfold St.grow at h
  cases e : o.b with
  | none => rw [e] at h; exact .inl h
  | some x =>
    rw [e] at h
    simp only [snoc_eq] at h
    exact (nth_app h).imp id fun ⟨h1, h2⟩ => ⟨h1, h2⟩
theorem grow_nr {σ : St} {o : Out} {i : Nat} {R : Res} (h : nth (σ.grow o).rs i = some R) : nth σ.rs i = some R ∨ (i = σ.rs.length ∧ o.r = some R) := by
  unfold St.grow at h
  cases e : o.r with
  | none => rw [e] at h; exact .inl h
  | some x =>
    rw [e] at h
    simp only [snoc_eq] at h
    exact (nth_app h).imp id fun ⟨h1, h2⟩ => ⟨h1, h2⟩
theorem fits_lt {σ : St} {o : Out} (h : σ.fits o = true) : (σ.grow o).lt o.s = true := by
  unfold St.fits at h
  have h1 := (Bool.and_eq_true_iff.1 h).1
  refine ok_mono (fun i hi => ?_) (fun i hi => ?_) o.s h1
  · unfold St.grow
    cases e : o.b <;> simp only [e, snoc_eq, List.length_append, List.length_cons, List.length_nil] at hi ⊢ <;> exact hi
  · unfold St.grow
    cases e : o.r <;> simp only [e, snoc_eq, List.length_append, List.length_cons, List.length_nil] at hi ⊢ <;> exact hi
theorem fits_ltL {σ : St} {o : Out} (h : σ.fits o = true) {t : TypeId} {cs : List SV} (e : o.b = some (t, cs)) : σ.ltL cs = true := by
  unfold St.fits at h
  have h1 := (Bool.and_eq_true_iff.1 h).2
  rw [e] at h1
  exact h1
section
variable {w0 : World} {σ : St} {r : Env} {a : Act} {w w' : World} {o : Out} {γ : Gh}
theorem add_b_old {i : Nat} {p : TypeId × List SV} (h : nth σ.bs i = some p) : (r.add' σ γ).b i = r.b i := upd_ne _ _ (Nat.ne_of_lt (nth_lt h))
theorem add_x_old {i : Nat} (h : i < σ.rs.length) : (r.add' σ γ).x i = r.x i := upd_ne _ _ (Nat.ne_of_lt h)
theorem add_S_old {i : Nat} {R : Res} (h : nth σ.rs i = some R) : (r.add' σ γ).S i = r.S i := upd_ne _ _ (Nat.ne_of_lt (nth_lt h))
theorem See.grow (h : See w0 σ r a w) (hb : Below w.heap.size w w') (hf : σ.fits o = true) (hm : Made (r.add' σ γ) o γ w w') : See w0 (σ.grow o) (r.add' σ γ) a w' := by
  have h' := h.later hb
  refine ⟨h'.low, h'.size, fun k s hk => ?_, fun i t cs hi => ?_, fun i R hi => ?_, fun i hi => ?_⟩
  · have h1 := h'.ts k s hk
    exact ⟨by rw [den_add h1.2]; exact h1.1, lt_grow h1.2⟩
  · rcases grow_nb hi with h1 | ⟨rfl, h1⟩
    · obtain ⟨h2, h3⟩ := h'.bs i t cs h1
      rw [denL_add h3, add_b_old h1]
      exact ⟨h2, ltL_grow h3⟩
    · have h2 := (hm.b t cs h1).1
      refine ⟨?_, ltL_grow (fits_ltL hf h1)⟩
      rw [show (r.add' σ γ).b σ.bs.length = γ.b from upd_at _ _ _]
      exact h2
  · rcases grow_nr hi with h1 | ⟨rfl, h1⟩
    · rw [add_x_old (nth_lt h1), add_S_old h1]
      exact h'.rs i R h1
    · rw [show (r.add' σ γ).x σ.rs.length = γ.x from upd_at _ _ _, show (r.add' σ γ).S σ.rs.length = γ.S from upd_at _ _ _]
      exact ⟨(hm.r R h1).1, fun b hS => ((hm.r R h1).2 b hS).2⟩
  · rcases Nat.lt_or_ge i σ.rs.length with h1 | h1
    · rw [add_x_old h1]; exact h.one i h1
    · have h2 : i = σ.rs.length := by
        have : (σ.grow o).rs.length ≤ σ.rs.length + 1 := by
          unfold St.grow; cases o.r <;> simp [snoc_eq]
        have hi' : i < (σ.grow o).rs.length := hi
        omega
      subst h2
      rw [show (r.add' σ γ).x σ.rs.length = γ.x from upd_at _ _ _]
      exact hm.one
theorem Sep.grow (h : Sep w0 σ r) (hs : See w0 σ r a w) (_hb : Below w.heap.size w w') (hm : Made (r.add' σ γ) o γ w w') : Sep w0 (σ.grow o) (r.add' σ γ) := by
  have eb : (r.add' σ γ).b σ.bs.length = γ.b := upd_at _ _ _
  have eS : (r.add' σ γ).S σ.rs.length = γ.S := upd_at _ _ _
  have hlow := hs.low.size
  have hbx : ∀ i p, nth σ.bs i = some p → r.b i < w.heap.size := fun i p hi => (hs.bs i p.1 p.2 hi).1.lt
  refine ⟨fun i p hi => ?_, fun i j p q hi hj hne => ?_, fun i R hi b hS => ?_, fun i j R R' hi hj hne b hS hS' => ?_, fun i j p R hi hj hS => ?_⟩
  · rcases grow_nb hi with h1 | ⟨rfl, h1⟩
    · rw [add_b_old h1]; exact h.own i p h1
    · rw [eb]; have := (hm.b p.1 p.2 h1).2; omega
  · rcases grow_nb hi with h1 | ⟨rfl, h1⟩ <;> rcases grow_nb hj with h2 | ⟨rfl, h2⟩
    · rw [add_b_old h1, add_b_old h2]; exact h.inj i j p q h1 h2 hne
    · rw [add_b_old h1, eb]; have := (hm.b q.1 q.2 h2).2; have := hbx i p h1; omega
    · rw [add_b_old h2, eb]; have := (hm.b p.1 p.2 h1).2; have := hbx j q h2; omega
    · exact absurd rfl hne
  · rcases grow_nr hi with h1 | ⟨rfl, h1⟩
    · rw [add_S_old h1] at hS; exact h.ownS i R h1 b hS
    · rw [eS] at hS; have := ((hm.r R h1).2 b hS).1; omega
  · rcases grow_nr hi with h1 | ⟨rfl, h1⟩ <;> rcases grow_nr hj with h2 | ⟨rfl, h2⟩
    · rw [add_S_old h1] at hS; rw [add_S_old h2] at hS'; exact h.disj i j R R' h1 h2 hne b hS hS'
    · rw [add_S_old h1] at hS; rw [eS] at hS'
      have := ((hm.r R' h2).2 b hS').1; have := (hs.rs i R h1).2 b hS; omega
    · rw [add_S_old h2] at hS'; rw [eS] at hS
      have := ((hm.r R h1).2 b hS).1; have := (hs.rs j R' h2).2 b hS'; omega
    · exact absurd rfl hne
  · rcases grow_nb hi with h1 | ⟨rfl, h1⟩ <;> rcases grow_nr hj with h2 | ⟨rfl, h2⟩
    · rw [add_b_old h1, add_S_old h2] at hS; exact h.apart i j p R h1 h2 hS
    · rw [add_b_old h1, eS] at hS
      have := ((hm.r R h2).2 _ hS).1; have := hbx i p h1; omega
    · rw [eb, add_S_old h2] at hS
      have := (hm.b p.1 p.2 h1).2; have := (hs.rs j R h2).2 _ hS; omega
    · rw [eb, eS] at hS; exact hm.apart p R h1 h2 hS
theorem See.push (h : See w0 σ r a w) {d : Option Tmp} {s : SV} (hd : ∀ k, d = some k → k < σ.n) (hs : σ.lt s = true) : See w0 (σ.push d s) r (a.put d (s.den r)) w := by
  cases d with
  | none => exact h
  | some d =>
    have hsz : d < a.tmps.size := by rw [h.size]; exact hd d rfl
    refine ⟨h.low, by simpa [Act.put, St.push] using h.size, fun k u hk => ?_, h.bs, h.rs, h.one⟩
    simp only [St.push, look] at hk
    cases e : Nat.beq d k with
    | true =>
      have : d = k := Nat.eq_of_beq_eq_true e
      subst this
      rw [e] at hk
      obtain rfl := Option.some.inj hk
      exact ⟨by simp [Act.put, hsz], hs⟩
    | false =>
      have hne : d ≠ k := Nat.ne_of_beq_eq_false e
      rw [e] at hk
      obtain ⟨h1, h2⟩ := h.ts k u hk
      refine ⟨?_, h2⟩
      rw [← h1]
      show (a.tmps.setIfInBounds d _).getD k undef = a.tmps.getD k undef
      simp [hne]
end
end Go.Proofs.YtchfglbkiebfpaaGreatDoor

namespace Go.Proofs.YtchfglbkiebfpaaGreatDoor
open Go Go.RowKit

/-! The types. -/
inductive TK where
  | struct (fs : List (Nat × Nat × Option Bool))
  | array (n e sz : Nat) (ag : Option Bool)
  | slice (e sz : Nat) (ag : Option Bool)
  | ptr (e : Nat)
  | str
  | int (k : IntKind)
  | bool
  | other
structure TI where
  size : Nat
  zero : List Value
  k : TK
def szT (P : Program) (t : TypeId) : Nat := match P.info? t with | some i => i.size | none => 0
def agD : TypeDesc → Bool
  | .struct _ => true
  | .array _ _ => true
  | _ => false
def agT (P : Program) (t : TypeId) : Option Bool := match P.underlying t with | some d => some (agD d) | none => none
def TK.agg : TK → Bool
  | .struct _ => true
  | .array .. => true
  | _ => false
def ofDesc (P : Program) : TypeDesc → TK
  | .struct fs => .struct (fs.toList.map fun f => (f.offset, szT P f.type, agT P f.type))
  | .array n e => .array n e (szT P e) (agT P e)
  | .slice e => .slice e (szT P e) (agT P e)
  | .pointer e => .ptr e
  | .string => .str
  | .int k => .int k
  | .bool => .bool
  | _ => .other
def tiOf (P : Program) (t : TypeId) : Option TI := match P.info? t, P.underlying t with
  | some i, some d => some ⟨i.size, match i.zero with | some z => z.cells.toList | none => [], ofDesc P d⟩
  | _, _ => none
def TTOk (P : Program) (tt : List (Nat × TI)) : Prop := ∀ t ti, look t tt = some ti → tiOf P t = some ti
theorem tt_ok {P : Program} : ∀ {tt : List (Nat × TI)}, tt.map (fun p => tiOf P p.1) = tt.map (fun p => some p.2) → TTOk P tt
  | [], _ => fun _ _ h => by cases h
  | (j, x) :: l, h => fun t ti ht => by
    simp only [List.map_cons, List.cons.injEq] at h
    unfold look at ht
    cases e : Nat.beq j t with
    | true =>
      rw [e] at ht
      obtain rfl := Option.some.inj ht
      rw [← Nat.eq_of_beq_eq_true e]
      exact h.1
    | false => rw [e] at ht; exact tt_ok h.2 t ti ht
section
variable {P : Program} {t : TypeId} {ti : TI}
theorem ti_parts (h : tiOf P t = some ti) : ∃ i d, P.info? t = some i ∧ P.underlying t = some d ∧ ti.size = i.size ∧ ti.k = ofDesc P d ∧ (∀ z, i.zero = some z → ti.zero = z.cells.toList) ∧ (i.zero = none → ti.zero = []) := by
  unfold tiOf at h
  split at h
  · rename_i i d h1 h2
    obtain rfl := Option.some.inj h
    refine ⟨i, d, h1, h2, rfl, rfl, fun z hz => by simp only [hz], fun hz => by simp only [hz]⟩
  · cases h
theorem sz_run {n : Nat} (h : szT P t = n) (hn : n ≠ 0) (w : World) : (sizeOf t).run P w = .ok n w := by
  unfold szT at h
  cases e : P.info? t with
  | none => rw [e] at h; exact absurd h.symm hn
  | some i => rw [e] at h; simp only at h; subst h; simp [sizeOf, typeInfo, e]
theorem ti_size (h : tiOf P t = some ti) (w : World) : (sizeOf t).run P w = .ok ti.size w := by
  obtain ⟨i, d, h1, _, h3, _⟩ := ti_parts h
  simp [sizeOf, typeInfo, h1, h3]
theorem und_run {d : TypeDesc} (h : P.underlying t = some d) (w : World) : (underlying t).run P w = .ok d w := by simp [underlying, h]
theorem ag_run {b : Bool} (h : agT P t = some b) (w : World) : (isAgg t).run P w = .ok b w := by
  unfold agT at h
  cases e : P.underlying t with
  | none => rw [e] at h; cases h
  | some d =>
    rw [e] at h
    obtain rfl := Option.some.inj h
    unfold isAgg
    rw [Sem.run_bind, und_run e]
    cases d <;> rfl
theorem ti_agg (h : tiOf P t = some ti) (w : World) : (isAgg t).run P w = .ok ti.k.agg w := by
  obtain ⟨i, d, _, h2, _, h4, _⟩ := ti_parts h
  refine ag_run ?_ w
  unfold agT; rw [h2, h4]
  cases d <;> rfl
theorem ti_zero (h : tiOf P t = some ti) (hz : ti.zero ≠ []) (w : World) : ∃ z, (zeroValue t).run P w = .ok z w ∧ z.cells.toList = ti.zero := by
  obtain ⟨i, d, h1, _, _, _, h5, h6⟩ := ti_parts h
  cases e : i.zero with
  | none => exact absurd (h6 e) hz
  | some z => exact ⟨z, by simp [zeroValue, typeInfo, h1, e], (h5 z e).symm⟩
theorem ti_slice {e sz : Nat} {ag : Option Bool} (h : tiOf P t = some ti) (hk : ti.k = .slice e sz ag) : P.underlying t = some (.slice e) ∧ szT P e = sz ∧ agT P e = ag := by
  obtain ⟨i, d, _, h2, _, h4, _⟩ := ti_parts h
  rw [h4] at hk
  cases d <;> simp [ofDesc] at hk
  obtain ⟨rfl, rfl, rfl⟩ := hk
  exact ⟨h2, rfl, rfl⟩
theorem ti_array {n e sz : Nat} {ag : Option Bool} (h : tiOf P t = some ti) (hk : ti.k = .array n e sz ag) : P.underlying t = some (.array n e) ∧ szT P e = sz ∧ agT P e = ag := by
  obtain ⟨i, d, _, h2, _, h4, _⟩ := ti_parts h
  rw [h4] at hk
  cases d <;> simp [ofDesc] at hk
  obtain ⟨rfl, rfl, rfl, rfl⟩ := hk
  exact ⟨h2, rfl, rfl⟩
theorem ti_struct {fs : List (Nat × Nat × Option Bool)} (h : tiOf P t = some ti) (hk : ti.k = .struct fs) : ∃ fd : Array Field, P.underlying t = some (.struct fd) ∧ fs = fd.toList.map fun f => (f.offset, szT P f.type, agT P f.type) := by
  obtain ⟨i, d, _, h2, _, h4, _⟩ := ti_parts h
  rw [h4] at hk
  cases d <;> simp [ofDesc] at hk
  exact ⟨_, h2, hk.symm⟩
theorem ti_int {k : IntKind} (h : tiOf P t = some ti) (hk : ti.k = .int k) : P.underlying t = some (.int k) := by
  obtain ⟨i, d, _, h2, _, h4, _⟩ := ti_parts h
  rw [h4] at hk
  cases d <;> simp [ofDesc] at hk
  subst hk; exact h2
theorem ti_str (h : tiOf P t = some ti) (hk : ti.k = .str) : P.underlying t = some .string := by
  obtain ⟨i, d, _, h2, _, h4, _⟩ := ti_parts h
  rw [h4] at hk
  cases d <;> simp [ofDesc] at hk
  exact h2
theorem ti_ptr {e : Nat} (h : tiOf P t = some ti) (hk : ti.k = .ptr e) : P.underlying t = some (.pointer e) := by
  obtain ⟨i, d, _, h2, _, h4, _⟩ := ti_parts h
  rw [h4] at hk
  cases d <;> simp [ofDesc] at hk
  subst hk; exact h2
end
/-! Cells. -/
def SV.cells : SV → List SV
  | .val y => y.cells.toList.map SV.val
  | .agg l => l
  | z => [z]
theorem oneCell_cells {v : Value} (h : v.oneCell' = true) : v.cells = #[v] := by cases v <;> first | rfl | (simp [Value.oneCell'] at h)
def SV.okCell : SV → Bool
  | .val y => y.oneCell'
  | .agg _ => false
  | .tup _ => false
  | _ => true
section
variable {w0 : World} {σ : St} {r : Env} {a : Act} {w : World}
theorem lt_one (h : See w0 σ r a w) {i : Nat} (hs : σ.lt (.han i) = true) : (r.x i).oneCell' = true := h.one i (blt_lt hs)
theorem cells_den (h : See w0 σ r a w) {s : SV} (hs : σ.lt s = true) : denL r s.cells = (s.den r).cells.toList := by
  cases s with
  | val y => simp [SV.cells, SV.den, denL_v]
  | agg l => simp [SV.cells, SV.den, Value.cells]
  | han i => simp [SV.cells, denL, SV.den, oneCell_cells (lt_one h hs)]
  | _ => simp [SV.cells, denL, SV.den, Value.cells]
theorem cells_lt {s : SV} (hs : σ.lt s = true) : σ.ltL s.cells = true := by
  cases s with
  | val y => exact okL_v _ _ _
  | agg l => exact hs
  | _ => exact Bool.and_eq_true_iff.2 ⟨hs, rfl⟩
theorem okCell_den (h : See w0 σ r a w) {s : SV} (hs : σ.lt s = true) (hc : s.okCell = true) : (s.den r).oneCell' = true := by
  cases s with
  | val y => exact hc
  | han i => exact lt_one h hs
  | agg l => cases hc
  | tup l => cases hc
  | _ => rfl
end
/-- vs in the places from n on. -/
def spl {α : Type} : List α → Nat → List α → List α
  | [], _, _ => []
  | x :: l, _, [] => x :: l
  | _ :: l, 0, v :: vs => v :: spl l 0 vs
  | x :: l, n + 1, v :: vs => x :: spl l n (v :: vs)
theorem spl_nil {α : Type} (l : List α) (n : Nat) : spl l n [] = l := by cases l <;> rfl
theorem spl_set {α : Type} : ∀ (l : List α) (n : Nat) (v : α) (vs : List α), spl l n (v :: vs) = spl (l.set n v) (n + 1) vs
  | [], _, _, _ => rfl
  | x :: l, 0, v, [] => by simp [spl, spl_nil]
  | x :: l, 0, v, u :: vs => rfl
  | x :: l, n + 1, v, [] => by
    rw [spl_nil]
    show x :: spl l n [v] = x :: l.set n v
    rw [spl_set l n v [], spl_nil]
  | x :: l, n + 1, v, u :: vs => congrArg (x :: ·) (spl_set l n v (u :: vs))
theorem spl_map {α β : Type} (f : α → β) : ∀ (l : List α) (n : Nat) (vs : List α), (spl l n vs).map f = spl (l.map f) n (vs.map f)
  | [], _, _ => rfl
  | _ :: _, _, [] => by rw [spl_nil]; exact (spl_nil _ _).symm
  | _ :: l, 0, v :: vs => congrArg (f v :: ·) (spl_map f l 0 vs)
  | x :: l, n + 1, v :: vs => congrArg (f x :: ·) (spl_map f l n (v :: vs))
theorem okL_spl {β ξ : Nat → Bool} : ∀ {l : List SV} {n : Nat} {vs : List SV}, okL β ξ l = true → okL β ξ vs = true → okL β ξ (spl l n vs) = true
  | [], _, _, _, _ => rfl
  | _ :: _, _, [], h, _ => by rw [spl_nil]; exact h
  | _ :: l, 0, v :: vs, h, k => Bool.and_eq_true_iff.2 ⟨(Bool.and_eq_true_iff.1 k).1, okL_spl (l := l) (n := 0) (Bool.and_eq_true_iff.1 h).2 (Bool.and_eq_true_iff.1 k).2⟩
  | x :: l, n + 1, v :: vs, h, k => Bool.and_eq_true_iff.2 ⟨(Bool.and_eq_true_iff.1 h).1, okL_spl (l := l) (n := n) (Bool.and_eq_true_iff.1 h).2 k⟩
theorem putN_spl : ∀ (vs : List Value) (k : Nat) (l : List Value), putN l.toArray k vs = (spl l k vs).toArray
  | [], k, l => by rw [spl_nil]; rfl
  | v :: vs, k, l => by
    show putN (l.toArray.setIfInBounds k v) (k + 1) vs = _
    rw [spl_set, List.setIfInBounds_toArray, putN_spl vs (k + 1)]
theorem fold_spl : ∀ (vs : List Value) (k o : Nat) (l : List Value), (vs.zipIdx k).foldl (fun cs (x : Value × Nat) => cs.setIfInBounds (o + x.2) x.1) l.toArray = (spl l (o + k) vs).toArray
  | [], k, o, l => by rw [spl_nil]; rfl
  | v :: vs, k, o, l => by
    rw [List.zipIdx_cons, List.foldl_cons, spl_set, List.setIfInBounds_toArray, fold_spl vs (k + 1) o]
    rfl
def fillS (place : Nat → Option (Nat × Nat)) : List SV → List (Nat × SV) → Option (List SV)
  | cells, [] => some cells
  | cells, (i, s) :: l => match place i with
    | none => none
    | some (off, size) => bif Nat.beq s.cells.length size && Nat.ble (off + s.cells.length) cells.length then fillS place (spl cells off s.cells) l else none
section
variable {w0 : World} {σ : St} {r : Env} {a : Act} {w : World}
theorem fill_den (h : See w0 σ r a w) (place : Nat → Option (Nat × Nat)) : ∀ (ps : List (Nat × SV)) (cells l : List SV), (∀ p, p ∈ ps → σ.lt p.2 = true) → σ.ltL cells = true → fillS place cells ps = some l →
    Instr.fill place (denL r cells).toArray (ps.map fun p => (p.1, p.2.den r)) = some (denL r l).toArray
  | [], cells, l, _, _, e => by
    obtain rfl := Option.some.inj e
    rfl
  | (i, s) :: ps, cells, l, hp, hc, e => by
    have hs : σ.lt s = true := hp (i, s) (by simp)
    simp only [fillS] at e
    simp only [List.map_cons, Instr.fill]
    cases e1 : place i with
    | none => rw [e1] at e; cases e
    | some q =>
      obtain ⟨off, size⟩ := q
      rw [e1] at e
      dsimp only at e ⊢
      cases e2 : Nat.beq s.cells.length size && Nat.ble (off + s.cells.length) cells.length with
      | false => rw [e2] at e; cases e
      | true =>
        rw [e2] at e
        obtain ⟨e3, e4⟩ := Bool.and_eq_true_iff.1 e2
        have e5 := Nat.eq_of_beq_eq_true e3
        have e6 := Nat.le_of_ble_eq_true e4
        have hcd := cells_den h hs
        have hl : (s.den r).cells.size = s.cells.length := by rw [← Array.length_toList, ← hcd, denL_len]
        have hn : ¬ ((s.den r).cells.size ≠ size || off + (s.den r).cells.size > (denL r cells).toArray.size) = true := by
          simp [hl, e5, denL_len]; omega
        rw [if_neg hn]
        have hz : (s.den r).cells.zipIdx.foldl (fun cs x => cs.setIfInBounds (off + x.2) x.1) (denL r cells).toArray = (denL r (spl cells off s.cells)).toArray := by
          have h1 := fold_spl (s.den r).cells.toList 0 off (denL r cells)
          rw [Nat.add_zero, ← hcd, denL_map r s.cells, denL_map r cells, ← spl_map] at h1
          simp only [← denL_map] at h1
          rw [← h1, hcd, ← Array.toList_zipIdx, ← Array.foldl_toList]
        have h2 := fill_den h place ps (spl cells off s.cells) l (fun p hp' => hp p (by simp [hp'])) (okL_spl hc (cells_lt hs)) e
        rw [← h2]
        congr 1
end

/-! What an operation yields. -/
def evS (σ : St) : Operand → Option SV
  | .tmp k => look k σ.ts
  | .const v => some (.val v)
  | .global g => some (.val (.pointer (some ⟨g, 0, none⟩)))
  | .func f => some (.clo (.func f) [] [])
def evK (σ : St) (x : Operand) (K : SV → Prop) : Prop := match evS σ x with | some s => K s | none => False
def evL (σ : St) : List Operand → (List SV → Prop) → Prop
  | [], K => K []
  | x :: l, K => evK σ x fun s => evL σ l fun m => K (s :: m)
def evP (σ : St) : List (Nat × Operand) → (List (Nat × SV) → Prop) → Prop
  | [], K => K []
  | (i, x) :: l, K => evK σ x fun s => evP σ l fun m => K ((i, s) :: m)
def tiK (tt : List (Nat × TI)) (t : TypeId) (K : TI → Prop) : Prop := match look t tt with | some ti => K ti | none => False
def optK {α : Type} (o : Option α) (K : α → Prop) : Prop := match o with | some y => K y | none => False
def nonB {α : Type} : List α → Bool
  | [] => false
  | _ :: _ => true
def rep (z : List Value) : Nat → List Value
  | 0 => []
  | n + 1 => z ++ rep z n
section
variable {w0 : World} {σ : St} {r : Env} {a : Act} {w : World}
theorem evS_den (h : See w0 σ r a w) {x : Operand} {s : SV} (e : evS σ x = some s) : a.eval x = s.den r ∧ σ.lt s = true := by
  cases x with
  | tmp k => exact h.ts k s e
  | const v => obtain rfl := Option.some.inj e; exact ⟨rfl, rfl⟩
  | global g => obtain rfl := Option.some.inj e; exact ⟨rfl, rfl⟩
  | func f => obtain rfl := Option.some.inj e; exact ⟨rfl, rfl⟩
theorem evK_spec {x : Operand} {K : SV → Prop} (e : evK σ x K) : ∃ s, evS σ x = some s ∧ K s := by
  unfold evK at e
  split at e
  · exact ⟨_, by assumption, e⟩
  · exact e.elim
theorem evL_spec : ∀ {l : List Operand} {K : List SV → Prop}, evL σ l K → ∃ m, K m ∧ ∀ r a w, See w0 σ r a w → l.map a.eval = denL r m ∧ σ.ltL m = true
  | [], K, e => ⟨[], e, fun _ _ _ _ => ⟨rfl, rfl⟩⟩
  | x :: l, K, e => by
    obtain ⟨s, h1, h2⟩ := evK_spec e
    obtain ⟨m, h3, h4⟩ := evL_spec (l := l) h2
    refine ⟨s :: m, h3, fun r a w h => ?_⟩
    obtain ⟨h5, h6⟩ := h4 r a w h
    obtain ⟨h7, h8⟩ := evS_den h h1
    exact ⟨by simp [denL, h5, h7], Bool.and_eq_true_iff.2 ⟨h8, h6⟩⟩
theorem evP_spec : ∀ {l : List (Nat × Operand)} {K : List (Nat × SV) → Prop}, evP σ l K → ∃ m, K m ∧ ∀ r a w, See w0 σ r a w → l.map (fun p => (p.1, a.eval p.2)) = m.map (fun p => (p.1, p.2.den r)) ∧ ∀ p, p ∈ m → σ.lt p.2 = true
  | [], K, e => ⟨[], e, fun _ _ _ _ => ⟨rfl, fun _ h => by cases h⟩⟩
  | (i, x) :: l, K, e => by
    obtain ⟨s, h1, h2⟩ := evK_spec e
    obtain ⟨m, h3, h4⟩ := evP_spec (l := l) h2
    refine ⟨(i, s) :: m, h3, fun r a w h => ?_⟩
    obtain ⟨h5, h6⟩ := h4 r a w h
    obtain ⟨h7, h8⟩ := evS_den h h1
    refine ⟨by simp [h5, h7], fun p hp => ?_⟩
    rcases List.mem_cons.1 hp with rfl | hp
    · exact h8
    · exact h6 p hp
theorem tiK_spec {tt : List (Nat × TI)} {P : Program} (hT : TTOk P tt) {t : TypeId} {K : TI → Prop} (e : tiK tt t K) : ∃ ti, tiOf P t = some ti ∧ K ti := by
  unfold tiK at e
  split at e
  · exact ⟨_, hT t _ (by assumption), e⟩
  · exact e.elim
theorem optK_spec {α : Type} {o : Option α} {K : α → Prop} (e : optK o K) : ∃ y, o = some y ∧ K y := by
  unfold optK at e
  split at e
  · exact ⟨_, rfl, e⟩
  · exact e.elim
theorem bif_spec {b : Bool} {p : Prop} (e : bif b then p else False) : b = true ∧ p := by cases b <;> simp_all
end
/-- The operation yields what K allows; nothing that was turns. -/
def QStep (P : Program) (w0 : World) (o : Oper) (σ : St) (K : Out → Prop) : Prop :=
  ∀ r a w, See w0 σ r a w → ∀ (Q : Exit → Act → World → Prop) (next : Act → World → Prop),
    (∀ out γ w', K out → Below w.heap.size w w' → Made (r.add' σ γ) out γ w w' → next (a.put o.dst (out.s.den (r.add' σ γ))) w') → o.wp P a w next Q
def QOk (P : Program) (w0 : World) (o : Oper) (σ : St) (K : Out → Prop) : Prop := ∃ out, K out ∧ QStep P w0 o σ fun u => u = out
section
variable {P : Program} {w0 : World} {o : Oper} {σ : St} {K : Out → Prop}
theorem made_no (r : Env) (s : SV) (w : World) : Made r ⟨s, none, none⟩ Gh.no w w :=
  ⟨rfl, (fun _ _ h => nomatch h), (fun _ h => nomatch h), (fun _ _ h => nomatch h)⟩
theorem q_val (s : SV) (h : K ⟨s, none, none⟩) (hs : σ.lt s = true) (hr : ∀ r a w, See w0 σ r a w → (execOp a.eval o).run P w = .ok (.value (s.den r)) w) : QOk P w0 o σ K := ⟨_, h, fun r a w hw Q next hn => by
  have h1 := hn _ Gh.no w rfl (Below.refl _ _) (made_no _ _ _)
  rw [den_add hs] at h1
  unfold Oper.wp
  rw [hr r a w hw]
  exact h1⟩
theorem q_box (s : SV) (t : TypeId) (cs : List SV) (h : K ⟨s, some (t, cs), none⟩) (hc : σ.ltL cs = true) (hr : ∀ r a w, See w0 σ r a w → (execOp a.eval o).run P w = .ok (.value (s.den (r.add' σ ⟨w.heap.size, .bool false, fun _ => False⟩))) (w.alloc (.cells (denL r cs).toArray t))) : QOk P w0 o σ K := ⟨_, h, fun r a w hw Q next hn => by
  unfold Oper.wp
  rw [hr r a w hw]
  refine hn _ ⟨w.heap.size, .bool false, fun _ => False⟩ _ rfl (b1 w _) ⟨rfl, fun t' cs' e => ?_, (fun _ h => nomatch h), (fun _ _ _ h => nomatch h)⟩
  simp only [Option.some.injEq, Prod.mk.injEq] at e
  obtain ⟨rfl, rfl⟩ := e
  rw [denL_add hc]
  exact ⟨Bx.new w _ _, Nat.le_refl _⟩⟩
end
end Go.Proofs.YtchfglbkiebfpaaGreatDoor

namespace Go.Proofs.YtchfglbkiebfpaaGreatDoor
open Go Go.RowKit

def nthL {α : Type} : List α → Nat → Option α
  | [], _ => none
  | x :: _, 0 => some x
  | _ :: l, n + 1 => nthL l n
theorem nthL_eq {α : Type} : ∀ (l : List α) (n : Nat), nthL l n = l[n]?
  | [], _ => by simp [nthL]
  | x :: l, 0 => rfl
  | x :: l, n + 1 => by simpa [nthL] using nthL_eq l n
def nonz (n : Nat) : Bool := !Nat.beq n 0
theorem nonz_ne {n : Nat} (h : nonz n = true) : n ≠ 0 := by
  rintro rfl; cases h
theorem nonB_ne {α : Type} {l : List α} (h : nonB l = true) : l ≠ [] := by
  rintro rfl; cases h
theorem nthL_den {r : Env} {l : List SV} {n : Nat} {s : SV} (h : nthL l n = some s) : (denL r l)[n]? = some (s.den r) := by
  rw [denL_map, List.getElem?_map, ← nthL_eq, h]; rfl
theorem cut_den (r : Env) (l : List SV) (o n : Nat) : denL r ((l.drop o).take n) = ((denL r l).drop o).take n := by simp [denL_map, List.map_take, List.map_drop]
/-! Memory. -/
section
variable {P : Program} {w : World} {g o : Nat} {t bt : TypeId} {cs : List Value} {ti : TI}
theorem load_agg (hi : tiOf P t = some ti) (ha : ti.k.agg = true) (hb : Bx w g bt cs.toArray) (hn : o + ti.size ≤ cs.length) :
    (Instr.loadAt t (.pointer (some ⟨g, o, none⟩))).run P w = .ok (.agg ((cs.drop o).take ti.size).toArray) w := by
  have hl : ((cs.drop o).take ti.size).length = ti.size := by rw [List.length_take, List.length_drop]; omega
  have h1 := run_loadCells_list (P := P) w ⟨g, o, none⟩ ((cs.drop o).take ti.size) (fun j v hj => by
    rw [add_plain, hb.cel]
    have h2 : j < ti.size := by rw [← hl]; exact (List.getElem?_eq_some_iff.1 hj).1
    rw [List.getElem?_take_of_lt h2, List.getElem?_drop] at hj
    simpa using hj)
  rw [hl] at h1
  simp [Instr.loadAt, Instr.sureAddr, loadVar, ti_agg hi, ha, ti_size hi, h1]
theorem load_one {v : Value} (hi : tiOf P t = some ti) (ha : ti.k.agg = false) (hb : Bx w g bt cs.toArray) (hv : cs[o]? = some v) :
    (Instr.loadAt t (.pointer (some ⟨g, o, none⟩))).run P w = .ok v w := by
  have h1 : w.cell? ⟨g, o, none⟩ = some v := by rw [hb.cel]; simpa using hv
  simp [Instr.loadAt, Instr.sureAddr, loadVar, ti_agg hi, ha, h1]
theorem setN_size : ∀ (vs : List Value) (k : Nat) (w : World) (g : Nat), (setN w g k vs).heap.size = w.heap.size
  | [], _, _, _ => rfl
  | v :: vs, k, w, g => by
    show (setN (w.setCell ⟨g, k, none⟩ v) g (k + 1) vs).heap.size = _
    rw [setN_size vs]; simp [World.setCell]
theorem store_cells : ∀ (vs : List Value) (i : Nat) (w : World) (cs : Array Value), Bx w g bt cs → o + i + vs.length ≤ cs.size → (∀ v, v ∈ vs → v.oneCell' = true) →
    (storeCells ⟨g, o, none⟩ vs i).run P w = .ok () (setN w g (o + i) vs)
  | [], i, w, cs, _, _, _ => rfl
  | v :: vs, i, w, cs, hb, hn, h1 => by
    have hlt : o + i < cs.size := by simp at hn; omega
    have hc : w.cell? ⟨g, o + i, none⟩ = some cs[o + i] := by
      rw [hb.cel]
      exact Array.getElem?_eq_getElem hlt
    have h2 := store_cells vs (i + 1) (w.setCell ⟨g, o + i, none⟩ v) (cs.setIfInBounds (o + i) v) (hb.set (o + i) v) (by simp at hn ⊢; omega) (fun u hu => h1 u (by simp [hu]))
    unfold storeCells
    rw [Sem.run_bind, add_plain, run_store _ _ _ _ _ (h1 v (by simp)), hc]
    simp only [hb.free, Bool.false_eq_true, if_false, Result.andThen_ok]
    rw [h2]
    rfl
theorem store_run {v : Value} (hi : tiOf P t = some ti) (hb : Bx w g bt cs.toArray) (hs : v.cells.size = ti.size) (hn : o + ti.size ≤ cs.length) (h1 : ∀ u, u ∈ v.cells.toList → u.oneCell' = true) :
    (Instr.storeAt t (.pointer (some ⟨g, o, none⟩)) v).run P w = .ok () (setN w g o v.cells.toList) := by
  have h2 := store_cells (P := P) (g := g) (bt := bt) (o := o) v.cells.toList 0 w cs.toArray hb (by simp [hs]; omega) h1
  simp [Instr.storeAt, Instr.sureAddr, storeVar, ti_size hi, hs] at h2 ⊢
  exact h2
theorem fs_at {fd : Array Field} {k off sz : Nat} {ag : Option Bool} (h : nthL (fd.toList.map fun f => (f.offset, szT P f.type, agT P f.type)) k = some (off, sz, ag)) : ∃ f, fd[k]? = some f ∧ f.offset = off ∧ szT P f.type = sz ∧ agT P f.type = ag := by
  rw [nthL_eq, List.getElem?_map] at h
  cases e : fd.toList[k]? with
  | none => rw [e] at h; cases h
  | some f =>
    rw [e] at h
    simp only [Option.map_some, Option.some.injEq, Prod.mk.injEq] at h
    exact ⟨f, by simpa using e, h.1, h.2.1, h.2.2⟩
theorem field_at {fs : List (Nat × Nat × Option Bool)} {k off sz : Nat} {ag : Option Bool} (hi : tiOf P t = some ti) (hk : ti.k = .struct fs) (h : nthL fs k = some (off, sz, ag)) (hz : sz ≠ 0) :
    (Instr.fieldAt t (.pointer (some ⟨g, o, none⟩)) k).run P w = .ok (.pointer (some ⟨g, o + off, none⟩)) w := by
  obtain ⟨fd, h1, rfl⟩ := ti_struct hi hk
  obtain ⟨f, h2, rfl, h3, _⟩ := fs_at h
  simp [Instr.fieldAt, und_run h1, h2, Instr.sureAddr, fieldPlace, sz_run h3 hz, hz, add_plain]
theorem part_agg {e sz : Nat} {l : List Value} (ha : agT P e = some true) (hz : szT P e = sz) (hz0 : sz ≠ 0) (off : Nat) : (part e l.toArray off).run P w = .ok (.agg ((l.drop off).take sz).toArray) w := by
  simp [part, ag_run ha, sz_run hz hz0]
theorem part_one {e : Nat} {l : List Value} {v : Value} (ha : agT P e = some false) {off : Nat} (hv : l[off]? = some v) : (part e l.toArray off).run P w = .ok v w := by
  simp [part, ag_run ha, hv]
theorem field_agg {fs : List (Nat × Nat × Option Bool)} {k off sz : Nat} {l : List Value} (hi : tiOf P t = some ti) (hk : ti.k = .struct fs) (h : nthL fs k = some (off, sz, some true)) (hz : sz ≠ 0) :
    (Instr.field t (.agg l.toArray) k).run P w = .ok (.agg ((l.drop off).take sz).toArray) w := by
  obtain ⟨fd, h1, rfl⟩ := ti_struct hi hk
  obtain ⟨f, h2, rfl, h3, h4⟩ := fs_at h
  simp [Instr.field, und_run h1, h2, asAgg, part_agg h4 h3 hz]
theorem field_one {fs : List (Nat × Nat × Option Bool)} {k off sz : Nat} {l : List Value} {v : Value} (hi : tiOf P t = some ti) (hk : ti.k = .struct fs) (h : nthL fs k = some (off, sz, some false)) (hv : l[off]? = some v) :
    (Instr.field t (.agg l.toArray) k).run P w = .ok v w := by
  obtain ⟨fd, h1, rfl⟩ := ti_struct hi hk
  obtain ⟨f, h2, rfl, h3, h4⟩ := fs_at h
  simp [Instr.field, und_run h1, h2, asAgg, part_one h4 hv]
theorem index_arr {n e sz m : Nat} {ag : Option Bool} {k : IntKind} (hi : tiOf P t = some ti) (hk : ti.k = .array n e sz ag) (hm : m < n) (hz : sz ≠ 0) :
    (Instr.indexAt t (.pointer (some ⟨g, o, none⟩)) (.int k (Int.ofNat m))).run P w = .ok (.pointer (some ⟨g, o + m * sz, none⟩)) w := by
  obtain ⟨h1, h2, _⟩ := ti_array hi hk
  simp [Instr.indexAt, asIntOf, und_run h1, Instr.sureAddr, hm, sz_run h2 hz, add_plain]
theorem index_sli {n c e sz m : Nat} {ag : Option Bool} {k : IntKind} (hi : tiOf P t = some ti) (hk : ti.k = .slice e sz ag) (hm : m < n) (hz : sz ≠ 0) :
    (Instr.indexAt t (.slice (some ⟨g, o, none⟩) n c) (.int k (Int.ofNat m))).run P w = .ok (.pointer (some ⟨g, o + m * sz, none⟩)) w := by
  obtain ⟨h1, h2, _⟩ := ti_slice hi hk
  simp [Instr.indexAt, asIntOf, und_run h1, hm, sz_run h2 hz, add_plain]
theorem index_agg {n e sz m : Nat} {k : IntKind} {l : List Value} (hi : tiOf P t = some ti) (hk : ti.k = .array n e sz (some true)) (hm : m < n) (hz : sz ≠ 0) :
    (Instr.index t (.agg l.toArray) (.int k (Int.ofNat m))).run P w = .ok (.agg ((l.drop (m * sz)).take sz).toArray) w := by
  obtain ⟨h1, h2, h3⟩ := ti_array hi hk
  simp [Instr.index, asIntOf, und_run h1, hm, sz_run h2 hz, part_agg h3 h2 hz]
theorem index_one {n e sz m : Nat} {k : IntKind} {l : List Value} {v : Value} (hi : tiOf P t = some ti) (hk : ti.k = .array n e sz (some false)) (hm : m < n) (hz : sz ≠ 0) (hv : l[m * sz]? = some v) :
    (Instr.index t (.agg l.toArray) (.int k (Int.ofNat m))).run P w = .ok v w := by
  obtain ⟨h1, h2, h3⟩ := ti_array hi hk
  simp [Instr.index, asIntOf, und_run h1, hm, sz_run h2 hz, part_one h3 hv]
theorem bound_run {m y : Nat} {k : IntKind} {c : BoundsCode} (h : m ≤ y) : (Instr.sliceBound (.int k (m : Int)) y c).run P w = .ok m w := by
  have h1 : (m : Int) ≤ (y : Int) := by omega
  simp [Instr.sliceBound, asIntOf, h1]
/-- The bounds of a slice: low, high, or none of them. -/
def lowIs (x : Option Value) (m : Nat) : Prop := (x = none ∧ m = 0) ∨ ∃ k, x = some (.int k (Int.ofNat m))
def highIs (x : Option Value) (n m : Nat) : Prop := (x = none ∧ m = n) ∨ ∃ k, x = some (.int k (Int.ofNat m))
theorem bounds_run {isS : Bool} {len cap l h : Nat} {lo hi : Option Value} (hl : lowIs lo l) (hh : highIs hi len h) (h1 : l ≤ h) (h2 : h ≤ cap) : (Instr.sliceBounds isS len cap lo hi none).run P w = .ok (l, h, cap) w := by
  rcases hl with ⟨rfl, rfl⟩ | ⟨k, rfl⟩ <;> rcases hh with ⟨rfl, rfl⟩ | ⟨k', rfl⟩ <;>
    simp [Instr.sliceBounds, bound_run h1, bound_run h2]
theorem slice_arr {n e sz l h : Nat} {ag : Option Bool} {lo hi : Option Value} (hi0 : tiOf P t = some ti) (hk : ti.k = .array n e sz ag) (hz : sz ≠ 0) (hl : lowIs lo l) (hh : highIs hi n h) (h1 : l ≤ h) (h2 : h ≤ n) :
    (Instr.sliceAt t (.pointer (some ⟨g, o, none⟩)) lo hi none).run P w = .ok (.slice (some ⟨g, if n = l then o else o + l * sz, none⟩) (h - l) (n - l)) w := by
  obtain ⟨h3, h4, _⟩ := ti_array hi0 hk
  simp [Instr.sliceAt, und_run h3, Instr.sureAddr, bounds_run hl hh h1 h2, sz_run h4 hz]
  split <;> simp_all [add_plain]
theorem slice_ptr {n e e' sz l h : Nat} {ag : Option Bool} {te : TI} {lo hi : Option Value} (hi0 : tiOf P t = some ti) (hk : ti.k = .ptr e') (hi1 : tiOf P e' = some te) (hk1 : te.k = .array n e sz ag) (hz : sz ≠ 0) (hl : lowIs lo l) (hh : highIs hi n h) (h1 : l ≤ h) (h2 : h ≤ n) :
    (Instr.sliceAt t (.pointer (some ⟨g, o, none⟩)) lo hi none).run P w = .ok (.slice (some ⟨g, if n = l then o else o + l * sz, none⟩) (h - l) (n - l)) w := by
  have h0 := ti_ptr hi0 hk
  obtain ⟨h3, h4, _⟩ := ti_array hi1 hk1
  simp [Instr.sliceAt, Instr.slice, und_run h0, und_run h3, asAddr, bounds_run hl hh h1 h2, sz_run h4 hz]
  split <;> simp_all [add_plain]
theorem slice_sli {n c e sz l h : Nat} {ag : Option Bool} {lo hi : Option Value} (hi0 : tiOf P t = some ti) (hk : ti.k = .slice e sz ag) (hz : sz ≠ 0) (hl : lowIs lo l) (hh : highIs hi n h) (h1 : l ≤ h) (h2 : h ≤ c) :
    (Instr.sliceAt t (.slice (some ⟨g, o, none⟩) n c) lo hi none).run P w = .ok (.slice (some ⟨g, if c = l then o else o + l * sz, none⟩) (h - l) (c - l)) w := by
  obtain ⟨h3, h4, _⟩ := ti_slice hi0 hk
  simp [Instr.sliceAt, Instr.slice, und_run h3, bounds_run hl hh h1 h2, sz_run h4 hz]
  split <;> simp_all [add_plain]
theorem alloc_run (hi : tiOf P t = some ti) (hz : ti.zero ≠ []) : (Instr.alloc t true (.tuple #[])).run P w = .ok (.pointer (some ⟨w.heap.size, 0, none⟩)) (w.alloc (.cells ti.zero.toArray t)) := by
  obtain ⟨z, h1, h2⟩ := ti_zero hi hz w
  have h3 : z.cells = ti.zero.toArray := by rw [← h2]
  simp [Instr.alloc, h1, newVar, newRow, h3]
theorem box_run (v : Value) : (Instr.box t v).run P w = .ok (.pointer (some ⟨w.heap.size, 0, none⟩)) (w.alloc (.cells v.cells t)) := by
  simp [Instr.box, newVar, newRow]
end
end Go.Proofs.YtchfglbkiebfpaaGreatDoor

namespace Go.Proofs.YtchfglbkiebfpaaGreatDoor
open Go Go.RowKit

def one (s : SV) : Out := ⟨s, none, none⟩
def lit (b : Bool) : Out := ⟨.val (.bool b), none, none⟩
def intS (op : BinOp) (k : IntKind) (a b : Int) (K : Out → Prop) : Prop := match op with
  | .add => K (one (.val (.int k (k.wrap (a + b)))))
  | .sub => K (one (.val (.int k (k.wrap (a - b)))))
  | .mul => K (one (.val (.int k (k.wrap (a * b)))))
  | .eql => K (lit (a == b))
  | .neq => K (lit (a != b))
  | .lss => K (lit (decide (a < b)))
  | .leq => K (lit (decide (a ≤ b)))
  | .gtr => K (lit (decide (a > b)))
  | .geq => K (lit (decide (a ≥ b)))
  | _ => False
def kindB (k k' : IntKind) : Bool := match k, k' with
  | .i8, .i8 => true | .i16, .i16 => true | .i32, .i32 => true | .i64, .i64 => true
  | .u8, .u8 => true | .u16, .u16 => true | .u32, .u32 => true | .u64, .u64 => true
  | _, _ => false
theorem kindB_eq {k k' : IntKind} (h : kindB k k' = true) : k = k' := by cases k <;> cases k' <;> first | rfl | (cases h)
/-- A pointer of the call's own is not nil. -/
def nilS (op : BinOp) (K : Out → Prop) : Prop := match op with
  | .eql => K (lit false)
  | .neq => K (lit true)
  | _ => False
def binS (tt : List (Nat × TI)) (op : BinOp) (t : TypeId) (x y : SV) (K : Out → Prop) : Prop := match x, y with
  | .val (.int k a), .val (.int k' b) => bif kindB k k' then intS op k a b K else False
  | .ptr _ _, .val (.pointer none) => tiK tt t fun ti => match ti.k with | .ptr _ => nilS op K | _ => False
  | .sli _ _ _ _, .val (.slice none _ _) => tiK tt t fun ti => match ti.k with | .slice _ _ _ => nilS op K | _ => False
  | _, _ => False
def unS (op : UnOp) (x : SV) (K : Out → Prop) : Prop := match op, x with
  | .not, .val (.bool b) => K (lit (!b))
  | .neg, .val (.int k n) => K (one (.val (.int k (k.wrap (0 - n)))))
  | _, _ => False
def listK (s : SV) (K : List SV → Prop) : Prop := match s with
  | .agg l => K l
  | .val (.agg cs) => K (cs.toList.map SV.val)
  | _ => False
def tupK (s : SV) (K : List SV → Prop) : Prop := match s with
  | .tup l => K l
  | .val (.tuple cs) => K (cs.toList.map SV.val)
  | _ => False
def natK (s : SV) (K : Nat → Prop) : Prop := match s with
  | .val (.int _ (.ofNat m)) => K m
  | _ => False
def lowK (σ : St) (x : Option Operand) (K : Nat → Prop) : Prop := match x with
  | none => K 0
  | some x => evK σ x fun s => natK s K
def highK (σ : St) (x : Option Operand) (n : Nat) (K : Nat → Prop) : Prop := match x with
  | none => K n
  | some x => evK σ x fun s => natK s K
def partS (l : List SV) (off sz : Nat) (ag : Option Bool) (K : Out → Prop) : Prop := match ag with
  | some true => bif nonz sz then K (one (.agg ((l.drop off).take sz))) else False
  | some false => optK (nthL l off) fun c => K (one c)
  | none => False
def sliS (b o _n c l h sz : Nat) (K : Out → Prop) : Prop := bif nonz sz && Nat.ble l h && Nat.ble h c then K (one (.sli b (bif Nat.beq c l then o else o + l * sz) (h - l) (c - l))) else False
def arrS (tt : List (Nat × TI)) (t : TypeId) (K : Nat → Nat → Prop) : Prop := tiK tt t fun ti => match ti.k with
  | .array n _ sz _ => K n sz
  | .ptr e => tiK tt e fun te => match te.k with
    | .array n _ sz _ => K n sz
    | _ => False
  | _ => False
def lenS (tt : List (Nat × TI)) (t : TypeId) (x : SV) (K : Out → Prop) : Prop := tiK tt t fun ti => match ti.k with
  | .str => (match x with
    | .val (.string s) => K (one (.val (.int .i64 s.size)))
    | _ => False)
  | .slice _ _ _ => (match x with
    | .val (.slice _ n _) => K (one (.val (.int .i64 n)))
    | .sli _ _ n _ => K (one (.val (.int .i64 n)))
    | _ => False)
  | _ => False
def optB : Option (Nat × Nat × Option Bool) → Option (Nat × Nat)
  | some q => some (q.1, q.2.1)
  | none => none
def opQ (tt : List (Nat × TI)) (σ : St) (o : Op) (K : Out → Prop) : Prop := match o with
  | .move x => evK σ x fun s => K (one s)
  | .assign x => evK σ x fun s => K (one s)
  | .alloc e => tiK tt e fun ti => bif nonB ti.zero then K ⟨.ptr σ.bs.length 0, some (e, ti.zero.map SV.val), none⟩ else False
  | .box e x => evK σ x fun s => K ⟨.ptr σ.bs.length 0, some (e, s.cells), none⟩
  | .build t ps => evP σ ps.toList fun ps => tiK tt t fun ti => bif nonB ti.zero then (match ti.k with
    | .struct fs => bif fs.all (fun q => nonz q.2.1) then optK (fillS (fun i => optB (nthL fs i)) (ti.zero.map SV.val) ps) fun l => K (one (.agg l)) else False
    | .array _ _ sz _ => bif nonz sz then optK (fillS (fun i => some (i * sz, sz)) (ti.zero.map SV.val) ps) fun l => K (one (.agg l)) else False
    | _ => False) else False
  | .buildSlice t n ps => evP σ ps.toList fun ps => tiK tt t fun ti => match ti.k with
    | .slice e sz _ => tiK tt e fun te => bif nonB te.zero && Nat.beq te.size sz && Nat.beq te.zero.length sz && nonz (n * sz) && Nat.ble (n * sz) 16777216 then
        optK (fillS (fun i => some (i * sz, sz)) ((rep te.zero n).map SV.val) ps) fun l => K ⟨.sli σ.bs.length 0 n n, some (e, l), none⟩ else False
    | _ => False
  | .load t x => evK σ x fun s => match s with
    | .ptr b o => optK (nth σ.bs b) fun p => tiK tt t fun ti => match ti.k.agg with
      | true => bif Nat.ble (o + ti.size) p.2.length then K (one (.agg ((p.2.drop o).take ti.size))) else False
      | false => optK (nthL p.2 o) fun c => K (one c)
    | _ => False
  | .nilCheck x => evK σ x fun s => match s with
    | .ptr _ _ => K (one s)
    | .clo (.func _) _ _ => K (one s)
    | .val (.pointer (some p)) => K (one (.val (.pointer (some p))))
    | _ => False
  | .fieldAddr t x f => evK σ x fun s => match s with
    | .ptr b o => tiK tt t fun ti => match ti.k with
      | .struct fs => optK (nthL fs f) fun q => bif nonz q.2.1 then K (one (.ptr b (o + q.1))) else False
      | _ => False
    | _ => False
  | .field t x f => evK σ x fun s => listK s fun l => tiK tt t fun ti => match ti.k with
    | .struct fs => optK (nthL fs f) fun q => partS l q.1 q.2.1 q.2.2 K
    | _ => False
  | .extract x i => evK σ x fun s => tupK s fun l => optK (nthL l i) fun c => K (one c)
  | .makeFunc fn l m => evL σ l.toList fun l => evL σ m.toList fun m => K (one (.clo fn l m))
  | .indexAddr t x i => evK σ x fun s => evK σ i fun j => natK j fun m => match s with
    | .ptr b o => tiK tt t fun ti => match ti.k with
      | .array n _ sz _ => bif nonz sz && Nat.blt m n then K (one (.ptr b (o + m * sz))) else False
      | _ => False
    | .sli b o n _ => tiK tt t fun ti => match ti.k with
      | .slice _ sz _ => bif nonz sz && Nat.blt m n then K (one (.ptr b (o + m * sz))) else False
      | _ => False
    | _ => False
  | .index t x i => evK σ x fun s => evK σ i fun j => natK j fun m => listK s fun l => tiK tt t fun ti => match ti.k with
    | .array n _ sz ag => bif nonz sz && Nat.blt m n then partS l (m * sz) sz ag K else False
    | _ => False
  | .slice t x lo hi none => evK σ x fun s => lowK σ lo fun l => match s with
    | .ptr b o => arrS tt t fun n sz => highK σ hi n fun h => sliS b o n n l h sz K
    | .sli b o n c => tiK tt t fun ti => match ti.k with
      | .slice _ sz _ => highK σ hi n fun h => sliS b o n c l h sz K
      | _ => False
    | _ => False
  | .binOp op t x y _ => evK σ x fun s => evK σ y fun u => binS tt op t s u K
  | .unOp op _ x => evK σ x fun s => unS op s K
  | .convert s d x => evK σ x fun u => tiK tt s fun _ => tiK tt d fun ti => match ti.k with
    | .int k => (match u with
      | .val (.int _ n) => K (one (.val (.int k (k.wrap n))))
      | _ => False)
    | _ => False
  | .pick c x y => evK σ c fun s => match s with
    | .val (.bool v) => (match v with
      | true => evK σ x fun s => K (one s)
      | false => evK σ y fun s => K (one s))
    | _ => False
  | .call c => match c.callee with
    | .builtin .len => match c.args.toList, c.argTypes.toList with
      | [x], [t] => evK σ x fun s => lenS tt t s K
      | _, _ => False
    | _ => False
  | _ => False

section
variable {P : Program} {tt : List (Nat × TI)} {w0 : World} {σ : St} {K : Out → Prop}
theorem lt_of (hK : ∀ out, K out → σ.fits out = true) {s : SV} (h : K (one s)) : σ.lt s = true := (Bool.and_eq_true_iff.1 (hK _ h)).1
theorem run_v {x : Sem Value} {v : Value} {w w' : World} (h : x.run P w = .ok v w') : (do pure (.value (← x)) : Sem Next).run P w = .ok (.value v) w' := by
  simp [h]
theorem q_one (hK : ∀ out, K out → σ.fits out = true) {o : Oper} (s : SV) (h : K (one s)) (hr : ∀ r a w, See w0 σ r a w → (execOp a.eval o).run P w = .ok (.value (s.den r)) w) : QOk P w0 o σ K :=
  q_val s h (lt_of hK h) hr
theorem partS_ok (hK : ∀ out, K out → σ.fits out = true) {o : Oper} {l : List SV} {off sz : Nat} {ag : Option Bool} (h : partS l off sz ag K)
    (h1 : ag = some true → sz ≠ 0 → ∀ r a w, See w0 σ r a w → (execOp a.eval o).run P w = .ok (.value (.agg (((denL r l).drop off).take sz).toArray)) w)
    (h2 : ag = some false → ∀ r a w v, See w0 σ r a w → (denL r l)[off]? = some v → (execOp a.eval o).run P w = .ok (.value v) w) : QOk P w0 o σ K := by
  unfold partS at h
  split at h
  · obtain ⟨hz, h⟩ := bif_spec h
    refine q_one hK _ h fun r a w hw => ?_
    simp only [SV.den, cut_den]
    exact h1 rfl (nonz_ne hz) r a w hw
  · obtain ⟨c, hc, h⟩ := optK_spec h
    exact q_one hK _ h fun r a w hw => h2 rfl r a w _ hw (nthL_den hc)
  · exact h.elim
theorem listK_spec {s : SV} {K : List SV → Prop} (h : listK s K) : ∃ l, K l ∧ ∀ r, s.den r = .agg (denL r l).toArray := by
  unfold listK at h
  split at h
  · exact ⟨_, h, fun r => rfl⟩
  · exact ⟨_, h, fun r => by simp [SV.den, denL_v]⟩
  · exact h.elim
theorem tupK_spec {s : SV} {K : List SV → Prop} (h : tupK s K) : ∃ l, K l ∧ ∀ r, s.den r = .tuple (denL r l).toArray := by
  unfold tupK at h
  split at h
  · exact ⟨_, h, fun r => rfl⟩
  · exact ⟨_, h, fun r => by simp [SV.den, denL_v]⟩
  · exact h.elim
theorem natK_spec {s : SV} {K : Nat → Prop} (h : natK s K) : ∃ k m, s = .val (.int k (.ofNat m)) ∧ K m := by
  unfold natK at h
  split at h
  · exact ⟨_, _, rfl, h⟩
  · exact h.elim
theorem lowK_spec {x : Option Operand} {K : Nat → Prop} (h : lowK σ x K) : ∃ m, K m ∧ ∀ r a w, See w0 σ r a w → lowIs (x.map a.eval) m := by
  unfold lowK at h
  split at h
  · exact ⟨0, h, fun _ _ _ _ => .inl ⟨rfl, rfl⟩⟩
  · obtain ⟨s, h1, h2⟩ := evK_spec h
    obtain ⟨k, m, rfl, h3⟩ := natK_spec h2
    exact ⟨m, h3, fun r a w hw => .inr ⟨k, by rw [Option.map_some, (evS_den hw h1).1]; rfl⟩⟩
theorem highK_spec {x : Option Operand} {n : Nat} {K : Nat → Prop} (h : highK σ x n K) : ∃ m, K m ∧ ∀ r a w, See w0 σ r a w → highIs (x.map a.eval) n m := by
  unfold highK at h
  split at h
  · exact ⟨n, h, fun _ _ _ _ => .inl ⟨rfl, rfl⟩⟩
  · obtain ⟨s, h1, h2⟩ := evK_spec h
    obtain ⟨k, m, rfl, h3⟩ := natK_spec h2
    exact ⟨m, h3, fun r a w hw => .inr ⟨k, by rw [Option.map_some, (evS_den hw h1).1]; rfl⟩⟩
theorem sliS_ok (hK : ∀ out, K out → σ.fits out = true) {o : Oper} {b p n c l h sz : Nat} (hs : sliS b p n c l h sz K)
    (hr : sz ≠ 0 → l ≤ h → h ≤ c → ∀ r a w, See w0 σ r a w → (execOp a.eval o).run P w = .ok (.value (.slice (some ⟨r.b b, if c = l then p else p + l * sz, none⟩) (h - l) (c - l))) w) : QOk P w0 o σ K := by
  obtain ⟨hc, hs⟩ := bif_spec hs
  obtain ⟨hc, h3⟩ := Bool.and_eq_true_iff.1 hc
  obtain ⟨h1, h2⟩ := Bool.and_eq_true_iff.1 hc
  refine q_one hK _ hs fun r a w hw => ?_
  rw [hr (nonz_ne h1) (Nat.le_of_ble_eq_true h2) (Nat.le_of_ble_eq_true h3) r a w hw]
  simp only [SV.den]
  congr 5
  by_cases e : c = l
  · rw [if_pos e, show Nat.beq c l = true from by subst e; exact Nat.beq_refl c]; rfl
  · rw [if_neg e]
    cases e2 : Nat.beq c l with
    | true => exact absurd (Nat.eq_of_beq_eq_true e2) e
    | false => rfl
theorem arrS_spec (hT : TTOk P tt) {t : TypeId} {K : Nat → Nat → Prop} (h : arrS tt t K) : ∃ n sz, K n sz ∧ (sz ≠ 0 → ∀ (w : World) g o lo hi l h, lowIs lo l → highIs hi n h → l ≤ h → h ≤ n →
    (Instr.sliceAt t (.pointer (some ⟨g, o, none⟩)) lo hi none).run P w = .ok (.slice (some ⟨g, if n = l then o else o + l * sz, none⟩) (h - l) (n - l)) w) := by
  obtain ⟨ti, h1, h⟩ := tiK_spec hT h
  split at h
  · rename_i hk
    exact ⟨_, _, h, fun hz w g o lo hi l h' hl hh a b => slice_arr h1 hk hz hl hh a b⟩
  · rename_i hk
    obtain ⟨te, h2, h⟩ := tiK_spec hT h
    split at h
    · rename_i hk2
      exact ⟨_, _, h, fun hz w g o lo hi l h' hl hh a b => slice_ptr h1 hk h2 hk2 hz hl hh a b⟩
    · exact h.elim
  · exact h.elim
theorem rep_at (z : List Value) (hz : z ≠ []) : ∀ (n i : Nat), i < n * z.length → (rep z n)[i]? = z[i % z.length]?
  | 0, i, h => by simp at h
  | n + 1, i, h => by
    have hl : 0 < z.length := List.length_pos_iff.2 hz
    rw [Nat.succ_mul] at h
    show (z ++ rep z n)[i]? = _
    rcases Nat.lt_or_ge i z.length with h1 | h1
    · rw [List.getElem?_append_left h1, Nat.mod_eq_of_lt h1]
    · rw [List.getElem?_append_right h1, rep_at z hz n (i - z.length) (by omega), ← Nat.mod_eq_sub_mod h1]
theorem rep_len (z : List Value) : ∀ n, (rep z n).length = n * z.length
  | 0 => by simp [rep]
  | n + 1 => by simp [rep, rep_len z n, Nat.succ_mul]; omega
theorem rep_cells (z : Array Value) (hz : z.toList ≠ []) (n : Nat) : (Array.range (n * z.size)).map (fun i => z[i % z.size]!) = (rep z.toList n).toArray := by
  apply Array.ext'
  apply List.ext_getElem?
  intro i
  have hl : 0 < z.size := by rw [← Array.length_toList]; exact List.length_pos_iff.2 hz
  by_cases hi : i < n * z.size
  · have h1 := rep_at z.toList hz n i (by simpa using hi)
    have hm : i % z.size < z.size := Nat.mod_lt _ hl
    rw [h1]
    simp [hi, hm]
  · rw [List.getElem?_eq_none (by simp; omega), List.getElem?_eq_none (by rw [rep_len]; simp; omega)]
end
end Go.Proofs.YtchfglbkiebfpaaGreatDoor

namespace Go.Proofs.YtchfglbkiebfpaaGreatDoor
open Go Go.RowKit

section
variable {P : Program} {tt : List (Nat × TI)} {w0 : World} {σ : St} {K : Out → Prop}
theorem mapM_run {α β : Type} {g : α → Sem β} {f : α → β} {w : World} : ∀ {l : List α}, (∀ x, x ∈ l → (g x).run P w = .ok (f x) w) → (l.mapM g).run P w = .ok (l.map f) w
  | [], _ => rfl
  | x :: l, h => by
    rw [List.mapM_cons, Sem.run_bind, h x (by simp), Result.andThen_ok, Sem.run_bind, mapM_run (l := l) fun y hy => h y (by simp [hy])]
    rfl
theorem places_run {fd : Array Field} (h : ∀ f, f ∈ fd.toList → szT P f.type ≠ 0) (w : World) : (fd.mapM fun (f : Field) => (do pure (f.offset, ← sizeOf f.type) : Sem (Nat × Nat))).run P w = .ok (fd.map fun f => (f.offset, szT P f.type)) w := by
  rw [Array.mapM_eq_mapM_toList, Sem.run_map, mapM_run (f := fun f => (f.offset, szT P f.type)) fun f hf => by simp [sz_run rfl (h f hf)]]
  rw [Result.andThen_ok]
  congr 1
  apply Array.ext'
  simp
theorem build_struct (_hT : TTOk P tt) {t : TypeId} {ti : TI} {fs : List (Nat × Nat × Option Bool)} (hi : tiOf P t = some ti) (hz : ti.zero ≠ []) (hk : ti.k = .struct fs) (hf : (fs.all fun q => nonz q.2.1) = true) {w : World} {ps : Array (Nat × Value)} {l : List Value}
    (h : Instr.fill (fun i => optB (nthL fs i)) ti.zero.toArray ps.toList = some l.toArray) : (Instr.build t ps).run P w = .ok (.agg l.toArray) w := by
  obtain ⟨fd, h1, rfl⟩ := ti_struct hi hk
  obtain ⟨z, h2, h3⟩ := ti_zero hi hz w
  have h4 : z.cells = ti.zero.toArray := by rw [← h3]
  have hall : ∀ f, f ∈ fd.toList → szT P f.type ≠ 0 := fun f hf2 => by
    have := List.all_eq_true.1 hf (f.offset, szT P f.type, agT P f.type) (List.mem_map.2 ⟨f, hf2, rfl⟩)
    exact nonz_ne this
  have hp : (fun i => ((fd.map fun f => (f.offset, szT P f.type))[i]? : Option (Nat × Nat))) = fun i => optB (nthL (fd.toList.map fun f => (f.offset, szT P f.type, agT P f.type)) i) := by
    funext i
    rw [nthL_eq, List.getElem?_map, Array.getElem?_map]
    simp only [Array.getElem?_toList]
    cases fd[i]? <;> rfl
  unfold Instr.build
  rw [Sem.run_bind, h2, Result.andThen_ok, Sem.run_bind, und_run h1, Result.andThen_ok]
  simp only [Sem.run_bind, places_run hall, Result.andThen_ok, h4]
  rw [hp, h]
  rfl
theorem build_array (_hT : TTOk P tt) {t : TypeId} {ti : TI} {n e sz : Nat} {ag : Option Bool} (hi : tiOf P t = some ti) (hz : ti.zero ≠ []) (hk : ti.k = .array n e sz ag) (hs : sz ≠ 0) {w : World} {ps : Array (Nat × Value)} {l : List Value}
    (h : Instr.fill (fun i => some (i * sz, sz)) ti.zero.toArray ps.toList = some l.toArray) : (Instr.build t ps).run P w = .ok (.agg l.toArray) w := by
  obtain ⟨h1, h5, _⟩ := ti_array hi hk
  obtain ⟨z, h2, h3⟩ := ti_zero hi hz w
  have h4 : z.cells = ti.zero.toArray := by rw [← h3]
  unfold Instr.build
  rw [Sem.run_bind, h2, Result.andThen_ok, Sem.run_bind, und_run h1, Result.andThen_ok]
  simp only [Sem.run_bind, sz_run h5 hs, Result.andThen_ok, h4, h]
  rfl
theorem build_slice {t : TypeId} {ti te : TI} {e sz n : Nat} {ag : Option Bool} (hi : tiOf P t = some ti) (hk : ti.k = .slice e sz ag) (he : tiOf P e = some te) (hz : te.zero ≠ []) (hs : te.size = sz) (hl : te.zero.length = sz) (hn : n * sz ≠ 0) (hb : n * sz ≤ 16777216) {w : World} {ps : Array (Nat × Value)} {l : List Value}
    (h : Instr.fill (fun i => some (i * sz, sz)) (rep te.zero n).toArray ps.toList = some l.toArray) : (Instr.buildSlice t n ps).run P w = .ok (.slice (some ⟨w.heap.size, 0, none⟩) n n) (w.alloc (.cells l.toArray e)) := by
  obtain ⟨h1, _, _⟩ := ti_slice hi hk
  obtain ⟨z, h2, h3⟩ := ti_zero he hz w
  have h4 : z.cells = te.zero.toArray := by rw [← h3]
  have h5 := rep_cells z.cells (by rw [h3]; exact hz) n
  have h6 : z.cells.size = sz := by rw [h4]; simpa using hl
  rw [h3, h6] at h5
  have h7 : ¬ n * sz > 2 ^ 24 := by simpa using hb
  unfold Instr.buildSlice
  rw [Sem.run_bind, und_run h1, Result.andThen_ok]
  simp only [Sem.run_bind, ti_size he, hs, Result.andThen_ok, if_neg h7, if_neg hn, Sem.run_pure, h2, h6, h5, h]
  simp [newRow]
theorem intS_ok (hK : ∀ out, K out → σ.fits out = true) {o : Oper} {op : BinOp} {t u : TypeId} {x y : Operand} {k : IntKind} {a b : Int} (ho : o.op = .binOp op t x y u) (h : intS op k a b K)
    (hx : ∀ r A w, See w0 σ r A w → A.eval x = .int k a) (hy : ∀ r A w, See w0 σ r A w → A.eval y = .int k b) : QOk P w0 o σ K := by
  have key : ∀ s, K (one s) → (∀ r w, (binOp op t (.int k a) (.int k b)).run P w = .ok (s.den r) w) → QOk P w0 o σ K := fun s h1 h2 => q_one hK s h1 fun r A w hw => by
    have h3 : execOp A.eval o = (do pure (.value (← (do eqGuard op t x y (A.eval x) (A.eval y); binOp op t (A.eval x) (A.eval y)))) : Sem Next) := by
      unfold execOp; rw [ho]
    rw [h3]
    refine run_v ?_
    rw [hx r A w hw, hy r A w hw]
    have h4 : (eqGuard op t x y (.int k a) (.int k b)).run P w = .ok () w := by
      unfold eqGuard
      cases op <;> rfl
    simp [h4, h2 r w]
  unfold intS at h
  split at h
  · exact key _ h fun r w => by simp [binOp, Op.intArith, SV.den]
  · exact key _ h fun r w => by simp [binOp, Op.intArith, SV.den]
  · exact key _ h fun r w => by simp [binOp, Op.intArith, SV.den]
  · exact key _ h fun r w => by simp [binOp, Op.intCmp, SV.den]
  · exact key _ h fun r w => by simp [binOp, Op.intCmp, SV.den]
  · exact key _ h fun r w => by simp [binOp, Op.intCmp, SV.den]
  · exact key _ h fun r w => by simp [binOp, Op.intCmp, SV.den]
  · exact key _ h fun r w => by simp [binOp, Op.intCmp, SV.den]
  · exact key _ h fun r w => by simp [binOp, Op.intCmp, SV.den]
  · exact h.elim
theorem nil_run {op : BinOp} {t : TypeId} {x y : Operand} {v u : Value} {b : Bool} {w : World} (hop : op = .eql ∧ b = false ∨ op = .neq ∧ b = true) (hv : (∃ p e, v = .pointer (some p) ∧ u = .pointer none ∧ P.underlying t = some (.pointer e)) ∨ ∃ p n c n' c' e, v = .slice (some p) n c ∧ u = .slice none n' c' ∧ P.underlying t = some (.slice e)) :
    (do eqGuard op t x y v u; binOp op t v u : Sem Value).run P w = .ok (.bool b) w := by
  have h1 : (eqGuard op t x y v u).run P w = .ok () w := by
    unfold eqGuard
    rcases hop with ⟨rfl, _⟩ | ⟨rfl, _⟩ <;> rcases hv with ⟨p, e, rfl, rfl, _⟩ | ⟨p, n, c, n', c', e, rfl, rfl, _⟩ <;> rfl
  rw [Sem.run_bind, h1, Result.andThen_ok]
  have h2 : (Op.equal t v u).run P w = .ok false w := by
    unfold Op.equal
    rw [show Op.maxDepth = 9999 + 1 from rfl]
    unfold Op.equalIn
    rcases hv with ⟨p, e, rfl, rfl, h⟩ | ⟨p, n, c, n', c', e, rfl, rfl, h⟩ <;> (rw [Sem.run_bind, und_run h, Result.andThen_ok]; rfl)
  rcases hop with ⟨rfl, rfl⟩ | ⟨rfl, rfl⟩
  · have h3 : binOp .eql t v u = (do pure (.bool (← Op.equal t v u)) : Sem Value) := by rcases hv with ⟨p, e, rfl, rfl, h⟩ | ⟨p, n, c, n', c', e, rfl, rfl, h⟩ <;> rfl
    simp [h3, h2]
  · have h3 : binOp .neq t v u = (do pure (.bool (!(← Op.equal t v u))) : Sem Value) := by rcases hv with ⟨p, e, rfl, rfl, h⟩ | ⟨p, n, c, n', c', e, rfl, rfl, h⟩ <;> rfl
    simp [h3, h2]
theorem nilS_ok (hK : ∀ out, K out → σ.fits out = true) {o : Oper} {op : BinOp} {t u : TypeId} {x y : Operand} (ho : o.op = .binOp op t x y u) (h : nilS op K)
    (hv : ∀ r A w, See w0 σ r A w → (∃ p e, A.eval x = .pointer (some p) ∧ A.eval y = .pointer none ∧ P.underlying t = some (.pointer e)) ∨ ∃ p n c n' c' e, A.eval x = .slice (some p) n c ∧ A.eval y = .slice none n' c' ∧ P.underlying t = some (.slice e)) : QOk P w0 o σ K := by
  have h3 : ∀ A : Act, execOp A.eval o = (do pure (.value (← (do eqGuard op t x y (A.eval x) (A.eval y); binOp op t (A.eval x) (A.eval y)))) : Sem Next) := fun A => by
    unfold execOp; rw [ho]
  unfold nilS at h
  split at h
  · exact q_one hK _ h fun r A w hw => by rw [h3]; exact run_v (nil_run (.inl ⟨rfl, rfl⟩) (hv r A w hw))
  · exact q_one hK _ h fun r A w hw => by rw [h3]; exact run_v (nil_run (.inr ⟨rfl, rfl⟩) (hv r A w hw))
  · exact h.elim
end
end Go.Proofs.YtchfglbkiebfpaaGreatDoor

namespace Go.Proofs.YtchfglbkiebfpaaGreatDoor
open Go Go.RowKit

section
variable {P : Program} {tt : List (Nat × TI)} {w0 : World} {σ : St} {K : Out → Prop}
theorem arr_map {α β : Type} (f : α → β) (x : Array α) (l : List β) (h : x.toList.map f = l) : x.map f = l.toArray := by
  apply Array.ext'; simpa using h
theorem binS_ok (hT : TTOk P tt) (hK : ∀ out, K out → σ.fits out = true) {o : Oper} {op : BinOp} {t u : TypeId} {x y : Operand} (ho : o.op = .binOp op t x y u) {s s' : SV} (hx : evS σ x = some s) (hy : evS σ y = some s') (h : binS tt op t s s' K) : QOk P w0 o σ K := by
  have ex := fun r A w (hw : See w0 σ r A w) => (evS_den hw hx).1
  have ey := fun r A w (hw : See w0 σ r A w) => (evS_den hw hy).1
  unfold binS at h
  split at h
  · obtain ⟨hk, h'⟩ := bif_spec h
    clear h
    obtain rfl := kindB_eq hk
    exact intS_ok hK ho h' (fun r A w hw => ex r A w hw) (fun r A w hw => ey r A w hw)
  · obtain ⟨ti, h1, h⟩ := tiK_spec hT h
    split at h
    · rename_i hk
      exact nilS_ok hK ho h fun r A w hw => .inl ⟨_, _, ex r A w hw, ey r A w hw, ti_ptr h1 hk⟩
    · exact h.elim
  · obtain ⟨ti, h1, h⟩ := tiK_spec hT h
    split at h
    · rename_i hk
      exact nilS_ok hK ho h fun r A w hw => .inr ⟨_, _, _, _, _, _, ex r A w hw, ey r A w hw, (ti_slice h1 hk).1⟩
    · exact h.elim
  · exact h.elim
theorem lenS_ok (hT : TTOk P tt) (hK : ∀ out, K out → σ.fits out = true) {o : Oper} {_ty : TypeId} {x : Operand} {t : TypeId} {c : Call} (ho : o.op = .call c) (hc : c.callee = .builtin .len) (ha : c.args = #[x]) (ht : c.argTypes = #[t]) {s : SV} (hx : evS σ x = some s) (h : lenS tt t s K) : QOk P w0 o σ K := by
  have key : ∀ n : Int, K (one (.val (.int .i64 n))) → (∀ r A w, See w0 σ r A w → (Builtin.len_ #[t] o.type #[A.eval x]).run P w = .ok (.int .i64 n) w) → QOk P w0 o σ K := fun n h1 h2 => q_one hK _ h1 fun r A w hw => by
    have h3 := h2 r A w hw
    unfold execOp
    rw [ho]
    simp [resolve, hc, ha, ht, invoke, builtin, h3, SV.den]
  obtain ⟨ti, h1, h⟩ := tiK_spec hT h
  split at h
  · rename_i hk
    split at h
    · exact key _ h fun r A w hw => by rw [(evS_den hw hx).1]; simp [Builtin.len_, und_run (ti_str h1 hk), SV.den, goInt]
    · exact h.elim
  · rename_i hk
    split at h
    · exact key _ h fun r A w hw => by rw [(evS_den hw hx).1]; simp [Builtin.len_, und_run (ti_slice h1 hk).1, SV.den, goInt]
    · exact key _ h fun r A w hw => by rw [(evS_den hw hx).1]; simp [Builtin.len_, und_run (ti_slice h1 hk).1, SV.den, goInt]
    · exact h.elim
  · exact h.elim
theorem opQ_ok (hT : TTOk P tt) (hK : ∀ out, K out → σ.fits out = true) {o : Oper} (h : opQ tt σ o.op K) : QOk P w0 o σ K := by
  have ex : ∀ {op : Op}, o.op = op → ∀ ev, execOp ev o = execOp ev { o with op := op } := fun e ev => by rw [← e]
  cases e : o.op <;> rw [e] at h
  case move x =>
    obtain ⟨s, h1, h⟩ := evK_spec h
    exact q_one hK _ h fun r A w hw => by rw [ex e, ← (evS_den hw h1).1]; rfl
  case assign x =>
    obtain ⟨s, h1, h⟩ := evK_spec h
    exact q_one hK _ h fun r A w hw => by rw [ex e, ← (evS_den hw h1).1]; rfl
  case alloc t =>
    obtain ⟨ti, h1, h⟩ := tiK_spec hT h
    obtain ⟨hz, h⟩ := bif_spec h
    refine q_box _ _ _ h (okL_v _ _ _) fun r A w hw => ?_
    rw [ex e, denL_v]
    have h2 := run_v (alloc_run (w := w) h1 (nonB_ne hz))
    refine h2.trans ?_
    simp only [SV.den, Env.add', Env.add, upd_at]
  case box t x =>
    obtain ⟨s, h1, h⟩ := evK_spec h
    refine q_box _ _ _ h (Bool.and_eq_true_iff.1 (hK _ h)).2 fun r A w hw => ?_
    rw [ex e, cells_den hw (evS_den hw h1).2]
    refine (run_v (box_run _)).trans ?_
    rw [(evS_den hw h1).1]
    simp only [SV.den, Env.add', Env.add, upd_at]
  case nilCheck x =>
    obtain ⟨s, h1, h⟩ := evK_spec h
    split at h
    · exact q_one hK _ h fun r A w hw => by
        have h2 := (evS_den hw h1).1
        rw [ex e]; unfold execOp; simp only [h2, SV.den]; rfl
    · exact q_one hK _ h fun r A w hw => by
        have h2 := (evS_den hw h1).1
        rw [ex e]; unfold execOp; simp only [h2, SV.den]; rfl
    · exact q_one hK _ h fun r A w hw => by
        have h2 := (evS_den hw h1).1
        rw [ex e]; unfold execOp; simp only [h2, SV.den]; rfl
    · exact h.elim
  case extract x i =>
    obtain ⟨s, h1, h⟩ := evK_spec h
    obtain ⟨l, h, hl⟩ := tupK_spec h
    obtain ⟨c, hc, h⟩ := optK_spec h
    refine q_one hK _ h fun r A w hw => ?_
    rw [ex e]
    refine run_v ?_
    rw [(evS_den hw h1).1, hl]
    simp [Instr.extract, nthL_den hc]
  case makeFunc fn l m =>
    obtain ⟨l', h, h1⟩ := evL_spec (w0 := w0) h
    obtain ⟨m', h, h2⟩ := evL_spec (w0 := w0) h
    refine q_one hK _ h fun r A w hw => ?_
    rw [ex e]
    refine run_v ?_
    rw [arr_map _ _ _ (h1 r A w hw).1, arr_map _ _ _ (h2 r A w hw).1]
    rfl
  case load t x =>
    obtain ⟨s, h1, h⟩ := evK_spec h
    split at h
    · obtain ⟨p, h2, h⟩ := optK_spec h
      obtain ⟨ti, h3, h⟩ := tiK_spec hT h
      split at h
      · rename_i ha
        obtain ⟨hb, h⟩ := bif_spec h
        refine q_one hK _ h fun r A w hw => ?_
        rw [ex e]
        refine run_v ?_
        rw [(evS_den hw h1).1]
        simp only [SV.den, cut_den]
        exact load_agg h3 ha (hw.bs _ p.1 p.2 h2).1 (by rw [denL_len]; exact Nat.le_of_ble_eq_true hb)
      · rename_i ha
        obtain ⟨c, hc, h⟩ := optK_spec h
        refine q_one hK _ h fun r A w hw => ?_
        rw [ex e]
        refine run_v ?_
        rw [(evS_den hw h1).1]
        exact load_one h3 ha (hw.bs _ p.1 p.2 h2).1 (nthL_den hc)
    · exact h.elim
  case fieldAddr t x f =>
    obtain ⟨s, h1, h⟩ := evK_spec h
    split at h
    · obtain ⟨ti, h3, h⟩ := tiK_spec hT h
      split at h
      · rename_i hk
        obtain ⟨q, h4, h⟩ := optK_spec h
        obtain ⟨hz, h⟩ := bif_spec h
        refine q_one hK _ h fun r A w hw => ?_
        rw [ex e]
        refine run_v ?_
        rw [(evS_den hw h1).1]
        exact field_at h3 hk h4 (nonz_ne hz)
      · exact h.elim
    · exact h.elim
  case field t x f =>
    obtain ⟨s, h1, h⟩ := evK_spec h
    obtain ⟨l, h, hl⟩ := listK_spec h
    obtain ⟨ti, h3, h⟩ := tiK_spec hT h
    split at h
    · rename_i hk
      obtain ⟨q, h4, h⟩ := optK_spec h
      obtain ⟨off, sz, ag⟩ := q
      refine partS_ok hK h (fun ha hz r A w hw => ?_) (fun ha r A w v hw hv => ?_)
      · simp only at ha; subst ha
        rw [ex e]
        refine run_v ?_
        rw [(evS_den hw h1).1, hl]
        exact field_agg h3 hk h4 hz
      · simp only at ha; subst ha
        rw [ex e]
        refine run_v ?_
        rw [(evS_den hw h1).1, hl]
        exact field_one h3 hk h4 hv
    · exact h.elim
  case index t x i =>
    obtain ⟨s, h1, h⟩ := evK_spec h
    obtain ⟨j, h2, h⟩ := evK_spec h
    obtain ⟨k, m, rfl, h⟩ := natK_spec h
    obtain ⟨l, h, hl⟩ := listK_spec h
    obtain ⟨ti, h3, h⟩ := tiK_spec hT h
    split at h
    · rename_i hk
      obtain ⟨hb, h⟩ := bif_spec h
      obtain ⟨hz, hm⟩ := Bool.and_eq_true_iff.1 hb
      refine partS_ok hK h (fun ha hz' r A w hw => ?_) (fun ha r A w v hw hv => ?_)
      · subst ha
        rw [ex e]
        refine run_v ?_
        rw [(evS_den hw h1).1, (evS_den hw h2).1, hl]
        exact index_agg h3 hk (blt_lt hm) hz'
      · subst ha
        rw [ex e]
        refine run_v ?_
        rw [(evS_den hw h1).1, (evS_den hw h2).1, hl]
        exact index_one h3 hk (blt_lt hm) (nonz_ne hz) hv
    · exact h.elim
  case indexAddr t x i =>
    obtain ⟨s, h1, h⟩ := evK_spec h
    obtain ⟨j, h2, h⟩ := evK_spec h
    obtain ⟨k, m, rfl, h⟩ := natK_spec h
    split at h
    · obtain ⟨ti, h3, h⟩ := tiK_spec hT h
      split at h
      · rename_i hk
        obtain ⟨hb, h⟩ := bif_spec h
        obtain ⟨hz, hm⟩ := Bool.and_eq_true_iff.1 hb
        refine q_one hK _ h fun r A w hw => ?_
        rw [ex e]
        refine run_v ?_
        rw [(evS_den hw h1).1, (evS_den hw h2).1]
        exact index_arr h3 hk (blt_lt hm) (nonz_ne hz)
      · exact h.elim
    · obtain ⟨ti, h3, h⟩ := tiK_spec hT h
      split at h
      · rename_i hk
        obtain ⟨hb, h⟩ := bif_spec h
        obtain ⟨hz, hm⟩ := Bool.and_eq_true_iff.1 hb
        refine q_one hK _ h fun r A w hw => ?_
        rw [ex e]
        refine run_v ?_
        rw [(evS_den hw h1).1, (evS_den hw h2).1]
        exact index_sli h3 hk (blt_lt hm) (nonz_ne hz)
      · exact h.elim
    · exact h.elim
  case slice t x lo hi mx =>
    cases mx with
    | some _ => exact False.elim h
    | none =>
      obtain ⟨s, h1, h⟩ := evK_spec h
      obtain ⟨l, h, hl⟩ := lowK_spec (w0 := w0) h
      split at h
      · obtain ⟨n, sz, h, hrun⟩ := arrS_spec hT h
        obtain ⟨m, h, hm⟩ := highK_spec (w0 := w0) h
        refine sliS_ok hK h fun hz h2 h3 r A w hw => ?_
        rw [ex e]
        refine run_v ?_
        rw [(evS_den hw h1).1]
        exact hrun hz w _ _ _ _ _ _ (hl r A w hw) (hm r A w hw) h2 h3
      · obtain ⟨ti, h4, h⟩ := tiK_spec hT h
        split at h
        · rename_i hk
          obtain ⟨m, h, hm⟩ := highK_spec (w0 := w0) h
          refine sliS_ok hK h fun hz h2 h3 r A w hw => ?_
          rw [ex e]
          refine run_v ?_
          rw [(evS_den hw h1).1]
          exact slice_sli h4 hk hz (hl r A w hw) (hm r A w hw) h2 h3
        · exact h.elim
      · exact h.elim
  case binOp op t x y u =>
    obtain ⟨s, h1, h⟩ := evK_spec h
    obtain ⟨s', h2, h⟩ := evK_spec h
    exact binS_ok hT hK e h1 h2 h
  case unOp op t x =>
    obtain ⟨s, h1, h⟩ := evK_spec h
    unfold unS at h
    split at h
    · exact q_one hK _ h fun r A w hw => by
        rw [ex e]
        refine run_v ?_
        rw [(evS_den hw h1).1]
        rfl
    · exact q_one hK _ h fun r A w hw => by
        rw [ex e]
        refine run_v ?_
        rw [(evS_den hw h1).1]
        rfl
    · exact h.elim
  case convert a d x =>
    obtain ⟨s, h1, h⟩ := evK_spec h
    obtain ⟨ta, h2, h⟩ := tiK_spec hT h
    obtain ⟨td, h3, h⟩ := tiK_spec hT h
    split at h
    · rename_i hk
      split at h
      case h_2 => exact h.elim
      refine q_one hK _ h fun r A w hw => ?_
      obtain ⟨_, da, _, h5, _⟩ := ti_parts h2
      rw [ex e]
      refine run_v ?_
      rw [(evS_den hw h1).1]
      unfold Go.convert
      rw [Sem.run_bind, und_run h5, Result.andThen_ok, Sem.run_bind, und_run (ti_int h3 hk), Result.andThen_ok]
      cases da <;> rfl
    · exact h.elim
  case pick c x y =>
    obtain ⟨s, h1, h⟩ := evK_spec h
    split at h
    · split at h
      · obtain ⟨u, h2, h⟩ := evK_spec h
        refine q_one hK _ h fun r A w hw => ?_
        rw [ex e, ← (evS_den hw h2).1]
        have h3 := (evS_den hw h1).1
        unfold execOp
        simp only [h3, SV.den, asBool]
        rfl
      · obtain ⟨u, h2, h⟩ := evK_spec h
        refine q_one hK _ h fun r A w hw => ?_
        rw [ex e, ← (evS_den hw h2).1]
        have h3 := (evS_den hw h1).1
        unfold execOp
        simp only [h3, SV.den, asBool]
        rfl
    · exact h.elim
  case call c =>
    dsimp only [opQ] at h
    split at h
    · rename_i hc
      split at h
      · rename_i x t ha ht
        obtain ⟨s, h1, h⟩ := evK_spec h
        exact lenS_ok (_ty := 0) hT hK e hc (by apply Array.ext'; exact ha) (by apply Array.ext'; exact ht) h1 h
      · exact h.elim
    · exact h.elim
  case build t ps =>
    obtain ⟨ps', h, h1⟩ := evP_spec (w0 := w0) h
    obtain ⟨ti, h2, h⟩ := tiK_spec hT h
    obtain ⟨hz, h⟩ := bif_spec h
    split at h
    · rename_i hk
      obtain ⟨hf, h⟩ := bif_spec h
      obtain ⟨l, h4, h⟩ := optK_spec h
      refine q_one hK _ h fun r A w hw => ?_
      obtain ⟨h5, h6⟩ := h1 r A w hw
      have h7 := fill_den hw _ ps' _ l h6 (okL_v _ _ _) h4
      rw [denL_v] at h7
      rw [ex e]
      refine run_v (build_struct hT h2 (nonB_ne hz) hk hf ?_)
      rw [Array.toList_map, h5]
      exact h7
    · rename_i hk
      obtain ⟨hs, h⟩ := bif_spec h
      obtain ⟨l, h4, h⟩ := optK_spec h
      refine q_one hK _ h fun r A w hw => ?_
      obtain ⟨h5, h6⟩ := h1 r A w hw
      have h7 := fill_den hw _ ps' _ l h6 (okL_v _ _ _) h4
      rw [denL_v] at h7
      rw [ex e]
      refine run_v (build_array hT h2 (nonB_ne hz) hk (nonz_ne hs) ?_)
      rw [Array.toList_map, h5]
      exact h7
    · exact h.elim
  case buildSlice t n ps =>
    obtain ⟨ps', h, h1⟩ := evP_spec (w0 := w0) h
    obtain ⟨ti, h2, h⟩ := tiK_spec hT h
    split at h
    · rename_i hk
      obtain ⟨te, h3, h⟩ := tiK_spec hT h
      obtain ⟨hb, h⟩ := bif_spec h
      obtain ⟨hb, b5⟩ := Bool.and_eq_true_iff.1 hb
      obtain ⟨hb, b4⟩ := Bool.and_eq_true_iff.1 hb
      obtain ⟨hb, b3⟩ := Bool.and_eq_true_iff.1 hb
      obtain ⟨b1, b2⟩ := Bool.and_eq_true_iff.1 hb
      obtain ⟨l, h4, h⟩ := optK_spec h
      have hfit := (Bool.and_eq_true_iff.1 (hK _ h)).2
      refine q_box _ _ _ h hfit fun r A w hw => ?_
      obtain ⟨h5, h6⟩ := h1 r A w hw
      have h7 := fill_den hw _ ps' _ l h6 (okL_v _ _ _) h4
      rw [denL_v] at h7
      rw [ex e]
      refine (run_v (build_slice h2 hk h3 (nonB_ne b1) (Nat.eq_of_beq_eq_true b2) (Nat.eq_of_beq_eq_true b3) (nonz_ne b4) (Nat.le_of_ble_eq_true b5) (l := denL r l) ?_)).trans ?_
      · rw [Array.toList_map, h5]
        exact h7
      · simp only [SV.den, Env.add', Env.add, upd_at]
    · exact h.elim
  all_goals exact False.elim h
end
end Go.Proofs.YtchfglbkiebfpaaGreatDoor

namespace Go.Proofs.YtchfglbkiebfpaaGreatDoor
open Go Go.RowKit

def e0 : Env := ⟨fun _ => 0, fun _ => undef, fun _ _ => False⟩
def SV.plain (s : SV) : Bool := s.ok (fun _ => false) (fun _ => false)
theorem plain_den {s : SV} (h : s.plain = true) (r : Env) : s.den r = s.den e0 := den_congr (β := fun _ => false) (ξ := fun _ => false) (fun _ h => nomatch h) (fun _ h => nomatch h) s h
theorem plainL_den {l : List SV} (h : okL (fun _ => false) (fun _ => false) l = true) (r : Env) : denL r l = denL e0 l := denL_congr (β := fun _ => false) (ξ := fun _ => false) (fun _ h => nomatch h) (fun _ h => nomatch h) l h
def v1 (σ : St) (x : Operand) (K : Value → Prop) : Prop := evK σ x fun s => bif s.plain then K (s.den e0) else False
def vO (σ : St) (x : Option Operand) (K : Option Value → Prop) : Prop := match x with
  | none => K none
  | some x => v1 σ x fun v => K (some v)
def vL (σ : St) (l : List Operand) (K : List Value → Prop) : Prop := evL σ l fun m => bif okL (fun _ => false) (fun _ => false) m then K (denL e0 m) else False
/-- In every later world it yields R, and turns nothing. -/
def RunOk (P : Program) (w0 : World) (m : Sem Value) (R : Value) : Prop := ∀ W, Below w0.heap.size w0 W → m.run P W = .ok R W
def setS (P : Program) (w0 : World) (σ : St) (o : Oper) (R : Value) : Prop := match o.op with
  | .binOp op t x y _ => v1 σ x fun a => v1 σ y fun b => RunOk P w0 (do eqGuard op t x y a b; binOp op t a b) R
  | .unOp op _ x => v1 σ x fun a => RunOk P w0 (Op.unary op a) R
  | .convert s d x => v1 σ x fun a => RunOk P w0 (Go.convert s d a) R
  | .index t x i => v1 σ x fun a => v1 σ i fun b => RunOk P w0 (Instr.index t a b) R
  | .indexAddr t x i => v1 σ x fun a => v1 σ i fun b => RunOk P w0 (Instr.indexAt t a b) R
  | .load t x => v1 σ x fun a => RunOk P w0 (Instr.loadAt t a) R
  | .slice t x lo hi mx => v1 σ x fun a => vO σ lo fun b => vO σ hi fun c => vO σ mx fun d => RunOk P w0 (Instr.sliceAt t a b c d) R
  | .makeInterface t x => v1 σ x fun a => RunOk P w0 (Instr.makeInterface t a) R
  | .field t x f => v1 σ x fun a => RunOk P w0 (Instr.field t a f) R
  | .fieldAddr t x f => v1 σ x fun a => RunOk P w0 (Instr.fieldAt t a f) R
  | .nilCheck x => v1 σ x fun a => R = a ∧ (match a with | .pointer (some _) => True | .func (.func _) _ _ => True | .slice _ _ _ => True | _ => False)
  | .typeAssert x t u ok => v1 σ x fun a => RunOk P w0 (Instr.typeAssert a t u ok) R
  | .call c => match c.callee with
    | .builtin .min => vL σ c.args.toList fun l => RunOk P w0 (Builtin.min_ c.argTypes o.type l.toArray) R
    | .builtin .max => vL σ c.args.toList fun l => RunOk P w0 (Builtin.max_ c.argTypes o.type l.toArray) R
    | .builtin .cap => vL σ c.args.toList fun l => RunOk P w0 (Builtin.cap_ c.argTypes o.type l.toArray) R
    | .builtin .len => vL σ c.args.toList fun l => RunOk P w0 (Builtin.len_ c.argTypes o.type l.toArray) R
    | _ => False
  | _ => False
section
variable {P : Program} {w0 : World} {σ : St} {K : Out → Prop}
theorem v1_spec {x : Operand} {K : Value → Prop} (h : v1 σ x K) : ∃ v, K v ∧ ∀ r a w, See w0 σ r a w → a.eval x = v := by
  obtain ⟨s, h1, h⟩ := evK_spec h
  obtain ⟨h2, h⟩ := bif_spec h
  exact ⟨_, h, fun r a w hw => by rw [(evS_den hw h1).1, plain_den h2]⟩
theorem vO_spec {x : Option Operand} {K : Option Value → Prop} (h : vO σ x K) : ∃ v, K v ∧ ∀ r a w, See w0 σ r a w → x.map a.eval = v := by
  cases x with
  | none => exact ⟨none, h, fun _ _ _ _ => rfl⟩
  | some x =>
    obtain ⟨v, h1, h2⟩ := v1_spec (w0 := w0) (show v1 σ x (fun v => K (some v)) from h)
    exact ⟨_, h1, fun r a w hw => by rw [Option.map_some, h2 r a w hw]⟩
theorem vL_spec {l : List Operand} {K : List Value → Prop} (h : vL σ l K) : ∃ v, K v ∧ ∀ r a w, See w0 σ r a w → l.map a.eval = v := by
  obtain ⟨m, h, h1⟩ := evL_spec (w0 := w0) h
  obtain ⟨h2, h⟩ := bif_spec h
  exact ⟨_, h, fun r a w hw => by rw [(h1 r a w hw).1, plainL_den h2]⟩
theorem setS_ok {o : Oper} {R : Value} (h : setS P w0 σ o R) : ∀ r a w, See w0 σ r a w → (execOp a.eval o).run P w = .ok (.value R) w := by
  have ex : ∀ {op : Op}, o.op = op → ∀ ev, execOp ev o = execOp ev { o with op := op } := fun e ev => by rw [← e]
  unfold setS at h
  split at h
  case h_1 e =>
    obtain ⟨_, h, h1⟩ := v1_spec (w0 := w0) h
    obtain ⟨_, h, h2⟩ := v1_spec (w0 := w0) h
    intro r a w hw
    rw [ex e]; refine run_v ?_
    rw [h1 r a w hw, h2 r a w hw]; exact h w hw.low
  case h_2 e =>
    obtain ⟨_, h, h1⟩ := v1_spec (w0 := w0) h
    intro r a w hw
    rw [ex e]; refine run_v ?_
    rw [h1 r a w hw]; exact h w hw.low
  case h_3 e =>
    obtain ⟨_, h, h1⟩ := v1_spec (w0 := w0) h
    intro r a w hw
    rw [ex e]; refine run_v ?_
    rw [h1 r a w hw]; exact h w hw.low
  case h_4 e =>
    obtain ⟨_, h, h1⟩ := v1_spec (w0 := w0) h
    obtain ⟨_, h, h2⟩ := v1_spec (w0 := w0) h
    intro r a w hw
    rw [ex e]; refine run_v ?_
    rw [h1 r a w hw, h2 r a w hw]; exact h w hw.low
  case h_5 e =>
    obtain ⟨_, h, h1⟩ := v1_spec (w0 := w0) h
    obtain ⟨_, h, h2⟩ := v1_spec (w0 := w0) h
    intro r a w hw
    rw [ex e]; refine run_v ?_
    rw [h1 r a w hw, h2 r a w hw]; exact h w hw.low
  case h_6 e =>
    obtain ⟨_, h, h1⟩ := v1_spec (w0 := w0) h
    intro r a w hw
    rw [ex e]; refine run_v ?_
    rw [h1 r a w hw]; exact h w hw.low
  case h_7 e =>
    obtain ⟨_, h, h1⟩ := v1_spec (w0 := w0) h
    obtain ⟨_, h, h2⟩ := vO_spec (w0 := w0) h
    obtain ⟨_, h, h3⟩ := vO_spec (w0 := w0) h
    obtain ⟨_, h, h4⟩ := vO_spec (w0 := w0) h
    intro r a w hw
    rw [ex e]; refine run_v ?_
    rw [h1 r a w hw, h2 r a w hw, h3 r a w hw, h4 r a w hw]; exact h w hw.low
  case h_8 e =>
    obtain ⟨_, h, h1⟩ := v1_spec (w0 := w0) h
    intro r a w hw
    rw [ex e]; refine run_v ?_
    rw [h1 r a w hw]; exact h w hw.low
  case h_9 e =>
    obtain ⟨_, h, h1⟩ := v1_spec (w0 := w0) h
    intro r a w hw
    rw [ex e]; refine run_v ?_
    rw [h1 r a w hw]; exact h w hw.low
  case h_10 e =>
    obtain ⟨_, h, h1⟩ := v1_spec (w0 := w0) h
    intro r a w hw
    rw [ex e]; refine run_v ?_
    rw [h1 r a w hw]; exact h w hw.low
  case h_11 e =>
    obtain ⟨v, ⟨rfl, h⟩, h1⟩ := v1_spec (w0 := w0) h
    intro r a w hw
    rw [ex e]
    unfold execOp
    simp only [h1 r a w hw]
    split at h
    · rfl
    · rfl
    · rfl
    · exact h.elim
  case h_12 e =>
    obtain ⟨_, h, h1⟩ := v1_spec (w0 := w0) h
    intro r a w hw
    rw [ex e]; refine run_v ?_
    rw [h1 r a w hw]; exact h w hw.low
  case h_13 c e =>
    split at h
    case h_1 hc =>
      obtain ⟨l, h, h1⟩ := vL_spec (w0 := w0) h
      intro r a w hw
      rw [ex e]; unfold execOp
      simp [resolve, hc, invoke, builtin, arr_map _ _ _ (h1 r a w hw), h w hw.low]
    case h_2 hc =>
      obtain ⟨l, h, h1⟩ := vL_spec (w0 := w0) h
      intro r a w hw
      rw [ex e]; unfold execOp
      simp [resolve, hc, invoke, builtin, arr_map _ _ _ (h1 r a w hw), h w hw.low]
    case h_3 hc =>
      obtain ⟨l, h, h1⟩ := vL_spec (w0 := w0) h
      intro r a w hw
      rw [ex e]; unfold execOp
      simp [resolve, hc, invoke, builtin, arr_map _ _ _ (h1 r a w hw), h w hw.low]
    case h_4 hc =>
      obtain ⟨l, h, h1⟩ := vL_spec (w0 := w0) h
      intro r a w hw
      rw [ex e]; unfold execOp
      simp [resolve, hc, invoke, builtin, arr_map _ _ _ (h1 r a w hw), h w hw.low]
    case h_5 => exact h.elim
  case h_14 => exact h.elim
end
/-- A call of it is entered. -/
def Enters (P : Program) (f : FuncId) : Prop := ∀ (args : Array Value) (w : World), (callFunc f args).run P w = .ok (.enter f args) w
/-- **A contract**: in every later world it returns R, and turns nothing that was. -/
def RetAt (P : Program) (w0 : World) (f : FuncId) (args : Array Value) (R : Value) : Prop := Enters P f ∧ ∀ W, Below w0.heap.size w0 W → Calls P f args W fun e w' => e = .returned R ∧ Below W.heap.size W w'
def memB (i : Nat) : List Nat → Bool
  | [] => false
  | j :: l => Nat.beq i j || memB i l
theorem memB_mem {i : Nat} : ∀ {l : List Nat}, memB i l = true ↔ i ∈ l
  | [] => by simp [memB]
  | j :: l => by
    rw [List.mem_cons, ← memB_mem (l := l)]
    show (Nat.beq i j || memB i l) = true ↔ _
    rw [Bool.or_eq_true]
    exact ⟨fun h => h.imp Nat.eq_of_beq_eq_true id, fun h => h.imp (fun e => by subst e; exact Nat.beq_refl i) id⟩
def ifB' (b : Bool) (p : Prop) : Prop := match b with
  | true => p
  | false => False
theorem ifB'_spec {b : Bool} {p : Prop} (h : ifB' b p) : b = true ∧ p := by cases b <;> first | exact ⟨rfl, h⟩ | exact False.elim h
mutual
def SV.refs : SV → List Nat → List Nat
  | .val _, l => l
  | .ptr b _, l => bif memB b l then l else b :: l
  | .sli b _ _ _, l => bif memB b l then l else b :: l
  | .clo _ m n, l => refsL n (refsL m l)
  | .agg m, l => refsL m l
  | .tup m, l => refsL m l
  | .han _, l => l
def refsL : List SV → List Nat → List Nat
  | [], l => l
  | s :: m, l => refsL m (s.refs l)
end
/-- Whatever these blocks' places are. -/
def boxK (σ : St) (W : World) : List Nat → (Nat → Nat) → ((Nat → Nat) → Prop) → Prop
  | [], β, K => K β
  | b :: l, β, K => match nth σ.bs b with
    | some (t, cs) => bif okL (fun _ => false) (fun _ => false) cs then ∀ g, Bx W g t (denL e0 cs).toArray → boxK σ W l (upd β b g) K else False
    | none => False
def envB (β : Nat → Nat) : Env := ⟨β, fun _ => undef, fun _ _ => False⟩
/-- The same where the arguments or the answer point into blocks of the caller's. -/
def CallOk (P : Program) (w0 : World) (σ : St) (f : FuncId) (args : List SV) (R : SV) : Prop := Enters P f ∧ ∀ W, Below w0.heap.size w0 W → boxK σ W (refsL args []) (fun _ => 0) fun β =>
  ifB' (okL (fun b => memB b (refsL args [])) (fun _ => false) args && R.ok (fun b => memB b (refsL args [])) (fun _ => false)) (Calls P f (denL (envB β) args).toArray W fun e w' => e = .returned (R.den (envB β)) ∧ Below W.heap.size W w')
theorem boxK_spec {σ : St} {w0 : World} {r : Env} {a : Act} {W : World} (hw : See w0 σ r a W) : ∀ {l : List Nat} {β : Nat → Nat} {K : (Nat → Nat) → Prop}, boxK σ W l β K → ∃ β', K β' ∧ (∀ b, b ∈ l → β' b = r.b b) ∧ ∀ b, b ∉ l → β' b = β b
  | [], β, K, h => ⟨β, h, fun _ h => (nomatch h), fun _ _ => rfl⟩
  | c :: l, β, K, h => by
    unfold boxK at h
    split at h
    · rename_i t cs e
      obtain ⟨hp, h⟩ := bif_spec h
      have hb := (hw.bs c t cs e).1
      rw [plainL_den hp] at hb
      obtain ⟨β', h1, h2, h3⟩ := boxK_spec hw (h _ hb)
      refine ⟨β', h1, fun b hb => ?_, fun b hb => ?_⟩
      · by_cases hl : b ∈ l
        · exact h2 b hl
        · rcases List.mem_cons.1 hb with rfl | hb
          · rw [h3 b hl]; exact upd_at _ _ _
          · exact absurd hb hl
      · have h4 := h3 b fun hm => hb (List.mem_cons_of_mem _ hm)
        rw [h4]
        exact upd_ne _ _ fun e => hb (by rw [e]; simp)
    · exact h.elim
theorem CallOk.use {P : Program} {w0 : World} {σ : St} {f : FuncId} {args : List SV} {R : SV} (h : CallOk P w0 σ f args R) {r : Env} {a : Act} {W : World} (hw : See w0 σ r a W) : Calls P f (denL r args).toArray W fun e w' => e = .returned (R.den r) ∧ Below W.heap.size W w' := by
  obtain ⟨β, h1, h2, _⟩ := boxK_spec hw (h.2 W hw.low)
  obtain ⟨hc, h3⟩ := ifB'_spec h1
  obtain ⟨c1, c2⟩ := Bool.and_eq_true_iff.1 hc
  have e1 : denL (envB β) args = denL r args := denL_congr (β := fun b => memB b (refsL args [])) (ξ := fun _ => false) (fun b hb => h2 b (memB_mem.1 hb)) (fun _ h => nomatch h) args c1
  have e2 : R.den (envB β) = R.den r := den_congr (β := fun b => memB b (refsL args [])) (ξ := fun _ => false) (fun b hb => h2 b (memB_mem.1 hb)) (fun _ h => nomatch h) R c2
  rw [e1, e2] at h3
  exact h3
/-- The same where memory is handed over. -/
def CallNew (P : Program) (w0 : World) (σ : St) (f : FuncId) (args : List SV) (R : SV) (ρ : Res) : Prop := Enters P f ∧ ∀ r a W, See w0 σ r a W → Calls P f (denL r args).toArray W fun e w' => ∃ x S, e = .returned (R.den (r.add' σ ⟨0, x, S⟩)) ∧ ρ.φ x S w' ∧ (∀ b, S b → W.heap.size ≤ b ∧ b < w'.heap.size) ∧ Below W.heap.size W w'
def calleeK (σ : St) (c : Call) (K : FuncId → List SV → Prop) : Prop := match c.callee with
  | .value f => evK σ f fun s => match s with
    | .clo (.func g) l m => evL σ c.args.toList fun n => K g (l ++ n ++ m)
    | .val (.func (.func g) l m) => evL σ c.args.toList fun n => K g (l.toList.map SV.val ++ n ++ m.toList.map SV.val)
    | _ => False
  | _ => False
inductive DOp where
  | eq (R : SV)
  | set (R : Value)
  | ret (R : SV)
  | new (R : SV) (ρ : Res)
  | hook (out : Out)
  | pk (b : Bool)
def ifB (b : Bool) (p : Prop) : Prop := match b with
  | true => p
  | false => False
theorem ifB_spec {b : Bool} {p : Prop} (h : ifB b p) : b = true ∧ p := by cases b <;> first | exact ⟨rfl, h⟩ | exact False.elim h
def sameV (s R : SV) (p : Prop) : Prop := match s with
  | .val (.int k a) => (match R with
    | .val (.int k' b) => ifB (kindB k k') (a = b ∧ p)
    | _ => False)
  | .val (.bool a) => (match R with
    | .val (.bool b) => a = b ∧ p
    | _ => False)
  | .val a => (match R with
    | .val b => a = b ∧ p
    | _ => False)
  | _ => False
theorem sameV_spec {s R : SV} {p : Prop} (h : sameV s R p) : p ∧ ∃ a, s = .val a ∧ R = .val a := by
  unfold sameV at h
  split at h
  · split at h
    · obtain ⟨hk, h1, h2⟩ := ifB_spec h
      clear h
      obtain rfl := kindB_eq hk
      subst h1
      have h := h2
      exact ⟨h, _, rfl, rfl⟩
    · exact h.elim
  · split at h
    · obtain ⟨rfl, h⟩ := h
      exact ⟨h, _, rfl, rfl⟩
    · exact h.elim
  · split at h
    · obtain ⟨rfl, h⟩ := h
      exact ⟨h, _, rfl, rfl⟩
    · exact h.elim
  · exact h.elim
def opD (P : Program) (tt : List (Nat × TI)) (w0 : World) (σ : St) (o : Oper) (x : DOp) (K : Out → Prop) : Prop := match x with
  | .eq R => opQ tt σ o.op fun out => sameV out.s R (K ⟨R, out.b, out.r⟩)
  | .set R => setS P w0 σ o R ∧ K (one (.val R))
  | .ret R => (match o.op with
    | .call c => calleeK σ c fun f l => bif okL (fun _ => false) (fun _ => false) l && R.plain then RetAt P w0 f (denL e0 l).toArray (R.den e0) ∧ K (one R) else CallOk P w0 σ f l R ∧ K (one R)
    | _ => False)
  | .new R ρ => (match o.op with
    | .call c => calleeK σ c fun f l => CallNew P w0 σ f l R ρ ∧ K ⟨R, none, some ρ⟩
    | _ => False)
  | .hook out => QStep P w0 o σ (fun u => u = out) ∧ K out
  | .pk b => (match o.op with
    | .pick c x y => evK σ c fun s => match s with
      | .val (.bool v) => v = b ∧ (match b with
        | true => evK σ x fun s => K (one s)
        | false => evK σ y fun s => K (one s))
      | _ => False
    | _ => False)
section
variable {P : Program} {tt : List (Nat × TI)} {w0 : World} {σ : St} {K : Out → Prop}
theorem calleeK_spec {c : Call} {K : FuncId → List SV → Prop} (h : calleeK σ c K) : ∃ f l, K f l ∧ σ.ltL l = σ.ltL l ∧ ∀ (o : Oper), o.op = .call c → Enters P f → ∀ r a w, See w0 σ r a w → (execOp a.eval o).run P w = .ok (.enter f (denL r l).toArray) w := by
  unfold calleeK at h
  split at h
  · rename_i f hc
    obtain ⟨s, h1, h⟩ := evK_spec h
    split at h
    · rename_i g l m
      obtain ⟨n, h, h2⟩ := evL_spec (w0 := w0) h
      refine ⟨g, _, h, rfl, fun o ho he r a w hw => ?_⟩
      have h3 := (evS_den hw h1).1
      unfold execOp
      rw [ho]
      simp only [resolve, hc, h3, SV.den, Deferred.ofValue, Sem.run_bind, Sem.run_pure, Result.andThen_ok, invoke]
      rw [arr_map _ _ _ (h2 r a w hw).1]
      have h4 : (denL r l).toArray ++ (denL r n).toArray ++ (denL r m).toArray = (denL r (l ++ n ++ m)).toArray := by simp [denL_map]
      rw [h4, he]
    · rename_i g l m
      obtain ⟨n, h, h2⟩ := evL_spec (w0 := w0) h
      refine ⟨g, _, h, rfl, fun o ho he r a w hw => ?_⟩
      have h3 := (evS_den hw h1).1
      unfold execOp
      rw [ho]
      simp only [resolve, hc, h3, SV.den, Deferred.ofValue, Sem.run_bind, Sem.run_pure, Result.andThen_ok, invoke]
      rw [arr_map _ _ _ (h2 r a w hw).1]
      have h4 : l ++ (denL r n).toArray ++ m = (denL r (l.toList.map SV.val ++ n ++ m.toList.map SV.val)).toArray := by
        have e1 : ∀ x : Array Value, (denL r (x.toList.map SV.val)) = x.toList := fun x => denL_v r x.toList
        rw [denL_map r (_ ++ _ ++ _), List.map_append, List.map_append, ← denL_map, ← denL_map, ← denL_map, e1, e1]
        simp
      rw [h4, he]
    · exact h.elim
  · exact h.elim
theorem q_call {o : Oper} {f : FuncId} {l : List SV} {R : SV} (h : K (one R)) (hs : σ.lt R = true) (hr : ∀ r a w, See w0 σ r a w → (execOp a.eval o).run P w = .ok (.enter f (denL r l).toArray) w) (hc : ∀ r a W, See w0 σ r a W → Calls P f (denL r l).toArray W fun e w' => e = .returned (R.den r) ∧ Below W.heap.size W w') : QOk P w0 o σ K :=
  ⟨_, h, fun r a w hw Q next hn => by
    unfold Oper.wp
    rw [hr r a w hw]
    show Calls P f _ w _
    refine (hc r a w hw).mono ?_
    rintro e w' ⟨rfl, hb⟩
    have h1 := hn _ Gh.no w' rfl hb (by exact ⟨rfl, (fun _ _ h => nomatch h), (fun _ h => nomatch h), (fun _ _ h => nomatch h)⟩)
    rw [show (one R).s = R from rfl, den_add hs] at h1
    exact h1⟩
theorem opD_ok (hT : TTOk P tt) (hK : ∀ out, K out → σ.fits out = true) {o : Oper} {x : DOp} (h : opD P tt w0 σ o x K) : QOk P w0 o σ K := by
  unfold opD at h
  split at h
  · rename_i R
    obtain ⟨out, h1, h2⟩ := opQ_ok (w0 := w0) hT (K := fun out => sameV out.s R (K ⟨R, out.b, out.r⟩)) (fun out ho => by
      obtain ⟨h1, a, e1, rfl⟩ := sameV_spec ho
      have h2 := hK _ h1
      rw [← e1] at h2
      exact h2) h
    obtain ⟨h3, a, e1, rfl⟩ := sameV_spec h1
    refine ⟨_, h3, fun r A w hw Q next hn => h2 r A w hw Q next ?_⟩
    rintro u γ w' rfl hb hm
    have h4 := hn _ γ w' rfl hb ⟨hm.one, hm.b, hm.r, hm.apart⟩
    rw [e1]
    exact h4
  · exact q_one hK _ h.2 fun r a w hw => setS_ok h.1 r a w hw
  · rename_i R
    split at h
    · rename_i c ho
      obtain ⟨f, l, h, _, hr⟩ := calleeK_spec (P := P) (w0 := w0) h
      cases hp : okL (fun _ => false) (fun _ => false) l && R.plain with
      | true =>
        rw [hp] at h
        obtain ⟨⟨he, hc⟩, h⟩ := h
        obtain ⟨p1, p2⟩ := Bool.and_eq_true_iff.1 hp
        refine q_call h (lt_of hK h) (hr o ho he) fun r a W hw => ?_
        rw [plainL_den p1, plain_den p2]
        exact hc W hw.low
      | false =>
        rw [hp] at h
        obtain ⟨hc, h⟩ := h
        exact q_call h (lt_of hK h) (hr o ho hc.1) fun r a W hw => hc.use hw
    · exact h.elim
  · rename_i R ρ
    split at h
    · rename_i c ho
      obtain ⟨f, l, h, _, hr⟩ := calleeK_spec (P := P) (w0 := w0) h
      obtain ⟨⟨he, hc⟩, h⟩ := h
      refine ⟨_, h, fun r a w hw Q next hn => ?_⟩
      unfold Oper.wp
      rw [hr o ho he r a w hw]
      show Calls P f _ w _
      refine (hc r a w hw).mono ?_
      rintro e w' ⟨x, S, rfl, hφ, hS, hb⟩
      exact hn _ ⟨0, x, S⟩ w' rfl hb ⟨ρ.one x S w' hφ, (fun _ _ h => nomatch h), (fun R' h => by obtain rfl := Option.some.inj h; exact ⟨hφ, hS⟩), (fun _ _ h => nomatch h)⟩
    · exact h.elim
  · exact ⟨_, h.2, h.1⟩
  · split at h
    · rename_i b c x y e
      obtain ⟨s, h1, h⟩ := evK_spec h
      have hx : ∀ ev, execOp ev o = execOp ev { o with op := .pick c x y } := fun ev => by rw [← e]
      split at h
      · rename_i v
        obtain ⟨hv, h⟩ := h
        subst hv
        cases v with
        | true =>
          obtain ⟨u, h2, h⟩ := evK_spec h
          refine q_one hK _ h fun r A w hw => ?_
          rw [hx, ← (evS_den hw h2).1]
          have h3 := (evS_den hw h1).1
          unfold execOp
          simp only [h3, SV.den, asBool]
          rfl
        | false =>
          obtain ⟨u, h2, h⟩ := evK_spec h
          refine q_one hK _ h fun r A w hw => ?_
          rw [hx, ← (evS_den hw h2).1]
          have h3 := (evS_den hw h1).1
          unfold execOp
          simp only [h3, SV.den, asBool]
          rfl
      · exact h.elim
    · exact h.elim
end
end Go.Proofs.YtchfglbkiebfpaaGreatDoor

namespace Go.Proofs.YtchfglbkiebfpaaGreatDoor
open Go Go.RowKit

/-- What is told of the way, in its order. -/
inductive Dir : Type 1 where
  | o (rid i : Nat) (x : DOp)
  | g (rid i : Nat) (b : Bool)
  | gb (rid i : Nat) (x y : List Dir)
  | reg (n : Nat) (late : List Nat)
  | br (b : Bool)
  | both (x y : List Dir)
  | loop {α : Type} (I : α → St) (C : α → Prop) (μ : α → Nat) (a0 : α) (nx : α → Nat → α) (bd : α → List Dir)
  | next (k : Nat)
  | seq (rid i : Nat) (σ' : St)
  | code (σ' : St)
def keyB (r j rid i : Nat) : Bool := Nat.beq r rid && Nat.beq j i
def quietK (P : Program) (tt : List (Nat × TI)) (w0 : World) (rid i : Nat) (o : Oper) (σ : St) (d : List Dir) (K : Out → List Dir → Prop) : Prop := match d with
  | .o r j x :: d' => bif keyB r j rid i then opD P tt w0 σ o x (fun out => K out d') else opQ tt σ o.op (fun out => K out d)
  | d => opQ tt σ o.op (fun out => K out d)
def boolS (σ : St) (ops : Array Oper) (g : Nat) : Option Bool := match ops[g]? with
  | some og => (match og.dst with
    | some t => (match look t σ.ts with
      | some (.val (.bool x)) => some x
      | _ => none)
    | none => none)
  | none => none
/-- The guard's operation was itself left out. -/
def undefS (σ : St) (ops : Array Oper) (g : Nat) : Bool := match ops[g]? with
  | some og => (match og.dst with
    | some t => (match look t σ.ts with
      | some (.val (.tuple _)) => true
      | _ => false)
    | none => false)
  | none => false
/-- A guard that is known outright. -/
def litK (x c : Bool) (K : Bool → Prop) : Prop := match x with
  | true => K c
  | false => K (!c)
def guardK (ops : Array Oper) (o : Oper) (rid i : Nat) (σ : St) (d : List Dir) (K : Bool → List Dir → Prop) : Prop := match o.guard with
  | none => K true d
  | some (g, c) => (match boolS σ ops g with
    | some x => (match d with
      | .g r j b :: d' => bif keyB r j rid i then x = (bif b then c else !c) ∧ K b d' else litK x c fun b => K b d
      | .gb r j dx dy :: _ => bif keyB r j rid i then (x = c → K true dx) ∧ (x = (!c) → K false dy) else litK x c fun b => K b d
      | d => litK x c fun b => K b d)
    | none => ifB (undefS σ ops g) (K false d))
def dstB (d : Option Tmp) (n : Nat) : Bool := match d with
  | none => true
  | some k => Nat.blt k n
def storeK (tt : List (Nat × TI)) (σ : St) (t : TypeId) (x y : Operand) (K : St → Prop) : Prop := evK σ x fun s => match s with
  | .ptr b o => optK (nth σ.bs b) fun p => evK σ y fun u => tiK tt t fun ti => ifB (Nat.beq u.cells.length ti.size && Nat.ble (o + ti.size) p.2.length && u.cells.all SV.okCell) (K { σ with bs := setNth σ.bs b (p.1, spl p.2 o u.cells) })
  | _ => False
/-- An operation of whatever kind: what is known behind it. -/
def SeqOk (P : Program) (w0 : World) (o : Oper) (σ σ' : St) : Prop := ∀ r a w, Sat w0 σ r a w → ∀ (Q : Exit → Act → World → Prop) (next : Act → World → Prop), (∀ r' a' w', Sat w0 σ' r' a' w' → next a' w') → o.wp P a w next Q
def step1 (P : Program) (tt : List (Nat × TI)) (w0 : World) (rid i : Nat) (o : Oper) (σ : St) (d : List Dir) (K : St → List Dir → Prop) : Prop :=
  match o.op with
  | .store t x y => (match d with
    | .seq r j σ' :: d' => bif keyB r j rid i then SeqOk P w0 o σ σ' ∧ K σ' d' else ifB (dstB o.dst σ.n) (storeK tt σ t x y fun σ' => K (σ'.push o.dst (.val undef)) d)
    | d => ifB (dstB o.dst σ.n) (storeK tt σ t x y fun σ' => K (σ'.push o.dst (.val undef)) d))
  | _ => (match d with
    | .seq r j σ' :: d' => ifB (keyB r j rid i) (SeqOk P w0 o σ σ' ∧ K σ' d')
    | d => ifB (dstB o.dst σ.n) (quietK P tt w0 rid i o σ d fun out d' => ifB (σ.fits out) (K ((σ.grow out).push o.dst out.s) d')))
def execL (P : Program) (tt : List (Nat × TI)) (w0 : World) (rid : Nat) (ops : Array Oper) : List Oper → Nat → St → List Dir → (St → List Dir → Prop) → Prop
  | [], _, σ, d, K => K σ d
  | o :: l, i, σ, d, K => guardK ops o rid i σ d fun b d => match b with
    | true => step1 P tt w0 rid i o σ d fun σ d => execL P tt w0 rid ops l (i + 1) σ d K
    | false => ifB (dstB o.dst σ.n) (execL P tt w0 rid ops l (i + 1) (σ.push o.dst (.val undef)) d K)
section
variable {P : Program} {tt : List (Nat × TI)} {w0 : World} {σ : St}
theorem quietK_ok (hT : TTOk P tt) {rid i : Nat} {o : Oper} {d : List Dir} {K : Out → List Dir → Prop} (hK : ∀ out d, K out d → σ.fits out = true) (h : quietK P tt w0 rid i o σ d K) : ∃ d', QOk P w0 o σ fun out => K out d' := by
  unfold quietK at h
  split at h
  · rename_i r j x d'
    cases hk : keyB r j rid i with
    | true => rw [hk] at h; exact ⟨d', opD_ok hT (fun out => hK out d') h⟩
    | false => rw [hk] at h; exact ⟨_, opQ_ok hT (fun out => hK out _) h⟩
  · exact ⟨_, opQ_ok hT (fun out => hK out _) h⟩
theorem boolS_spec {ops : Array Oper} {g : Nat} {x : Bool} (h : boolS σ ops g = some x) {r : Env} {a : Act} {w : World} (hw : See w0 σ r a w) : yielded ops a.tmps g = some x := by
  unfold boolS at h
  split at h
  · rename_i og h1
    split at h
    · rename_i t h2
      split at h
      · rename_i y h3
        obtain rfl := Option.some.inj h
        have h4 := (hw.ts _ _ h3).1
        unfold yielded
        rw [h1, Option.bind_some, h2, Option.bind_some]
        have h5 : a.tmps[t]? = some (.bool y) := by
          rcases Nat.lt_or_ge t a.tmps.size with hl | hl
          · simp [hl] at h4 ⊢; exact h4
          · simp [hl, SV.den, undef] at h4
        rw [h5]
      · cases h
    · cases h
  · cases h
theorem undefS_spec {ops : Array Oper} {g : Nat} (h : undefS σ ops g = true) {r : Env} {a : Act} {w : World} (hw : See w0 σ r a w) : yielded ops a.tmps g = none := by
  unfold undefS at h
  split at h
  · rename_i og h1
    split at h
    · rename_i t h2
      split at h
      · rename_i y h3
        have h4 := (hw.ts _ _ h3).1
        unfold yielded
        rw [h1, Option.bind_some, h2, Option.bind_some]
        rcases Nat.lt_or_ge t a.tmps.size with hl | hl
        · have h5 : a.tmps[t]? = some (.tuple y) := by simp [hl] at h4 ⊢; exact h4
          rw [h5]
        · have h5 : a.tmps[t]? = none := by simp [hl]
          rw [h5]
      · cases h
    · cases h
  · cases h
theorem guardK_spec {ops : Array Oper} {o : Oper} {rid i : Nat} {d : List Dir} {K : Bool → List Dir → Prop} (h : guardK ops o rid i σ d K) : ∃ b d', K b d' ∧ ∀ r a w, See w0 σ r a w → Region.wanted o (yielded ops a.tmps) = b := by
  unfold guardK at h
  split at h
  · rename_i hg
    exact ⟨true, d, h, fun r a w _ => by simp [Region.wanted, hg]⟩
  · rename_i g c hg
    split at h
    · rename_i x hx
      have key : ∀ r a w, See w0 σ r a w → Region.wanted o (yielded ops a.tmps) = (x == c) := fun r a w hw => by
        have h1 := boolS_spec hx hw
        unfold Region.wanted
        rw [hg]
        show (yielded ops a.tmps g == some c) = (x == c)
        rw [h1]; rfl
      have hlit : ∀ d, litK x c (fun b => K b d) → ∃ b d', K b d' ∧ ∀ r a w, See w0 σ r a w → Region.wanted o (yielded ops a.tmps) = b := fun d h => by
        cases x with
        | true => exact ⟨c, d, h, fun r a w hw => by rw [key r a w hw]; cases c <;> rfl⟩
        | false => exact ⟨!c, d, h, fun r a w hw => by rw [key r a w hw]; cases c <;> rfl⟩
      split at h
      · rename_i r' j b d'
        cases hk : keyB r' j rid i with
        | true =>
          rw [hk] at h
          refine ⟨b, d', h.2, fun r a w hw => ?_⟩
          rw [key r a w hw, h.1]
          cases b <;> cases c <;> rfl
        | false => rw [hk] at h; exact hlit _ h
      · rename_i r' j dx dy _
        cases hk : keyB r' j rid i with
        | true =>
          rw [hk] at h
          by_cases e : x = c
          · exact ⟨true, dx, h.1 e, fun r a w hw => by rw [key r a w hw, e]; simp⟩
          · exact ⟨false, dy, h.2 (by cases x <;> cases c <;> simp_all), fun r a w hw => by rw [key r a w hw]; simpa using e⟩
        | false => rw [hk] at h; exact hlit _ h
      · exact hlit _ h
    · obtain ⟨h1, h2⟩ := ifB_spec h
      refine ⟨false, d, h2, fun r a w hw => ?_⟩
      unfold Region.wanted
      rw [hg]
      show (yielded ops a.tmps g == some c) = false
      rw [undefS_spec h1 hw]; rfl
theorem dstB_lt {d : Option Tmp} {n : Nat} (h : dstB d n = true) : ∀ k, d = some k → k < n := by
  rintro k rfl; exact blt_lt h
theorem Sat.put {r : Env} {a : Act} {w : World} (h : Sat w0 σ r a w) {d : Option Tmp} {s : SV} (hd : dstB d σ.n = true) (hs : σ.lt s = true) : Sat w0 (σ.push d s) r (a.put d (s.den r)) w := by
  refine ⟨h.see.push (dstB_lt hd) hs, ?_, ?_⟩
  · obtain ⟨h1, h2, h3, h4, h5⟩ := h.sep
    cases d <;> exact ⟨h1, h2, h3, h4, h5⟩
  · have := h.defers
    cases d <;> exact this
theorem Sat.yield {r : Env} {a : Act} {w w' : World} (h : Sat w0 σ r a w) {o : Out} {γ : Gh} {d : Option Tmp} (hb : Below w.heap.size w w') (hf : σ.fits o = true) (hd : dstB d σ.n = true) (hm : Made (r.add' σ γ) o γ w w') :
    Sat w0 ((σ.grow o).push d o.s) (r.add' σ γ) (a.put d (o.s.den (r.add' σ γ))) w' := by
  have h1 := h.see.grow hb hf hm
  have h2 := h.sep.grow h.see hb hm
  exact Sat.put ⟨h1, h2, h.defers⟩ hd (fits_lt hf)
theorem setNth_same {α : Type} : ∀ {l : List (Option α)} {i : Nat} {p y : α}, nth l i = some p → nth (setNth l i y) i = some y
  | [], _, _, _, h => by cases h
  | _ :: _, 0, _, _, _ => rfl
  | _ :: l, n + 1, _, _, h => setNth_same (l := l) (i := n) h
theorem setNth_other {α : Type} : ∀ {l : List (Option α)} {i j : Nat} {y : α}, j ≠ i → nth (setNth l i y) j = nth l j
  | [], _, _, _, _ => rfl
  | _ :: _, 0, 0, _, h => absurd rfl h
  | _ :: _, 0, _ + 1, _, _ => rfl
  | _ :: _, _ + 1, 0, _, _ => rfl
  | _ :: l, i + 1, j + 1, _, h => setNth_other (l := l) (i := i) (j := j) (fun e => h (by rw [e]))
theorem setN_block : ∀ (vs : List Value) (k : Nat) (w : World) (g b : Nat), b ≠ g → (setN w g k vs).heap[b]? = w.heap[b]?
  | [], _, _, _, _, _ => rfl
  | v :: vs, k, w, g, b, h => (setN_block vs (k + 1) (w.setCell ⟨g, k, none⟩ v) g b h).trans (Below.heap_setCell w ⟨g, k, none⟩ v b h)
theorem storeK_ok (hT : TTOk P tt) {o : Oper} {t : TypeId} {x y : Operand} (ho : o.op = .store t x y) {K : St → Prop} (h : storeK tt σ t x y K) (hd : dstB o.dst σ.n = true) :
    ∃ σ', K σ' ∧ SeqOk P w0 o σ (σ'.push o.dst (.val undef)) := by
  obtain ⟨s, h1, h⟩ := evK_spec h
  split at h
  case h_2 => exact h.elim
  rename_i b p
  obtain ⟨⟨bt, cs⟩, h2, h⟩ := optK_spec h
  obtain ⟨u, h3, h⟩ := evK_spec h
  obtain ⟨ti, h4, h⟩ := tiK_spec hT h
  obtain ⟨hc, h⟩ := ifB_spec h
  obtain ⟨hc, c3⟩ := Bool.and_eq_true_iff.1 hc
  obtain ⟨c1, c2⟩ := Bool.and_eq_true_iff.1 hc
  have c1 := Nat.eq_of_beq_eq_true c1
  have c2 := Nat.le_of_ble_eq_true c2
  refine ⟨_, h, fun r a w hw Q next hn => ?_⟩
  obtain ⟨e1, l1⟩ := evS_den hw.see h1
  obtain ⟨e3, l3⟩ := evS_den hw.see h3
  obtain ⟨hb, hbl⟩ := hw.see.bs b bt cs h2
  have hcell := cells_den hw.see l3
  have hsz : (u.den r).cells.size = ti.size := by rw [← Array.length_toList, ← hcell, denL_len, c1]
  have hrun := store_run (P := P) (t := t) (o := p) h4 hb hsz (by rw [denL_len]; exact c2) (fun v hv => by
    rw [← hcell, denL_map] at hv
    obtain ⟨z, hz, rfl⟩ := List.mem_map.1 hv
    exact okCell_den hw.see (okL_all.1 (cells_lt l3) z hz) (List.all_eq_true.1 c3 z hz))
  unfold Oper.wp
  have hex : (execOp a.eval o).run P w = .ok .skip (setN w (r.b b) p (u.den r).cells.toList) := by
    unfold execOp
    rw [ho]
    simp only [e1, e3, SV.den, Sem.run_bind, hrun, Result.andThen_ok]
    rfl
  rw [hex]
  refine hn r _ _ (Sat.put (s := .val undef) ⟨?_, ?_, hw.defers⟩ hd rfl)
  · have hown := hw.sep.own b _ h2
    have hne : ∀ i q, nth σ.bs i = some q → i ≠ b → r.b i ≠ r.b b := fun i q hi hne => hw.sep.inj i b _ _ hi h2 hne
    refine ⟨stN hown _ _ hw.see.low, hw.see.size, fun k s hk => (by have h5 := hw.see.ts k s hk; simp only [St.lt, setNth_len] at h5 ⊢; exact h5), fun i t' cs' hi => ?_, fun i R hi => ?_, hw.see.one⟩
    · have hlt : ∀ l, ({ σ with bs := setNth σ.bs b (bt, spl cs p u.cells) } : St).ltL l = σ.ltL l := fun l => by simp only [St.ltL, setNth_len]
      rw [hlt]
      by_cases e : i = b
      · subst e
        rw [setNth_same h2] at hi
        simp only [Option.some.injEq, Prod.mk.injEq] at hi
        obtain ⟨rfl, rfl⟩ := hi
        have h5 := Bx.stores (u.den r).cells.toList p hb
        have hs : denL r (spl cs p u.cells) = spl (denL r cs) p (denL r u.cells) := by simp only [denL_map, spl_map]
        rw [putN_spl, ← hcell, ← hs] at h5
        rw [← hcell]
        exact ⟨h5, okL_spl hbl (cells_lt l3)⟩
      · rw [setNth_other e] at hi
        obtain ⟨h5, h6⟩ := hw.see.bs i t' cs' hi
        exact ⟨Bx.farN (hne i _ hi e) _ _ h5, h6⟩
    · obtain ⟨h5, h6⟩ := hw.see.rs i R hi
      refine ⟨R.loc _ _ _ _ (fun b' hb' => setN_block _ _ _ _ _ fun e => hw.sep.apart b i _ _ h2 hi (e ▸ hb')) h5, fun b' hb' => ?_⟩
      rw [setN_size]; exact h6 b' hb'
  · have hex : ∀ i q, nth (setNth σ.bs b (bt, spl cs p u.cells)) i = some q → ∃ q', nth σ.bs i = some q' := fun i q hi => by
      by_cases e : i = b
      · subst e; exact ⟨_, h2⟩
      · rw [setNth_other e] at hi; exact ⟨_, hi⟩
    obtain ⟨s1, s2, s3, s4, s5⟩ := hw.sep
    refine ⟨fun i q hi => ?_, fun i j q q' hi hj => ?_, s3, s4, fun i j q R hi hj => ?_⟩
    · obtain ⟨q', hi⟩ := hex i q hi; exact s1 i q' hi
    · obtain ⟨z, hi⟩ := hex i q hi; obtain ⟨z', hj⟩ := hex j q' hj; exact s2 i j z z' hi hj
    · obtain ⟨z, hi⟩ := hex i q hi; exact s5 i j z R hi hj
theorem step1_ok (hT : TTOk P tt) {rid i : Nat} {o : Oper} {d : List Dir} {K : St → List Dir → Prop} (h : step1 P tt w0 rid i o σ d K) : ∃ σ' d', K σ' d' ∧ SeqOk P w0 o σ σ' := by
  unfold step1 at h
  have hst : ∀ t x y (d : List Dir), o.op = .store t x y → ifB (dstB o.dst σ.n) (storeK tt σ t x y fun σ' => K (σ'.push o.dst (.val undef)) d) → ∃ σ' d', K σ' d' ∧ SeqOk P w0 o σ σ' := fun t x y d ho h => by
    obtain ⟨hd, h⟩ := ifB_spec h
    obtain ⟨σ', h1, h2⟩ := storeK_ok (w0 := w0) hT ho h hd
    exact ⟨_, d, h1, h2⟩
  split at h
  · rename_i t x y ho
    split at h
    · rename_i r j σ' d'
      cases hk : keyB r j rid i with
      | true => rw [hk] at h; exact ⟨σ', d', h.2, h.1⟩
      | false => rw [hk] at h; exact hst t x y _ ho h
    · exact hst t x y _ ho h
  · split at h
    · rename_i r j σ' d'
      obtain ⟨_, h1, h2⟩ := ifB_spec h
      exact ⟨σ', d', h2, h1⟩
    · obtain ⟨hd, h⟩ := ifB_spec h
      obtain ⟨d', out, h1, h2⟩ := quietK_ok hT (fun out d h => (ifB_spec h).1) h
      obtain ⟨hf, h3⟩ := ifB_spec h1
      exact ⟨_, d', h3, fun r a w hw Q next hn => h2 r a w hw.see Q next fun u γ w' hu hb hm => by
        subst hu
        exact hn _ _ _ (hw.yield hb hf hd hm)⟩
theorem execL_ok (hT : TTOk P tt) {rid : Nat} {ops : Array Oper} : ∀ (l : List Oper) (i : Nat) (σ : St) (d : List Dir) (K : St → List Dir → Prop), execL P tt w0 rid ops l i σ d K → ∃ σ' d', K σ' d' ∧
    ∀ r a w, Sat w0 σ r a w → ∀ (Q : Exit → Act → World → Prop), (∀ r' a' w', Sat w0 σ' r' a' w' → Q .normal a' w') → wpList P ops Q l a w
  | [], i, σ, d, K, h => ⟨σ, d, h, fun r a w hw Q hQ => hQ r a w hw⟩
  | o :: l, i, σ, d, K, h => by
    obtain ⟨b, d1, h1, hg⟩ := guardK_spec (w0 := w0) h
    cases b with
    | true =>
      obtain ⟨σ2, d2, h2, hs⟩ := step1_ok hT h1
      obtain ⟨σ', d', h3, hl⟩ := execL_ok hT l (i + 1) σ2 d2 K h2
      refine ⟨σ', d', h3, fun r a w hw Q hQ => ?_⟩
      unfold wpList
      rw [if_pos (hg r a w hw.see)]
      exact .inl (hs r a w hw Q _ fun r' a' w' hw' => hl r' a' w' hw' Q hQ)
    | false =>
      obtain ⟨hd, h2⟩ := ifB_spec h1
      obtain ⟨σ', d', h3, hl⟩ := execL_ok hT l (i + 1) _ d1 K h2
      refine ⟨σ', d', h3, fun r a w hw Q hQ => ?_⟩
      unfold wpList
      rw [if_neg (by rw [hg r a w hw.see]; simp)]
      exact hl r _ w (hw.put (s := .val undef) hd rfl) Q hQ
end
end Go.Proofs.YtchfglbkiebfpaaGreatDoor

namespace Go.Proofs.YtchfglbkiebfpaaGreatDoor
open Go Go.RowKit

/-- One of the first operations: its slot, what it yields, which ones it waits for. -/
structure Hd where
  d : Nat
  out : Out
  cl : List Nat
def hideT (ds : List Nat) : List (Nat × SV) → List (Nat × SV)
  | [] => []
  | (k, s) :: l => bif memB k ds then hideT ds l else (k, s) :: hideT ds l
def visT (cl : List Nat) : List Hd → Nat → List (Nat × SV) → List (Nat × SV)
  | [], _, t => t
  | h :: l, j, t => bif memB j cl then (h.d, h.out.s) :: visT cl l (j + 1) t else visT cl l (j + 1) t
def visB (cl : List Nat) : List Hd → Nat → List (Option (TypeId × List SV))
  | [], _ => []
  | h :: l, j => (bif memB j cl then h.out.b else none) :: visB cl l (j + 1)
def visR (cl : List Nat) : List Hd → Nat → List (Option Res)
  | [], _ => []
  | h :: l, j => (bif memB j cl then h.out.r else none) :: visR cl l (j + 1)
def app {α : Type} : List α → List α → List α
  | [], m => m
  | x :: l, m => x :: app l m
theorem app_eq {α : Type} : ∀ l m : List α, app l m = l ++ m
  | [], _ => rfl
  | x :: l, m => congrArg (x :: ·) (app_eq l m)
def visSt (σ : St) (base : List (Nat × SV)) (hs : List Hd) (cl : List Nat) : St := ⟨σ.n, visT cl hs 0 base, app σ.bs (visB cl hs 0), app σ.rs (visR cl hs 0)⟩
def tailT : List Hd → List (Nat × SV) → List (Nat × SV)
  | [], t => t
  | h :: l, t => (h.d, h.out.s) :: tailT l t
def tailB : List Hd → List (Option (TypeId × List SV))
  | [] => []
  | h :: l => h.out.b :: tailB l
def tailR : List Hd → List (Option Res)
  | [] => []
  | h :: l => h.out.r :: tailR l
def tailSt (σ : St) (hs : List Hd) : St := ⟨σ.n, tailT hs σ.ts, app σ.bs (tailB hs), app σ.rs (tailR hs)⟩
def clos1 : List Hd → Nat → List Nat
  | [], _ => []
  | h :: _, 0 => h.cl
  | _ :: l, n + 1 => clos1 l n
def uni : List Nat → List Nat → List Nat
  | [], m => m
  | j :: l, m => bif memB j m then uni l m else uni l (j :: m)
theorem uni_mem {x : Nat} : ∀ {l m : List Nat}, x ∈ uni l m → x ∈ l ∨ x ∈ m
  | [], _, h => .inr h
  | j :: l, m, h => by
    unfold uni at h
    cases e : memB j m with
    | true => rw [e] at h; exact (uni_mem h).imp (List.mem_cons_of_mem _) id
    | false =>
      rw [e] at h
      rcases uni_mem h with h | h
      · exact .inl (List.mem_cons_of_mem _ h)
      · rcases List.mem_cons.1 h with rfl | h
        · exact .inl (by simp)
        · exact .inr h
def clos (hs : List Hd) : List Nat → List Nat
  | [] => []
  | j :: l => uni (j :: clos1 hs j) (clos hs l)
/-- It points to what was, or to what these make. -/
def refB (n : Nat) (cl : List Nat) (b : Nat) : Bool := Nat.blt b n || (Nat.ble n b && memB (b - n) cl)
def refsB (σ : St) (i : Nat) (cl : List Nat) (o : Out) : Bool :=
  o.s.ok (refB σ.bs.length (i :: cl)) (refB σ.rs.length (i :: cl)) && (match o.b with | some (_, cs) => okL (refB σ.bs.length cl) (refB σ.rs.length cl) cs | none => true)
def lateS (σ : St) (o : Op) (K : Out → Prop) : Prop := match o with
  | .extract x i => evK σ x fun s => tupK s fun l => optK (nthL l i) fun c => K (one c)
  | _ => False
def headsK (P : Program) (tt : List (Nat × TI)) (w0 : World) (rid : Nat) (ops : Array Oper) (late : List Nat) (σ : St) (base : List (Nat × SV)) : List Oper → Nat → Nat → List Hd → List Dir → (List Hd → List Dir → Prop) → Prop
  | _, 0, _, hs, d, K => K hs d
  | [], _ + 1, _, _, _, _ => False
  | o :: l, n + 1, i, hs, d, K => (fun cl => (fun σi => guardK ops o rid i σi d fun b d => optK o.dst fun k => match b with
    | true => (match memB i late with
      | true => lateS σi o.op fun out => ifB (σi.fits out && refsB σ i cl out) (headsK P tt w0 rid ops late σ base l n (i + 1) (snoc hs ⟨k, out, cl⟩) d K)
      | false => quietK P tt w0 rid i o σi d fun out d => ifB (σi.fits out && refsB σ i cl out) (headsK P tt w0 rid ops late σ base l n (i + 1) (snoc hs ⟨k, out, cl⟩) d K))
    | false => ifB (!memB i late) (headsK P tt w0 rid ops late σ base l n (i + 1) (snoc hs ⟨k, one (.val undef), cl⟩) d K)) (visSt σ base hs cl)) (clos hs (waitsO o))
def dsOf : List Oper → Nat → List Nat
  | _, 0 => []
  | [], _ + 1 => []
  | o :: l, n + 1 => (match o.dst with | some d => d | none => 0) :: dsOf l n
def regionK (P : Program) (tt : List (Nat × TI)) (w0 : World) (id : Nat) (ops : Array Oper) (σ : St) (d : List Dir) (K : St → List Dir → Prop) : Prop := match d with
  | .reg n late :: d => ifB (okB ops.toList (dsOf ops.toList n) late σ.n) (headsK P tt w0 id ops late σ (hideT (dsOf ops.toList n) σ.ts) ops.toList n 0 [] d fun hs d =>
      execL P tt w0 id ops (ops.toList.drop n) n (tailSt σ hs) d K)
  | _ => False
/-! What the heads are. -/
def HOk (P : Program) (w0 : World) (ops : Array Oper) (late : List Nat) (σ : St) (base : List (Nat × SV)) (hs : List Hd) (i : Nat) (h : Hd) (o : Oper) : Prop :=
  o.dst = some h.d ∧ (∀ j, j ∈ h.cl → Rch ops i j) ∧ (visSt σ base (hs.take i) h.cl).fits h.out = true ∧ refsB σ i h.cl h.out = true ∧
  (((∀ r a w, See w0 (visSt σ base (hs.take i) h.cl) r a w → Region.wanted o (yielded ops a.tmps) = true) ∧
    ((memB i late = false ∧ QStep P w0 o (visSt σ base (hs.take i) h.cl) fun u => u = h.out) ∨
     (memB i late = true ∧ h.out.b = none ∧ h.out.r = none ∧ ∀ r a w, See w0 (visSt σ base (hs.take i) h.cl) r a w → ∀ w', (execOp a.eval o).run P w' = .ok (.value (h.out.s.den r)) w'))) ∨
   ((∀ r a w, See w0 (visSt σ base (hs.take i) h.cl) r a w → Region.wanted o (yielded ops a.tmps) = false) ∧ memB i late = false ∧ h.out = one (.val undef)))
section
variable {P : Program} {tt : List (Nat × TI)} {w0 : World} {σ : St}
theorem clos1_mem {ops : Array Oper} {hs : List Hd} (hcl : ∀ k h, hs[k]? = some h → ∀ j, j ∈ h.cl → Rch ops k j) : ∀ {k j : Nat}, j ∈ clos1 hs k → Rch ops k j := by
  have key : ∀ (l : List Hd) (k j : Nat), j ∈ clos1 l k → ∃ h, l[k]? = some h ∧ j ∈ h.cl := by
    intro l
    induction l with
    | nil => intro k j h; cases h
    | cons x l ih =>
      intro k j h
      cases k with
      | zero => exact ⟨x, rfl, h⟩
      | succ k => simpa using ih k j h
  intro k j h
  obtain ⟨x, h1, h2⟩ := key hs k j h
  exact hcl k x h1 j h2
theorem clos_mem {ops : Array Oper} {hs : List Hd} (hcl : ∀ k h, hs[k]? = some h → ∀ j, j ∈ h.cl → Rch ops k j) {i : Nat} : ∀ {l : List Nat}, (∀ j, j ∈ l → j ∈ waits ops i) → ∀ j, j ∈ clos hs l → Rch ops i j
  | [], _, _, h => by cases h
  | k :: l, hl, j, h => by
    unfold clos at h
    rcases uni_mem h with h | h
    · rcases List.mem_cons.1 h with rfl | h
      · exact .one (hl j (by simp))
      · exact .more (hl k (by simp)) (clos1_mem hcl h)
    · exact clos_mem hcl (fun m hm => hl m (by simp [hm])) j h
theorem lateS_ok {o : Oper} {K : Out → Prop} (h : lateS σ o.op K) : ∃ out, K out ∧ out.b = none ∧ out.r = none ∧ ∀ r a w, See w0 σ r a w → ∀ w', (execOp a.eval o).run P w' = .ok (.value (out.s.den r)) w' := by
  unfold lateS at h
  split at h
  · rename_i x i e
    obtain ⟨s, h1, h⟩ := evK_spec h
    obtain ⟨l, h, hl⟩ := tupK_spec h
    obtain ⟨c, hc, h⟩ := optK_spec h
    refine ⟨_, h, rfl, rfl, fun r A w hw w' => ?_⟩
    have e2 : execOp A.eval o = execOp A.eval { o with op := .extract x i } := by rw [← e]
    rw [e2]
    refine run_v ?_
    rw [(evS_den hw h1).1, hl]
    simp [Instr.extract, nthL_den hc, one]
  · exact h.elim
theorem headsK_ok (hT : TTOk P tt) {rid : Nat} {ops : Array Oper} {late : List Nat} {base : List (Nat × SV)} {K : List Hd → List Dir → Prop} : ∀ (n : Nat) (l : List Oper) (i : Nat) (acc : List Hd) (d : List Dir),
    (∀ j, l[j]? = ops[i + j]?) → acc.length = i → (∀ k h, acc[k]? = some h → ∀ j, j ∈ h.cl → Rch ops k j) → headsK P tt w0 rid ops late σ base l n i acc d K →
    ∃ hs d', K hs d' ∧ hs.length = i + n ∧ hs.take i = acc ∧ ∀ j, i ≤ j → j < i + n → ∃ h o, hs[j]? = some h ∧ ops[j]? = some o ∧ HOk P w0 ops late σ base hs j h o
  | 0, l, i, acc, d, _, ha, _, h => by
    refine ⟨acc, d, (by cases l <;> exact h), ha, by rw [← ha]; exact List.take_length, fun j h1 h2 => by omega⟩
  | n + 1, [], i, acc, d, _, _, _, h => False.elim h
  | n + 1, o :: l, i, acc, d, hl, ha, hcl, h => by
    have ho : ops[i]? = some o := by have := hl 0; simpa using this.symm
    have hl' : ∀ j, l[j]? = ops[i + 1 + j]? := fun j => by have := hl (j + 1); rw [show i + 1 + j = i + (j + 1) by omega]; simpa using this
    have hw : ∀ j, j ∈ clos acc (waitsO o) → Rch ops i j := clos_mem hcl fun j hj => by unfold waits; rw [ho]; exact hj
    have hnext : ∀ x : Hd, x.cl = clos acc (waitsO o) → ∀ d, headsK P tt w0 rid ops late σ base l n (i + 1) (snoc acc x) d K →
        (∀ hs : List Hd, hs.take i = acc → HOk P w0 ops late σ base hs i x o) → ∃ hs d', K hs d' ∧ hs.length = i + (n + 1) ∧ hs.take i = acc ∧ ∀ j, i ≤ j → j < i + (n + 1) → ∃ h o, hs[j]? = some h ∧ ops[j]? = some o ∧ HOk P w0 ops late σ base hs j h o := fun x hx d h hok => by
      rw [snoc_eq] at h
      obtain ⟨hs, d', h1, h2, h3, h4⟩ := headsK_ok hT n l (i + 1) (acc ++ [x]) d hl' (by simp [ha]) (fun k y hk j hj => by
        rcases Nat.lt_or_ge k acc.length with h5 | h5
        · rw [List.getElem?_append_left h5] at hk; exact hcl k y hk j hj
        · have h6 : k = i := by
            have h7 := (List.getElem?_eq_some_iff.1 hk).1
            simp at h7; omega
          subst h6
          rw [← ha] at hk
          simp at hk
          subst hk
          rw [hx] at hj
          exact hw j hj) h
      have h5 : hs.take i = acc := by
        have := congrArg (List.take i) h3
        rw [List.take_take, Nat.min_eq_left (by omega), List.take_append_of_le_length (by omega), ← ha, List.take_length] at this
        rw [← ha]; exact this
      refine ⟨hs, d', h1, by omega, h5, fun j h6 h7 => ?_⟩
      by_cases e : j = i
      · subst e
        refine ⟨x, o, ?_, ho, hok hs h5⟩
        have h8 : (hs.take (j + 1))[j]? = (acc ++ [x])[j]? := by rw [h3]
        rw [List.getElem?_take_of_lt (by omega)] at h8
        rw [h8, ← ha]
        simp
      · exact h4 j (by omega) (by omega)
    simp only [headsK] at h
    obtain ⟨b, d1, h1, hg⟩ := guardK_spec (w0 := w0) h
    obtain ⟨k, hk, h1⟩ := optK_spec h1
    cases b with
    | true =>
      cases hm : memB i late with
      | true =>
        rw [hm] at h1
        obtain ⟨out, h2, h3, h4, h5⟩ := lateS_ok (P := P) (w0 := w0) h1
        obtain ⟨hc, h6⟩ := ifB_spec h2
        obtain ⟨hf, hr⟩ := Bool.and_eq_true_iff.1 hc
        exact hnext _ rfl _ h6 fun hs e => ⟨hk, hw, by rw [e]; exact hf, hr, .inl ⟨by rw [e]; exact hg, .inr ⟨hm, h3, h4, by rw [e]; exact h5⟩⟩⟩
      | false =>
        rw [hm] at h1
        obtain ⟨d2, out, h2, h3⟩ := quietK_ok (w0 := w0) hT (fun out d h => (Bool.and_eq_true_iff.1 (ifB_spec h).1).1) h1
        obtain ⟨hc, h6⟩ := ifB_spec h2
        obtain ⟨hf, hr⟩ := Bool.and_eq_true_iff.1 hc
        exact hnext _ rfl _ h6 fun hs e => ⟨hk, hw, by rw [e]; exact hf, hr, .inl ⟨by rw [e]; exact hg, .inl ⟨hm, by rw [e]; exact h3⟩⟩⟩
    | false =>
      obtain ⟨hm, h6⟩ := ifB_spec h1
      have hm : memB i late = false := by simpa using hm
      exact hnext _ rfl _ h6 fun hs e => ⟨hk, hw, rfl, rfl, .inr ⟨by rw [e]; exact hg, hm, rfl⟩⟩
end
end Go.Proofs.YtchfglbkiebfpaaGreatDoor

namespace Go.Proofs.YtchfglbkiebfpaaGreatDoor
open Go Go.RowKit

def oneV (v : Value) : Value := if v.oneCell' then v else .bool false
theorem oneV_one (v : Value) : (oneV v).oneCell' = true := by
  unfold oneV; split
  · assumption
  · rfl
theorem oneV_eq {v : Value} (h : v.oneCell' = true) : oneV v = v := if_pos h
/-- Where what the heads make lies. -/
def rg (σ : St) (r : Env) (γ : Nat → Gh) : Env :=
  ⟨fun k => if k < σ.bs.length then r.b k else (γ (k - σ.bs.length)).b, fun k => if k < σ.rs.length then r.x k else oneV (γ (k - σ.rs.length)).x, fun k => if k < σ.rs.length then r.S k else (γ (k - σ.rs.length)).S⟩
theorem rg_upd {σ : St} {r : Env} {γ : Nat → Gh} {g : Gh} (hg : g.x.oneCell' = true) (i : Nat) : rg σ r (upd γ i g) = (rg σ r γ).add (σ.bs.length + i) (σ.rs.length + i) g := by
  unfold rg Env.add upd
  congr 1
  · funext k
    show (if k < σ.bs.length then r.b k else (if k - σ.bs.length = i then g else γ (k - σ.bs.length)).b) = if k = σ.bs.length + i then g.b else if k < σ.bs.length then r.b k else (γ (k - σ.bs.length)).b
    by_cases h : k < σ.bs.length
    · rw [if_pos h, if_neg (by omega), if_pos h]
    · by_cases e : k = σ.bs.length + i
      · rw [if_neg h, if_pos e, if_pos (by omega)]
      · rw [if_neg h, if_neg e, if_neg h, if_neg (by omega)]
  · funext k
    show (if k < σ.rs.length then r.x k else oneV (if k - σ.rs.length = i then g else γ (k - σ.rs.length)).x) = if k = σ.rs.length + i then g.x else if k < σ.rs.length then r.x k else oneV (γ (k - σ.rs.length)).x
    by_cases h : k < σ.rs.length
    · rw [if_pos h, if_neg (by omega), if_pos h]
    · by_cases e : k = σ.rs.length + i
      · rw [if_neg h, if_pos e, if_pos (by omega), oneV_eq hg]
      · rw [if_neg h, if_neg e, if_neg h, if_neg (by omega)]
  · funext k
    show (if k < σ.rs.length then r.S k else (if k - σ.rs.length = i then g else γ (k - σ.rs.length)).S) = if k = σ.rs.length + i then g.S else if k < σ.rs.length then r.S k else (γ (k - σ.rs.length)).S
    by_cases h : k < σ.rs.length
    · rw [if_pos h, if_neg (by omega), if_pos h]
    · by_cases e : k = σ.rs.length + i
      · rw [if_neg h, if_pos e, if_pos (by omega)]
      · rw [if_neg h, if_neg e, if_neg h, if_neg (by omega)]
theorem rg_old {σ : St} {r : Env} {γ : Nat → Gh} {s : SV} (h : σ.lt s = true) : s.den (rg σ r γ) = s.den r :=
  den_congr (fun _ hi => if_pos (blt_lt hi)) (fun _ hi => if_pos (blt_lt hi)) s h
theorem rgL_old {σ : St} {r : Env} {γ : Nat → Gh} {l : List SV} (h : σ.ltL l = true) : denL (rg σ r γ) l = denL r l :=
  denL_congr (fun _ hi => if_pos (blt_lt hi)) (fun _ hi => if_pos (blt_lt hi)) l h
theorem refB_spec {n : Nat} {cl : List Nat} {b : Nat} (h : refB n cl b = true) : b < n ∨ (n ≤ b ∧ b - n ∈ cl) := by
  rcases Bool.or_eq_true_iff.1 h with h | h
  · exact .inl (blt_lt h)
  · obtain ⟨h1, h2⟩ := Bool.and_eq_true_iff.1 h
    exact .inr ⟨Nat.le_of_ble_eq_true h1, memB_mem.1 h2⟩
theorem rg_b {σ : St} {r : Env} {γ γ' : Nat → Gh} {cl : List Nat} (h : ∀ j, j ∈ cl → γ j = γ' j) {i : Nat} (hi : refB σ.bs.length cl i = true) : (rg σ r γ).b i = (rg σ r γ').b i := by
  unfold rg
  rcases refB_spec hi with h1 | ⟨h1, h2⟩
  · simp only [if_pos h1]
  · have h3 : ¬ i < σ.bs.length := by omega
    simp only [if_neg h3, h _ h2]
theorem rg_x {σ : St} {r : Env} {γ γ' : Nat → Gh} {cl : List Nat} (h : ∀ j, j ∈ cl → γ j = γ' j) {i : Nat} (hi : refB σ.rs.length cl i = true) : (rg σ r γ).x i = (rg σ r γ').x i := by
  unfold rg
  rcases refB_spec hi with h1 | ⟨h1, h2⟩
  · simp only [if_pos h1]
  · have h3 : ¬ i < σ.rs.length := by omega
    simp only [if_neg h3, h _ h2]
/-! Lists. -/
theorem look_visT {cl : List Nat} {k : Nat} {s : SV} : ∀ {hs : List Hd} {j0 : Nat} {t : List (Nat × SV)}, look k (visT cl hs j0 t) = some s → (∃ j, ∃ h : Hd, hs[j]? = some h ∧ (j0 + j) ∈ cl ∧ h.d = k ∧ s = h.out.s) ∨ look k t = some s
  | [], _, _, h => .inr h
  | x :: hs, j0, t, h => by
    unfold visT at h
    cases e : memB j0 cl with
    | true =>
      rw [e] at h
      simp only [cond_true, look] at h
      cases e2 : Nat.beq x.d k with
      | true =>
        rw [e2] at h
        obtain rfl := Option.some.inj h
        exact .inl ⟨0, x, rfl, memB_mem.1 e, Nat.eq_of_beq_eq_true e2, rfl⟩
      | false =>
        rw [e2] at h
        rcases look_visT (hs := hs) h with ⟨j, y, h1, h2, h3⟩ | h1
        · exact .inl ⟨j + 1, y, by simpa using h1, by rw [show j0 + (j + 1) = j0 + 1 + j by omega]; exact h2, h3⟩
        · exact .inr h1
    | false =>
      rw [e] at h
      rcases look_visT (hs := hs) h with ⟨j, y, h1, h2, h3⟩ | h1
      · exact .inl ⟨j + 1, y, by simpa using h1, by rw [show j0 + (j + 1) = j0 + 1 + j by omega]; exact h2, h3⟩
      · exact .inr h1
theorem look_hide {ds : List Nat} {k : Nat} {s : SV} : ∀ {t : List (Nat × SV)}, look k (hideT ds t) = some s → k ∉ ds ∧ look k t = some s
  | [], h => by cases h
  | (j, u) :: t, h => by
    unfold hideT at h
    cases e : memB j ds with
    | true =>
      rw [e] at h
      obtain ⟨h1, h2⟩ := look_hide (t := t) h
      refine ⟨h1, ?_⟩
      unfold look
      cases e2 : Nat.beq j k with
      | true => exact absurd (memB_mem.1 e) (Nat.eq_of_beq_eq_true e2 ▸ h1)
      | false => exact h2
    | false =>
      rw [e] at h
      simp only [cond_false, look] at h
      unfold look
      cases e2 : Nat.beq j k with
      | true =>
        rw [e2] at h
        refine ⟨fun hm => ?_, h⟩
        rw [← Nat.eq_of_beq_eq_true e2] at hm
        rw [memB_mem.2 hm] at e; cases e
      | false => rw [e2] at h; exact look_hide (t := t) h
theorem look_tail {k : Nat} {s : SV} : ∀ {hs : List Hd} {t : List (Nat × SV)}, look k (tailT hs t) = some s → (∃ (j : Nat) (h : Hd), hs[j]? = some h ∧ h.d = k ∧ s = h.out.s) ∨ ((∀ (j : Nat) (h : Hd), hs[j]? = some h → h.d ≠ k) ∧ look k t = some s)
  | [], _, h => .inr ⟨fun _ _ h => by simp at h, h⟩
  | x :: hs, t, h => by
    simp only [tailT, look] at h
    cases e2 : Nat.beq x.d k with
    | true =>
      rw [e2] at h
      obtain rfl := Option.some.inj h
      exact .inl ⟨0, x, rfl, Nat.eq_of_beq_eq_true e2, rfl⟩
    | false =>
      rw [e2] at h
      rcases look_tail (hs := hs) h with ⟨j, y, h1, h2⟩ | ⟨h1, h2⟩
      · exact .inl ⟨j + 1, y, by simpa using h1, h2⟩
      · refine .inr ⟨fun j y hj => ?_, h2⟩
        cases j with
        | zero => simp at hj; subst hj; exact Nat.ne_of_beq_eq_false e2
        | succ j => exact h1 j y (by simpa using hj)
theorem nth_app2 {α : Type} : ∀ {l m : List (Option α)} {i : Nat} {y : α}, nth (app l m) i = some y → nth l i = some y ∨ (l.length ≤ i ∧ nth m (i - l.length) = some y)
  | [], _, _, _, h => .inr ⟨Nat.zero_le _, h⟩
  | _ :: _, _, 0, _, h => .inl h
  | _ :: l, m, i + 1, _, h => (nth_app2 (l := l) (m := m) (i := i) h).imp id fun ⟨h1, h2⟩ => ⟨Nat.succ_le_succ h1, by rw [List.length_cons, Nat.add_sub_add_right]; exact h2⟩
theorem nth_visB {cl : List Nat} {y : TypeId × List SV} : ∀ {hs : List Hd} {j0 j : Nat}, nth (visB cl hs j0) j = some y → ∃ h, hs[j]? = some h ∧ (j0 + j) ∈ cl ∧ h.out.b = some y
  | [], _, _, h => by cases h
  | x :: hs, j0, 0, h => by
    change (bif memB j0 cl then x.out.b else none) = some y at h
    cases e : memB j0 cl with
    | true => rw [e] at h; exact ⟨x, rfl, memB_mem.1 e, h⟩
    | false => rw [e] at h; cases h
  | x :: hs, j0, j + 1, h => by
    obtain ⟨z, h1, h2, h3⟩ := nth_visB (hs := hs) (j0 := j0 + 1) (j := j) h
    exact ⟨z, by simpa using h1, by rw [show j0 + (j + 1) = j0 + 1 + j by omega]; exact h2, h3⟩
theorem nth_visR {cl : List Nat} {y : Res} : ∀ {hs : List Hd} {j0 j : Nat}, nth (visR cl hs j0) j = some y → ∃ h, hs[j]? = some h ∧ (j0 + j) ∈ cl ∧ h.out.r = some y
  | [], _, _, h => by cases h
  | x :: hs, j0, 0, h => by
    change (bif memB j0 cl then x.out.r else none) = some y at h
    cases e : memB j0 cl with
    | true => rw [e] at h; exact ⟨x, rfl, memB_mem.1 e, h⟩
    | false => rw [e] at h; cases h
  | x :: hs, j0, j + 1, h => by
    obtain ⟨z, h1, h2, h3⟩ := nth_visR (hs := hs) (j0 := j0 + 1) (j := j) h
    exact ⟨z, by simpa using h1, by rw [show j0 + (j + 1) = j0 + 1 + j by omega]; exact h2, h3⟩
theorem nth_tailB {y : TypeId × List SV} : ∀ {hs : List Hd} {j : Nat}, nth (tailB hs) j = some y → ∃ h, hs[j]? = some h ∧ h.out.b = some y
  | [], _, h => by cases h
  | x :: hs, 0, h => ⟨x, rfl, h⟩
  | x :: hs, j + 1, h => by
    obtain ⟨z, h1, h2⟩ := nth_tailB (hs := hs) (j := j) h
    exact ⟨z, by simpa using h1, h2⟩
theorem nth_tailR {y : Res} : ∀ {hs : List Hd} {j : Nat}, nth (tailR hs) j = some y → ∃ h, hs[j]? = some h ∧ h.out.r = some y
  | [], _, h => by cases h
  | x :: hs, 0, h => ⟨x, rfl, h⟩
  | x :: hs, j + 1, h => by
    obtain ⟨z, h1, h2⟩ := nth_tailR (hs := hs) (j := j) h
    exact ⟨z, by simpa using h1, h2⟩
theorem visB_len (cl : List Nat) : ∀ (hs : List Hd) (j : Nat), (visB cl hs j).length = hs.length
  | [], _ => rfl
  | _ :: hs, j => congrArg Nat.succ (visB_len cl hs (j + 1))
theorem visR_len (cl : List Nat) : ∀ (hs : List Hd) (j : Nat), (visR cl hs j).length = hs.length
  | [], _ => rfl
  | _ :: hs, j => congrArg Nat.succ (visR_len cl hs (j + 1))
theorem tailB_len : ∀ (hs : List Hd), (tailB hs).length = hs.length
  | [] => rfl
  | _ :: hs => congrArg Nat.succ (tailB_len hs)
theorem tailR_len : ∀ (hs : List Hd), (tailR hs).length = hs.length
  | [] => rfl
  | _ :: hs => congrArg Nat.succ (tailR_len hs)
theorem vis_bs (σ : St) (base : List (Nat × SV)) (hs : List Hd) (cl : List Nat) : (visSt σ base hs cl).bs.length = σ.bs.length + hs.length := by simp [visSt, app_eq, visB_len]
theorem vis_rs (σ : St) (base : List (Nat × SV)) (hs : List Hd) (cl : List Nat) : (visSt σ base hs cl).rs.length = σ.rs.length + hs.length := by simp [visSt, app_eq, visR_len]
theorem tail_bs (σ : St) (hs : List Hd) : (tailSt σ hs).bs.length = σ.bs.length + hs.length := by simp [tailSt, app_eq, tailB_len]
theorem tail_rs (σ : St) (hs : List Hd) : (tailSt σ hs).rs.length = σ.rs.length + hs.length := by simp [tailSt, app_eq, tailR_len]
theorem dsOf_at : ∀ {l : List Oper} {n : Nat}, (∀ j, j < n → ∃ o d, l[j]? = some o ∧ o.dst = some d) → (dsOf l n).length = n ∧ ∀ j o d, j < n → l[j]? = some o → o.dst = some d → (dsOf l n)[j]? = some d
  | l, 0, _ => ⟨by cases l <;> rfl, fun _ _ _ h => by omega⟩
  | [], n + 1, h => by obtain ⟨o, d, h1, _⟩ := h 0 (by omega); simp at h1
  | x :: l, n + 1, h => by
    obtain ⟨h1, h2⟩ := dsOf_at (l := l) (n := n) fun j hj => by simpa using h (j + 1) (by omega)
    refine ⟨by simp [dsOf, h1], fun j o d hj ho hd => ?_⟩
    cases j with
    | zero => simp at ho; subst ho; simp [dsOf, hd]
    | succ j => simpa [dsOf] using h2 j o d (by omega) (by simpa using ho) hd
theorem idx_none {k : Nat} : ∀ {ds : List Nat} {i : Nat}, k ∉ ds → idx k ds i = none
  | [], _, _ => rfl
  | d :: ds, i, h => by
    unfold idx
    rw [if_neg fun e => h (by simp [e])]
    exact idx_none fun hm => h (by simp [hm])
end Go.Proofs.YtchfglbkiebfpaaGreatDoor

namespace Go.Proofs.YtchfglbkiebfpaaGreatDoor
open Go Go.RowKit

/-- What is known of a head that has come. -/
def PhiH (σ : St) (r : Env) (hs : List Hd) (j : Nat) (u : Nat → Value) (γ : Nat → Gh) (W : World) : Prop := ∀ h, hs[j]? = some h →
  u j = h.out.s.den (rg σ r γ) ∧ (∀ t cs, h.out.b = some (t, cs) → Bx W (γ j).b t (denL (rg σ r γ) cs).toArray) ∧ (∀ R, h.out.r = some R → (R.φ (γ j).x (γ j).S W ∧ ∀ b, (γ j).S b → b < W.heap.size) ∧ (γ j).x.oneCell' = true) ∧ (∀ p R, h.out.b = some p → h.out.r = some R → ¬ (γ j).S (γ j).b)
def FrH (hs : List Hd) (i : Nat) (g : Gh) (b : Nat) : Prop := ∃ h, hs[i]? = some h ∧ ((∃ p, h.out.b = some p ∧ b = g.b) ∨ (∃ R, h.out.r = some R ∧ g.S b))
section
variable {P : Program} {tt : List (Nat × TI)} {w0 : World} {σ : St} {r : Env} {a : Act} {w : World} {ops : Array Oper} {late : List Nat} {base : List (Nat × SV)} {hs : List Hd} {ds : List Nat} {n : Nat}
/-- What a head sees. -/
theorem see_vis (hS : See w0 σ r a w) (hbase : ∀ k s, look k base = some s → k ∉ ds ∧ look k σ.ts = some s) (hnd : ds.Nodup) (hlen : hs.length = n) (hds : ∀ (j : Nat) (h : Hd), hs[j]? = some h → ds[j]? = some h.d) (hdl : ds.length = n) (hlt : ∀ d, d ∈ ds → d < a.tmps.size)
    (hfit : ∀ (j : Nat) (h : Hd), hs[j]? = some h → ∃ cl, (visSt σ base (hs.take j) cl).fits h.out = true)
    {i : Nat} (hi : i < n) {cl : List Nat} (_hcl : ∀ j, j ∈ cl → j < i) {W : World} (hb : Below w.heap.size w W) {u : Nat → Value} {γ : Nat → Gh} (hΦ : ∀ j, j ∈ cl → PhiH σ r hs j u γ W) :
    See w0 (visSt σ base (hs.take i) cl) (rg σ r γ) (frm a ds u) W := by
  have h' := hS.later hb
  have hti : (hs.take i).length = i := by rw [List.length_take]; omega
  have hget : ∀ (j : Nat) (h : Hd), (hs.take i)[j]? = some h → hs[j]? = some h ∧ j < i := fun j h hj => by
    have h1 := (List.getElem?_eq_some_iff.1 hj).1
    rw [hti] at h1
    rw [List.getElem?_take_of_lt h1] at hj
    exact ⟨hj, h1⟩
  have hbl := vis_bs σ base (hs.take i) cl
  have hrl := vis_rs σ base (hs.take i) cl
  rw [hti] at hbl hrl
  have hold : ∀ s : SV, σ.lt s = true → (visSt σ base (hs.take i) cl).lt s = true := fun s h => ok_mono (fun k hk => lt_blt (by have := blt_lt hk; rw [hbl]; omega)) (fun k hk => lt_blt (by have := blt_lt hk; rw [hrl]; omega)) s h
  have holdL : ∀ s : List SV, σ.ltL s = true → (visSt σ base (hs.take i) cl).ltL s = true := fun s h => okL_mono (fun k hk => lt_blt (by have := blt_lt hk; rw [hbl]; omega)) (fun k hk => lt_blt (by have := blt_lt hk; rw [hrl]; omega)) s h
  have hfitj : ∀ (j : Nat) (h : Hd), hs[j]? = some h → j < i → (visSt σ base (hs.take i) cl).lt h.out.s = true ∧ ∀ t cs, h.out.b = some (t, cs) → (visSt σ base (hs.take i) cl).ltL cs = true := fun j h hj hji => by
    obtain ⟨cl', hf⟩ := hfit j h hj
    have hjl : (hs.take j).length = j := by rw [List.length_take]; omega
    have b1 := vis_bs σ base (hs.take j) cl'
    have b2 := vis_rs σ base (hs.take j) cl'
    rw [hjl] at b1 b2
    obtain ⟨f1, f2⟩ := Bool.and_eq_true_iff.1 hf
    refine ⟨ok_mono (fun k hk => lt_blt ?_) (fun k hk => lt_blt ?_) _ f1, fun t cs e => ?_⟩
    · have h5 := blt_lt hk
      cases e : h.out.b <;> rw [e] at h5 <;> simp only [b1] at h5 <;> rw [hbl] <;> omega
    · have h5 := blt_lt hk
      cases e : h.out.r <;> rw [e] at h5 <;> simp only [b2] at h5 <;> rw [hrl] <;> omega
    · rw [e] at f2
      exact okL_mono (fun k hk => lt_blt (by have h5 := blt_lt hk; rw [b1] at h5; rw [hbl]; omega)) (fun k hk => lt_blt (by have h5 := blt_lt hk; rw [b2] at h5; rw [hrl]; omega)) cs f2
  refine ⟨h'.low, by rw [frm_size]; exact h'.size, fun k s hk => ?_, fun k t cs hk => ?_, fun k R hk => ?_, fun k hk => ?_⟩
  · rcases look_visT hk with ⟨j, h, h1, h2, rfl, rfl⟩ | h1
    · obtain ⟨h3, h4⟩ := hget j h h1
      rw [Nat.zero_add] at h2
      have h5 := (hΦ j h2 h h3).1
      have h6 := hds j h h3
      have hd : h.d < a.tmps.size := hlt _ (List.mem_of_getElem? h6)
      refine ⟨?_, (hfitj j h h3 h4).1⟩
      have h7 := idx_at (i := 0) hnd h6
      rw [Nat.zero_add] at h7
      exact frm_head hd h7 h5
    · obtain ⟨h2, h3⟩ := hbase k s h1
      obtain ⟨h4, h5⟩ := h'.ts k s h3
      refine ⟨?_, hold s h5⟩
      rw [rg_old h5]
      rcases Nat.lt_or_ge k a.tmps.size with hk2 | hk2
      · exact frm_base hk2 (idx_none h2) h4
      · rw [← h4, Array.getD_eq_getD_getElem?, Array.getD_eq_getD_getElem?, Array.getElem?_eq_none (by rw [frm_size]; exact hk2), Array.getElem?_eq_none hk2]
  · rcases nth_app2 hk with h1 | ⟨h1, h2⟩
    · obtain ⟨h3, h4⟩ := h'.bs k t cs h1
      rw [rgL_old h4, show (rg σ r γ).b k = r.b k from if_pos (nth_lt h1)]
      exact ⟨h3, holdL cs h4⟩
    · obtain ⟨h, h3, h4, h5⟩ := nth_visB h2
      obtain ⟨h6, h7⟩ := hget _ h h3
      rw [Nat.zero_add] at h4
      rw [show (rg σ r γ).b k = (γ (k - σ.bs.length)).b from if_neg (by omega)]
      exact ⟨(hΦ _ h4 h h6).2.1 t cs h5, (hfitj _ h h6 h7).2 t cs h5⟩
  · rcases nth_app2 hk with h1 | ⟨h1, h2⟩
    · rw [show (rg σ r γ).x k = r.x k from if_pos (nth_lt h1), show (rg σ r γ).S k = r.S k from if_pos (nth_lt h1)]
      exact h'.rs k R h1
    · obtain ⟨h, h3, h4, h5⟩ := nth_visR h2
      obtain ⟨h6, h7⟩ := hget _ h h3
      rw [Nat.zero_add] at h4
      have h8 := hΦ _ h4 h h6
      rw [show (rg σ r γ).x k = oneV (γ (k - σ.rs.length)).x from if_neg (by omega), show (rg σ r γ).S k = (γ (k - σ.rs.length)).S from if_neg (by omega), oneV_eq (h8.2.2.1 R h5).2]
      exact (h8.2.2.1 R h5).1
  · rcases Nat.lt_or_ge k σ.rs.length with h1 | h1
    · rw [show (rg σ r γ).x k = r.x k from if_pos h1]; exact h'.one k h1
    · rw [show (rg σ r γ).x k = oneV (γ (k - σ.rs.length)).x from if_neg (by omega)]; exact oneV_one _
/-- What is known behind the heads. -/
theorem sat_tail (hS : Sat w0 σ r a w) (hnd : ds.Nodup) (hlen : hs.length = n) (hds : ∀ (j : Nat) (h : Hd), hs[j]? = some h → ds[j]? = some h.d) (hdl : ds.length = n) (hlt : ∀ d, d ∈ ds → d < a.tmps.size)
    (hfit : ∀ (j : Nat) (h : Hd), hs[j]? = some h → ∃ cl, (visSt σ base (hs.take j) cl).fits h.out = true) {W : World} (hb : Below w.heap.size w W) {u : Nat → Value} {γ : Nat → Gh} (hΦ : ∀ j, j < n → PhiH σ r hs j u γ W)
    (hF : ∀ i, i < n → ∀ b, FrH hs i (γ i) b → w.heap.size ≤ b ∧ b < W.heap.size) (hD : ∀ i j, i < n → j < n → i ≠ j → ∀ b, FrH hs i (γ i) b → ¬ FrH hs j (γ j) b) :
    Sat w0 (tailSt σ hs) (rg σ r γ) (frm a ds u) W := by
  have h' := hS.see.later hb
  have hbl := tail_bs σ hs
  have hrl := tail_rs σ hs
  rw [hlen] at hbl hrl
  have hjn : ∀ (j : Nat) (h : Hd), hs[j]? = some h → j < n := fun j h hj => by have := (List.getElem?_eq_some_iff.1 hj).1; omega
  have hold : ∀ s : SV, σ.lt s = true → (tailSt σ hs).lt s = true := fun s h => ok_mono (fun k hk => lt_blt (by have := blt_lt hk; rw [hbl]; omega)) (fun k hk => lt_blt (by have := blt_lt hk; rw [hrl]; omega)) s h
  have holdL : ∀ s : List SV, σ.ltL s = true → (tailSt σ hs).ltL s = true := fun s h => okL_mono (fun k hk => lt_blt (by have := blt_lt hk; rw [hbl]; omega)) (fun k hk => lt_blt (by have := blt_lt hk; rw [hrl]; omega)) s h
  have hfitj : ∀ (j : Nat) (h : Hd), hs[j]? = some h → (tailSt σ hs).lt h.out.s = true ∧ ∀ t cs, h.out.b = some (t, cs) → (tailSt σ hs).ltL cs = true := fun j h hj => by
    obtain ⟨cl', hf⟩ := hfit j h hj
    have hjn := hjn j h hj
    have hjl : (hs.take j).length = j := by rw [List.length_take]; omega
    have b1 := vis_bs σ base (hs.take j) cl'
    have b2 := vis_rs σ base (hs.take j) cl'
    rw [hjl] at b1 b2
    obtain ⟨f1, f2⟩ := Bool.and_eq_true_iff.1 hf
    refine ⟨ok_mono (fun k hk => lt_blt ?_) (fun k hk => lt_blt ?_) _ f1, fun t cs e => ?_⟩
    · have h5 := blt_lt hk
      cases e : h.out.b <;> rw [e] at h5 <;> simp only [b1] at h5 <;> rw [hbl] <;> omega
    · have h5 := blt_lt hk
      cases e : h.out.r <;> rw [e] at h5 <;> simp only [b2] at h5 <;> rw [hrl] <;> omega
    · rw [e] at f2
      exact okL_mono (fun k hk => lt_blt (by have h5 := blt_lt hk; rw [b1] at h5; rw [hbl]; omega)) (fun k hk => lt_blt (by have h5 := blt_lt hk; rw [b2] at h5; rw [hrl]; omega)) cs f2
  have hbx : ∀ i p, nth σ.bs i = some p → r.b i < w.heap.size := fun i p hi => (hS.see.bs i p.1 p.2 hi).1.lt
  have hlow := hS.see.low.size
  have nb : ∀ k p, nth (tailSt σ hs).bs k = some p → (nth σ.bs k = some p ∧ (rg σ r γ).b k = r.b k) ∨ ∃ (j : Nat) (h : Hd), k = σ.bs.length + j ∧ hs[j]? = some h ∧ h.out.b = some p ∧ (rg σ r γ).b k = (γ j).b := fun k p hk => by
    rcases nth_app2 hk with h1 | ⟨h1, h2⟩
    · exact .inl ⟨h1, if_pos (nth_lt h1)⟩
    · obtain ⟨h, h3, h4⟩ := nth_tailB h2
      exact .inr ⟨k - σ.bs.length, h, by omega, h3, h4, if_neg (by omega)⟩
  have nr : ∀ k R, nth (tailSt σ hs).rs k = some R → (nth σ.rs k = some R ∧ (rg σ r γ).S k = r.S k ∧ (rg σ r γ).x k = r.x k) ∨ ∃ (j : Nat) (h : Hd), k = σ.rs.length + j ∧ hs[j]? = some h ∧ h.out.r = some R ∧ (rg σ r γ).S k = (γ j).S ∧ (rg σ r γ).x k = (γ j).x := fun k R hk => by
    rcases nth_app2 hk with h1 | ⟨h1, h2⟩
    · exact .inl ⟨h1, if_pos (nth_lt h1), if_pos (nth_lt h1)⟩
    · obtain ⟨h, h3, h4⟩ := nth_tailR h2
      refine .inr ⟨k - σ.rs.length, h, by omega, h3, h4, if_neg (by omega), ?_⟩
      rw [show (rg σ r γ).x k = oneV (γ (k - σ.rs.length)).x from if_neg (by omega), oneV_eq ((hΦ _ (hjn _ h h3) h h3).2.2.1 R h4).2]
  refine ⟨⟨h'.low, by rw [frm_size]; exact h'.size, fun k s hk => ?_, fun k t cs hk => ?_, fun k R hk => ?_, fun k hk => ?_⟩, ⟨fun i p hi => ?_, fun i j p q hi hj hne => ?_, fun i R hi b hS' => ?_, fun i j R R' hi hj hne b hS1 hS2 => ?_, fun i j p R hi hj hS' => ?_⟩, hS.defers⟩
  · rcases look_tail hk with ⟨j, h, h1, rfl, rfl⟩ | ⟨h1, h2⟩
    · have h5 := (hΦ j (hjn j h h1) h h1).1
      have h6 := hds j h h1
      have h7 := idx_at (i := 0) hnd h6
      rw [Nat.zero_add] at h7
      exact ⟨frm_head (hlt _ (List.mem_of_getElem? h6)) h7 h5, (hfitj j h h1).1⟩
    · obtain ⟨h4, h5⟩ := h'.ts k s h2
      refine ⟨?_, hold s h5⟩
      rw [rg_old h5]
      have hnot : k ∉ ds := fun hm => by
        obtain ⟨j, hj, e⟩ := List.getElem_of_mem hm
        have h6 : j < hs.length := by omega
        have h7 := hds j hs[j] (by simp [h6])
        rw [List.getElem?_eq_getElem hj] at h7
        exact h1 j hs[j] (by simp [h6]) (by rw [← e]; exact (Option.some.inj h7).symm)
      rcases Nat.lt_or_ge k a.tmps.size with hk2 | hk2
      · exact frm_base hk2 (idx_none hnot) h4
      · rw [← h4, Array.getD_eq_getD_getElem?, Array.getD_eq_getD_getElem?, Array.getElem?_eq_none (by rw [frm_size]; exact hk2), Array.getElem?_eq_none hk2]
  · rcases nb k _ hk with ⟨h1, h2⟩ | ⟨j, h, rfl, h1, h2, h3⟩
    · obtain ⟨h3, h4⟩ := h'.bs k t cs h1
      rw [rgL_old h4, h2]
      exact ⟨h3, holdL cs h4⟩
    · rw [h3]
      exact ⟨(hΦ j (hjn j h h1) h h1).2.1 t cs h2, (hfitj j h h1).2 t cs h2⟩
  · rcases nr k R hk with ⟨h1, h2, h3⟩ | ⟨j, h, rfl, h1, h2, h3, h4⟩
    · rw [h2, h3]; exact h'.rs k R h1
    · rw [h3, h4]; exact ((hΦ j (hjn j h h1) h h1).2.2.1 R h2).1
  · rcases Nat.lt_or_ge k σ.rs.length with h1 | h1
    · rw [show (rg σ r γ).x k = r.x k from if_pos h1]; exact h'.one k h1
    · rw [show (rg σ r γ).x k = oneV (γ (k - σ.rs.length)).x from if_neg (by omega)]; exact oneV_one _
  · rcases nb i p hi with ⟨h1, h2⟩ | ⟨j, h, rfl, h1, h2, h3⟩
    · rw [h2]; exact hS.sep.own i p h1
    · rw [h3]; have := (hF j (hjn j h h1) _ ⟨h, h1, .inl ⟨p, h2, rfl⟩⟩).1; omega
  · rcases nb i p hi with ⟨h1, h2⟩ | ⟨k, h, rfl, h1, h2, h3⟩ <;> rcases nb j q hj with ⟨g1, g2⟩ | ⟨m, g, rfl, g1, g2, g3⟩
    · rw [h2, g2]; exact hS.sep.inj i j p q h1 g1 hne
    · rw [h2, g3]; have := (hF m (hjn m g g1) _ ⟨g, g1, .inl ⟨q, g2, rfl⟩⟩).1; have := hbx i p h1; omega
    · rw [h3, g2]; have := (hF k (hjn k h h1) _ ⟨h, h1, .inl ⟨p, h2, rfl⟩⟩).1; have := hbx j q g1; omega
    · rw [h3, g3]
      have hkm : k ≠ m := fun e => hne (by rw [e])
      intro e
      exact hD k m (hjn k h h1) (hjn m g g1) hkm _ ⟨h, h1, .inl ⟨p, h2, rfl⟩⟩ ⟨g, g1, .inl ⟨q, g2, e⟩⟩
  · rcases nr i R hi with ⟨h1, h2, h3⟩ | ⟨j, h, rfl, h1, h2, h3, h4⟩
    · rw [h2] at hS'; exact hS.sep.ownS i R h1 b hS'
    · rw [h3] at hS'; have := (hF j (hjn j h h1) _ ⟨h, h1, .inr ⟨R, h2, hS'⟩⟩).1; omega
  · rcases nr i R hi with ⟨h1, h2, _⟩ | ⟨k, h, rfl, h1, h2, h3, _⟩ <;> rcases nr j R' hj with ⟨g1, g2, _⟩ | ⟨m, g, rfl, g1, g2, g3, _⟩
    · rw [h2] at hS1; rw [g2] at hS2; exact hS.sep.disj i j R R' h1 g1 hne b hS1 hS2
    · rw [h2] at hS1; rw [g3] at hS2
      have := (hF m (hjn m g g1) _ ⟨g, g1, .inr ⟨R', g2, hS2⟩⟩).1; have := (hS.see.rs i R h1).2 b hS1; omega
    · rw [h3] at hS1; rw [g2] at hS2
      have := (hF k (hjn k h h1) _ ⟨h, h1, .inr ⟨R, h2, hS1⟩⟩).1; have := (hS.see.rs j R' g1).2 b hS2; omega
    · rw [h3] at hS1; rw [g3] at hS2
      have hkm : k ≠ m := fun e => hne (by rw [e])
      exact hD k m (hjn k h h1) (hjn m g g1) hkm _ ⟨h, h1, .inr ⟨R, h2, hS1⟩⟩ ⟨g, g1, .inr ⟨R', g2, hS2⟩⟩
  · rcases nb i p hi with ⟨h1, h2⟩ | ⟨k, h, rfl, h1, h2, h3⟩ <;> rcases nr j R hj with ⟨g1, g2, _⟩ | ⟨m, g, rfl, g1, g2, g3, _⟩
    · rw [h2, g2] at hS'; exact hS.sep.apart i j p R h1 g1 hS'
    · rw [h2, g3] at hS'
      have := (hF m (hjn m g g1) _ ⟨g, g1, .inr ⟨R, g2, hS'⟩⟩).1; have := hbx i p h1; omega
    · rw [h3, g2] at hS'
      have := (hF k (hjn k h h1) _ ⟨h, h1, .inl ⟨p, h2, rfl⟩⟩).1; have := (hS.see.rs j R g1).2 _ hS'; omega
    · rw [h3, g3] at hS'
      by_cases e : k = m
      · subst e
        obtain rfl := Option.some.inj (h1.symm.trans g1)
        exact (hΦ k (hjn k h h1) h h1).2.2.2 p R h2 g2 hS'
      · exact hD k m (hjn k h h1) (hjn m g g1) e _ ⟨h, h1, .inl ⟨p, h2, rfl⟩⟩ ⟨g, g1, .inr ⟨R, g2, hS'⟩⟩
theorem rch_lt {ops : Array Oper} {n : Nat} (hB : (List.range n).all (fun i => (waits ops i).all (· < i)) = true) {i j : Nat} (h : Rch ops i j) : i < n → j < i := by
  have hw : ∀ a k, a < n → k ∈ waits ops a → k < a := fun a k ha hk => by
    have h1 := List.all_eq_true.1 hB a (List.mem_range.2 ha)
    simpa using List.all_eq_true.1 h1 _ hk
  induction h with
  | one h => exact fun ha => hw _ _ ha h
  | more h _ ih =>
    intro ha
    have h1 := hw _ _ ha h
    have := ih (by omega)
    omega
theorem regionK_ok (hT : TTOk P tt) (hm : P.follows .mixedOrders = true) {id : Nat} {d : List Dir} {K : St → List Dir → Prop} (h : regionK P tt w0 id ops σ d K) : ∃ σ' d', K σ' d' ∧
    ∀ r a w, Sat w0 σ r a w → ∀ (Q : Exit → Act → World → Prop), (∀ (d : Tmp) (v : Value) c a w, Q (.panic c) (a.put (some d) v) w → Q (.panic c) a w) → (∀ r' a' w', Sat w0 σ' r' a' w' → Q .normal a' w') → (Code.region id ops true).wp P Q a w := by
  obtain ⟨l⟩ := ops
  unfold regionK at h
  split at h
  case h_2 => exact h.elim
  rename_i n late d0
  dsimp only at h
  obtain ⟨hc, h⟩ := ifB_spec h
  obtain ⟨hs, d1, hK, hlen, _, hok⟩ := headsK_ok hT n l 0 [] d0 (fun j => by rw [Nat.zero_add]; simp) rfl (fun k x hk => by simp at hk) h
  rw [Nat.zero_add] at hlen
  obtain ⟨σ', d', h3, hl⟩ := execL_ok hT (l.drop n) n (tailSt σ hs) d1 K hK
  refine ⟨σ', d', h3, fun r a w hS Q hQ hend => ?_⟩
  have hok' : ∀ j, j < n → ∃ (x : Hd) (o : Oper), hs[j]? = some x ∧ l[j]? = some o ∧ HOk P w0 l.toArray late σ (hideT (dsOf l n) σ.ts) hs j x o := fun j hj => by
    obtain ⟨x, o, h1, h2, h4⟩ := hok j (Nat.zero_le _) (by omega)
    exact ⟨x, o, h1, by simpa using h2, h4⟩
  have hokx : ∀ (j : Nat) (x : Hd), hs[j]? = some x → j < n ∧ ∃ o, l[j]? = some o ∧ HOk P w0 l.toArray late σ (hideT (dsOf l n) σ.ts) hs j x o := fun j x hx => by
    have hj : j < n := by have := (List.getElem?_eq_some_iff.1 hx).1; omega
    obtain ⟨y, o, h1, h2, h4⟩ := hok' j hj
    obtain rfl := Option.some.inj (hx.symm.trans h1)
    exact ⟨hj, o, h2, h4⟩
  simp only [okB, Bool.and_eq_true] at hc
  obtain ⟨⟨⟨⟨c1, c2⟩, c3⟩, c4⟩, c5⟩ := hc
  obtain ⟨hdl, hda⟩ := dsOf_at (l := l) (n := n) fun j hj => by
    obtain ⟨x, o, _, h2, h4⟩ := hok' j hj
    exact ⟨o, x.d, h2, h4.1⟩
  have hnd := nodup_of c3
  have hds : ∀ (j : Nat) (x : Hd), hs[j]? = some x → (dsOf l n)[j]? = some x.d := fun j x hx => by
    obtain ⟨hj, o, h2, h4⟩ := hokx j x hx
    exact hda j o x.d hj h2 h4.1
  have hlt : ∀ d, d ∈ dsOf l n → d < a.tmps.size := fun d hd => by
    rw [hS.see.size]; simpa using List.all_eq_true.1 c4 d hd
  have hfit : ∀ (j : Nat) (x : Hd), hs[j]? = some x → ∃ cl, (visSt σ (hideT (dsOf l n) σ.ts) (hs.take j) cl).fits x.out = true := fun j x hx => by
    obtain ⟨_, o, _, h4⟩ := hokx j x hx
    exact ⟨x.cl, h4.2.2.1⟩
  have hback : (List.range n).all (fun i => (waits l.toArray i).all (· < i)) = true := by
    have c1' := c1
    simp only [growB, Bool.and_eq_true] at c1'
    rw [hdl] at c1'
    exact c1'.1.2
  have hsee : ∀ i x, hs[i]? = some x → (∀ j, j ∈ x.cl → Rch l.toArray i j) → ∀ u γ W, Below w.heap.size w W → (∀ j, Rch l.toArray i j → PhiH σ r hs j u γ W) → See w0 (visSt σ (hideT (dsOf l n) σ.ts) (hs.take i) x.cl) (rg σ r γ) (frm a (dsOf l n) u) W := fun i x hx hcl u γ W hb hΦ =>
    see_vis hS.see (fun k s hk => look_hide hk) hnd hlen hds hdl hlt hfit (hokx i x hx).1 (fun j hj => rch_lt hback (hcl j hj) (hokx i x hx).1) hb (fun j hj => hΦ j (hcl j hj))
  have hlenv : ∀ i x, hs[i]? = some x → (visSt σ (hideT (dsOf l n) σ.ts) (hs.take i) x.cl).bs.length = σ.bs.length + i ∧ (visSt σ (hideT (dsOf l n) σ.ts) (hs.take i) x.cl).rs.length = σ.rs.length + i := fun i x hx => by
    have hi := (hokx i x hx).1
    have hti : (hs.take i).length = i := by rw [List.length_take]; omega
    rw [vis_bs, vis_rs, hti]; exact ⟨rfl, rfl⟩
  refine wp_region_gh (Γ := Gh) (l := l) (dsOf l n) (fun W => Below w.heap.size w W) (PhiH σ r hs) (FrH hs) (fun _ => Gh.no) (fun i => !late.contains i) hm c1 hQ c2 c3 (List.all_eq_true.2 fun d hd => by simpa using hlt d hd) (Below.refl _ _).drew ?hst ?hcg ?hop ?hlate ?htail
  case hst =>
    intro i u γ W W' _ hb hΦ x hx
    obtain ⟨p1, p2, p3, p4⟩ := hΦ x hx
    exact ⟨p1, fun t cs e => (p2 t cs e).later hb, fun R e => ⟨⟨R.loc _ _ _ _ (fun b hb' => hb.block b ((p3 R e).1.2 b hb')) (p3 R e).1.1, fun b hb' => Nat.lt_of_lt_of_le ((p3 R e).1.2 b hb') hb.size⟩, (p3 R e).2⟩, p4⟩
  case hcg =>
    intro i u u' γ γ' W hi hu hΦ x hx
    obtain ⟨_, o, _, ok⟩ := hokx i x hx
    obtain ⟨p1, p2, p3, p4⟩ := hΦ x hx
    have hγ : ∀ j, j ∈ i :: x.cl → γ j = γ' j := fun j hj => by
      rcases List.mem_cons.1 hj with rfl | hj
      · exact (hu j (.inl rfl)).2
      · exact (hu j (.inr (ok.2.1 j hj))).2
    have hi' := hu i (.inl rfl)
    obtain ⟨f1, f2⟩ := Bool.and_eq_true_iff.1 ok.2.2.2.1
    rw [← hi'.1, ← hi'.2]
    refine ⟨by rw [p1]; exact den_congr (fun k hk => rg_b hγ hk) (fun k hk => rg_x hγ hk) _ f1, fun t cs e => ?_, p3, p4⟩
    rw [e] at f2
    rw [← denL_congr (r := rg σ r γ) (fun k hk => rg_b (fun j hj => hγ j (List.mem_cons_of_mem _ hj)) hk) (fun k hk => rg_x (fun j hj => hγ j (List.mem_cons_of_mem _ hj)) hk) cs f2]
    exact p2 t cs e
  case hop =>
    intro i hi o ho u γ W hG hΦ Q' K' hK'
    obtain ⟨x, o', hx, ho', ok⟩ := hok' i (by omega)
    have eo : o' = o := Option.some.inj (ho'.symm.trans (by simpa using ho))
    subst eo
    obtain ⟨k1, k2, k3, k4, k5⟩ := ok
    have see := hsee i x hx k2 u γ W hG hΦ
    obtain ⟨l1, l2⟩ := hlenv i x hx
    have hadd : ∀ g : Gh, g.x.oneCell' = true → rg σ r (upd γ i g) = (rg σ r γ).add' (visSt σ (hideT (dsOf l n) σ.ts) (hs.take i) x.cl) g := fun g hg => by
      unfold Env.add'
      rw [rg_upd hg, l1, l2]
    have hno : ∀ v w', x.out.b = none → x.out.r = none → v = x.out.s.den (rg σ r γ) → Below W.heap.size W w' → K' ((frm a (dsOf l n) u).put o'.dst v) w' := fun v w' e1 e2 hv hb => by
      refine hK' v (γ i) w' hb (nxt hG hb) ?_ ?_
      · intro y hy
        obtain rfl := Option.some.inj (hx.symm.trans hy)
        have eγ : upd γ i (γ i) = γ := by funext k; unfold upd; split <;> simp_all
        rw [eγ, upd_at]
        exact ⟨hv, fun t cs e => (by rw [e1] at e; cases e), fun R e => (by rw [e2] at e; cases e), fun p R e => (by rw [e1] at e; cases e)⟩
      · rintro b ⟨y, hy, hc⟩
        obtain rfl := Option.some.inj (hx.symm.trans hy)
        rcases hc with ⟨p, e, _⟩ | ⟨R, e, _⟩
        · rw [e1] at e; cases e
        · rw [e2] at e; cases e
    rcases k5 with ⟨kw, ⟨_, kq⟩ | ⟨_, e1, e2, kr⟩⟩ | ⟨kw, _, ke⟩
    · rw [if_pos (kw _ _ _ see)]
      refine kq _ _ _ see Q' K' ?_
      rintro out g w' rfl hb hmade
      refine hK' _ g w' hb (nxt hG hb) ?_ ?_
      · intro y hy
        obtain rfl := Option.some.inj (hx.symm.trans hy)
        rw [upd_at, upd_at, hadd g hmade.one]
        exact ⟨rfl, fun t cs e => (hmade.b t cs e).1, fun R e => ⟨⟨(hmade.r R e).1, fun b hb' => ((hmade.r R e).2 b hb').2⟩, hmade.one⟩, hmade.apart⟩
      · rintro b ⟨y, hy, hc⟩
        obtain rfl := Option.some.inj (hx.symm.trans hy)
        rcases hc with ⟨p, e, rfl⟩ | ⟨R, e, hb'⟩
        · exact ⟨(hmade.b p.1 p.2 e).2, (hmade.b p.1 p.2 e).1.lt⟩
        · exact (hmade.r R e).2 b hb'
    · rw [if_pos (kw _ _ _ see)]
      unfold Oper.wp
      rw [kr _ _ _ see]
      exact hno _ _ e1 e2 rfl (Below.refl _ _)
    · rw [if_neg (by rw [kw _ _ _ see]; simp)]
      exact hno undef W (by rw [ke]; rfl) (by rw [ke]; rfl) (by rw [ke]; rfl) (Below.refl _ _)
  case hlate =>
    intro i hi hst
    obtain ⟨x, o', hx, ho', ok⟩ := hok' i (by omega)
    obtain ⟨k1, k2, k3, k4, k5⟩ := ok
    have hml : memB i late = true := by
      refine memB_mem.2 ?_
      simpa using hst
    rcases k5 with ⟨kw, ⟨e, _⟩ | ⟨_, e1, e2, kr⟩⟩ | ⟨_, e, _⟩
    · rw [hml] at e; cases e
    · refine ⟨?_, fun o ho u γ W hG hΦ => ?_⟩
      · rintro g b ⟨y, hy, hc⟩
        obtain rfl := Option.some.inj (hx.symm.trans hy)
        rcases hc with ⟨p, e, _⟩ | ⟨R, e, _⟩
        · rw [e1] at e; cases e
        · rw [e2] at e; cases e
      · have eo : o' = o := Option.some.inj (ho'.symm.trans (by simpa using ho))
        subst eo
        have see := hsee i x hx k2 u γ W hG hΦ
        refine ⟨_, .inl ⟨kw _ _ _ see, fun w' => kr _ _ _ see w'⟩, ?_⟩
        intro y hy
        obtain rfl := Option.some.inj (hx.symm.trans hy)
        rw [upd_at]
        exact ⟨rfl, fun t cs e => (by rw [e1] at e; cases e), fun R e => (by rw [e2] at e; cases e), fun p R e => (by rw [e1] at e; cases e)⟩
    · rw [hml] at e; cases e
  case htail =>
    intro u γ W hG hΦ hF hD
    rw [hdl] at hΦ hF hD ⊢
    exact hl _ _ _ (sat_tail hS hnd hlen hds hdl hlt hfit hG hΦ hF hD) Q hend
end
end Go.Proofs.YtchfglbkiebfpaaGreatDoor

namespace Go.Proofs.YtchfglbkiebfpaaGreatDoor
open Go Go.RowKit

inductive Ex where
  | normal
  | exit (id : Nat)
  | ret
def Ex.to : Ex → Exit
  | .normal => .normal
  | .exit id => .exit id
  | .ret => .ret
/-- Two values are the same. -/
def sameN (a b : Value) (p : Prop) : Prop := match a with
  | .int k x => (match b with
    | .int k' y => ifB (kindB k k') (x = y ∧ p)
    | _ => False)
  | .bool x => (match b with
    | .bool y => x = y ∧ p
    | _ => False)
  | .string x => (match b with
    | .string y => x = y ∧ p
    | _ => False)
  | a => a = b ∧ p
theorem sameN_spec {a b : Value} {p : Prop} (h : sameN a b p) : a = b ∧ p := by
  unfold sameN at h
  split at h
  · split at h
    · obtain ⟨hk, e, h2⟩ := ifB_spec h
      rw [kindB_eq hk, e]; exact ⟨rfl, h2⟩
    · exact h.elim
  · split at h
    · obtain ⟨rfl, h⟩ := h; exact ⟨rfl, h⟩
    · exact h.elim
  · split at h
    · obtain ⟨rfl, h⟩ := h; exact ⟨rfl, h⟩
    · exact h.elim
  · exact h
mutual
def sameS (s u : SV) (p : Prop) : Prop := match s with
  | .val a => (match u with
    | .val b => sameN a b p
    | _ => False)
  | .ptr b o => (match u with
    | .ptr b' o' => ifB (Nat.beq b b' && Nat.beq o o') p
    | _ => False)
  | .sli b o n c => (match u with
    | .sli b' o' n' c' => ifB (Nat.beq b b' && Nat.beq o o' && Nat.beq n n' && Nat.beq c c') p
    | _ => False)
  | .clo f l m => (match u with
    | .clo f' l' m' => f = f' ∧ sameL l l' (sameL m m' p)
    | _ => False)
  | .agg l => (match u with
    | .agg m => sameL l m p
    | _ => False)
  | .tup l => (match u with
    | .tup m => sameL l m p
    | _ => False)
  | .han i => (match u with
    | .han j => ifB (Nat.beq i j) p
    | _ => False)
def sameL (l m : List SV) (p : Prop) : Prop := match l with
  | [] => (match m with
    | [] => p
    | _ => False)
  | s :: l => (match m with
    | u :: m => sameS s u (sameL l m p)
    | _ => False)
end
mutual
theorem sameS_spec : ∀ (s u : SV) (p : Prop), sameS s u p → s = u ∧ p
  | .val a, u, p, h => by
    cases u <;> first | exact False.elim h | skip
    obtain ⟨e, h2⟩ := sameN_spec (show sameN a _ p from h)
    rw [e]; exact ⟨rfl, h2⟩
  | .ptr b o, u, p, h => by
    cases u <;> first | exact False.elim h | skip
    obtain ⟨hk, h⟩ := ifB_spec (show ifB _ p from h)
    obtain ⟨h1, h2⟩ := Bool.and_eq_true_iff.1 hk
    rw [Nat.eq_of_beq_eq_true h1, Nat.eq_of_beq_eq_true h2]; exact ⟨rfl, h⟩
  | .sli b o n c, u, p, h => by
    cases u <;> first | exact False.elim h | skip
    obtain ⟨hk, h⟩ := ifB_spec (show ifB _ p from h)
    obtain ⟨hk, h4⟩ := Bool.and_eq_true_iff.1 hk
    obtain ⟨hk, h3⟩ := Bool.and_eq_true_iff.1 hk
    obtain ⟨h1, h2⟩ := Bool.and_eq_true_iff.1 hk
    rw [Nat.eq_of_beq_eq_true h1, Nat.eq_of_beq_eq_true h2, Nat.eq_of_beq_eq_true h3, Nat.eq_of_beq_eq_true h4]; exact ⟨rfl, h⟩
  | .clo f l m, u, p, h => by
    cases u <;> first | exact False.elim h | skip
    obtain ⟨e1, h2⟩ := (show _ = _ ∧ sameL l _ (sameL m _ p) from h)
    obtain ⟨e2, h3⟩ := sameL_spec l _ _ h2
    obtain ⟨e3, h4⟩ := sameL_spec m _ _ h3
    rw [e1, e2, e3]; exact ⟨rfl, h4⟩
  | .agg l, u, p, h => by
    cases u <;> first | exact False.elim h | skip
    obtain ⟨e, h2⟩ := sameL_spec l _ p h
    rw [e]; exact ⟨rfl, h2⟩
  | .tup l, u, p, h => by
    cases u <;> first | exact False.elim h | skip
    obtain ⟨e, h2⟩ := sameL_spec l _ p h
    rw [e]; exact ⟨rfl, h2⟩
  | .han i, u, p, h => by
    cases u <;> first | exact False.elim h | skip
    obtain ⟨hk, h⟩ := ifB_spec (show ifB _ p from h)
    rw [Nat.eq_of_beq_eq_true hk]; exact ⟨rfl, h⟩
theorem sameL_spec : ∀ (l m : List SV) (p : Prop), sameL l m p → l = m ∧ p
  | [], m, p, h => by
    cases m <;> first | exact ⟨rfl, h⟩ | exact False.elim h
  | s :: l, m, p, h => by
    cases m with
    | nil => exact False.elim h
    | cons u m =>
      obtain ⟨e1, h2⟩ := sameS_spec s u _ h
      obtain ⟨e2, h3⟩ := sameL_spec l m p h2
      rw [e1, e2]; exact ⟨rfl, h3⟩
end
def subT (σ τ : St) : List (Nat × SV) → Prop → Prop
  | [], p => p
  | (k, s) :: l, p => match look k σ.ts with
    | some u => ifB (τ.lt s) (sameS u s (subT σ τ l p))
    | none => False
def subB (τ : St) : List (Option (TypeId × List SV)) → List (Option (TypeId × List SV)) → Prop → Prop
  | _, [], p => p
  | [], _ :: _, _ => False
  | _ :: l, none :: m, p => subB τ l m p
  | x :: l, some (t, cs) :: m, p => match x with
    | some (u, ds) => ifB (Nat.beq u t && τ.ltL cs) (sameL ds cs (subB τ l m p))
    | none => False
def subR : List (Option Res) → List (Option Res) → Prop → Prop
  | _, [], p => p
  | [], _ :: _, _ => False
  | _ :: l, none :: m, p => subR l m p
  | x :: l, some R :: m, p => match x with
    | some R' => (∀ v S w, R'.φ v S w → R.φ v S w) ∧ subR l m p
    | none => False
/-- What is known in τ is known in σ. -/
def subK (σ τ : St) (p : Prop) : Prop := ifB (Nat.beq σ.n τ.n) (subT σ τ τ.ts (subB τ σ.bs τ.bs (subR σ.rs τ.rs p)))
def CodeOk (P : Program) (w0 : World) (c : Code) (σ σ' : St) : Prop := ∀ r a w, Sat w0 σ r a w → c.wp P (fun e a' w' => (match e with | .normal => True | _ => False) ∧ ∃ r', Sat w0 σ' r' a' w') a w
def exec (P : Program) (tt : List (Nat × TI)) (w0 : World) : Code → St → List Dir → (Ex → St → List Dir → Prop) → Prop
  | .skip, σ, d, K => K .normal σ d
  | .region id ops dr, σ, d, K => (match dr with
    | true => regionK P tt w0 id ops σ d fun σ d => K .normal σ d
    | false => execL P tt w0 id ops ops.toList 0 σ d fun σ d => K .normal σ d)
  | .seq a b, σ, d, K => exec P tt w0 a σ d fun e σ d => match e with
    | .normal => exec P tt w0 b σ d K
    | .exit id => K (.exit id) σ d
    | .ret => K .ret σ d
  | .cond c x y, σ, d, K => evK σ c fun s => match s with
    | .val (.bool v) => (match d with
      | .br b :: d => v = b ∧ (match b with
        | true => exec P tt w0 x σ d K
        | false => exec P tt w0 y σ d K)
      | .both dx dy :: _ => (v = true → exec P tt w0 x σ dx K) ∧ (v = false → exec P tt w0 y σ dy K)
      | d => (match v with
        | true => exec P tt w0 x σ d K
        | false => exec P tt w0 y σ d K))
    | _ => False
  | .block id b, σ, d, K => exec P tt w0 b σ d fun e σ d => match e with
    | .normal => K .normal σ d
    | .exit i => (match Nat.beq i id with
      | true => K .normal σ d
      | false => K (.exit i) σ d)
    | .ret => K .ret σ d
  | .loop b, σ, d, K => (match d with
    | .loop I C μ a0 nx bd :: _ => subK σ (I a0) (C a0 ∧ ∀ a, C a → exec P tt w0 b (I a) (bd a) fun e σ' d' => match e with
      | .normal => (match d' with
        | .next k :: _ => subK σ' (I (nx a k)) (C (nx a k) ∧ μ (nx a k) < μ a)
        | _ => False)
      | .exit id => K (.exit id) σ' d'
      | .ret => K .ret σ' d')
    | .code σ' :: d => CodeOk P w0 (.loop b) σ σ' ∧ K .normal σ' d
    | _ => False)
  | .exit id, σ, d, K => K (.exit id) σ d
  | .ret, σ, d, K => K .ret σ d
  | .label _, σ, d, K => K .normal σ d
  | _, _, _, _ => False
section
variable {P : Program} {tt : List (Nat × TI)} {w0 : World}
theorem subT_spec {σ τ : St} : ∀ {l : List (Nat × SV)} {p : Prop}, subT σ τ l p → p ∧ ∀ k s, look k l = some s → look k σ.ts = some s ∧ τ.lt s = true
  | [], p, h => ⟨h, fun _ _ h => by cases h⟩
  | (j, u) :: l, p, h => by
    unfold subT at h
    split at h
    · rename_i y hy
      obtain ⟨h1, h2⟩ := ifB_spec h
      obtain ⟨rfl, h3⟩ := sameS_spec _ _ _ h2
      obtain ⟨h4, h5⟩ := subT_spec (l := l) h3
      refine ⟨h4, fun k s hk => ?_⟩
      unfold look at hk
      cases e : Nat.beq j k with
      | true =>
        rw [e] at hk
        obtain rfl := Option.some.inj hk
        rw [← Nat.eq_of_beq_eq_true e]
        exact ⟨hy, h1⟩
      | false => rw [e] at hk; exact h5 k s hk
    · exact h.elim
theorem subB_spec {τ : St} : ∀ {l m : List (Option (TypeId × List SV))} {p : Prop}, subB τ l m p → p ∧ m.length ≤ l.length ∧ ∀ i t cs, nth m i = some (t, cs) → nth l i = some (t, cs) ∧ τ.ltL cs = true
  | l, [], p, h => ⟨(by cases l <;> exact h), Nat.zero_le _, fun _ _ _ h => by cases h⟩
  | [], _ :: _, p, h => False.elim h
  | x :: l, none :: m, p, h => by
    obtain ⟨h1, h2, h3⟩ := subB_spec (l := l) (m := m) h
    refine ⟨h1, Nat.succ_le_succ h2, fun i t cs hi => ?_⟩
    cases i with
    | zero => cases hi
    | succ i => exact h3 i t cs hi
  | x :: l, some (t, cs) :: m, p, h => by
    unfold subB at h
    split at h
    · rename_i u ds
      obtain ⟨hk, h⟩ := ifB_spec h
      obtain ⟨k1, k2⟩ := Bool.and_eq_true_iff.1 hk
      obtain ⟨e1, h4⟩ := sameL_spec _ _ _ h
      have e2 := Nat.eq_of_beq_eq_true k1
      obtain ⟨h1, h2, h3⟩ := subB_spec (l := l) (m := m) h4
      refine ⟨h1, Nat.succ_le_succ h2, fun i t' cs' hi => ?_⟩
      cases i with
      | zero =>
        have e : (t, cs) = (t', cs') := Option.some.inj hi
        obtain ⟨rfl, rfl⟩ := Prod.mk.inj e
        rw [e1, e2]
        exact ⟨rfl, k2⟩
      | succ i => exact h3 i t' cs' hi
    · exact h.elim
theorem subR_spec : ∀ {l m : List (Option Res)} {p : Prop}, subR l m p → p ∧ m.length ≤ l.length ∧ ∀ i R, nth m i = some R → ∃ R', nth l i = some R' ∧ ∀ v S w, R'.φ v S w → R.φ v S w
  | l, [], p, h => ⟨(by cases l <;> exact h), Nat.zero_le _, fun _ _ h => by cases h⟩
  | [], _ :: _, p, h => False.elim h
  | x :: l, none :: m, p, h => by
    obtain ⟨h1, h2, h3⟩ := subR_spec (l := l) (m := m) h
    refine ⟨h1, Nat.succ_le_succ h2, fun i R hi => ?_⟩
    cases i with
    | zero => cases hi
    | succ i => exact h3 i R hi
  | x :: l, some R :: m, p, h => by
    unfold subR at h
    split at h
    · rename_i R'
      obtain ⟨h1, h2, h3⟩ := subR_spec (l := l) (m := m) h.2
      refine ⟨h1, Nat.succ_le_succ h2, fun i R2 hi => ?_⟩
      cases i with
      | zero =>
        obtain rfl := Option.some.inj hi
        exact ⟨R', rfl, h.1⟩
      | succ i => exact h3 i R2 hi
    · exact h.elim
theorem subK_spec {σ τ : St} {p : Prop} (h : subK σ τ p) : p ∧ ∀ r a w, Sat w0 σ r a w → Sat w0 τ r a w := by
  obtain ⟨hn, h⟩ := ifB_spec h
  obtain ⟨h, ht⟩ := subT_spec h
  obtain ⟨h, bl, hb⟩ := subB_spec h
  obtain ⟨h, rl, hr⟩ := subR_spec h
  refine ⟨h, fun r a w hS => ⟨⟨hS.see.low, hS.see.size.trans (Nat.eq_of_beq_eq_true hn), fun k s hk => ?_, fun i t cs hi => ?_, fun i R hi => ?_, fun i hi => hS.see.one i (Nat.lt_of_lt_of_le hi rl)⟩, ⟨fun i p hi => ?_, fun i j p q hi hj => ?_, fun i R hi => ?_, fun i j R R' hi hj => ?_, fun i j p R hi hj => ?_⟩, hS.defers⟩⟩
  · obtain ⟨h1, h2⟩ := ht k s hk
    exact ⟨(hS.see.ts k s h1).1, h2⟩
  · obtain ⟨h1, h2⟩ := hb i t cs hi
    exact ⟨(hS.see.bs i t cs h1).1, h2⟩
  · obtain ⟨R', h1, h2⟩ := hr i R hi
    obtain ⟨h3, h4⟩ := hS.see.rs i R' h1
    exact ⟨h2 _ _ _ h3, h4⟩
  · exact hS.sep.own i p (hb i p.1 p.2 hi).1
  · exact hS.sep.inj i j p q (hb i p.1 p.2 hi).1 (hb j q.1 q.2 hj).1
  · obtain ⟨R', h1, _⟩ := hr i R hi
    exact hS.sep.ownS i R' h1
  · obtain ⟨_, h1, _⟩ := hr i R hi
    obtain ⟨_, h2, _⟩ := hr j R' hj
    exact hS.sep.disj i j _ _ h1 h2
  · obtain ⟨_, h2, _⟩ := hr j R hj
    exact hS.sep.apart i j p _ (hb i p.1 p.2 hi).1 h2
/-- A loop, by what holds at each round's head. -/
theorem wp_loop_gen {α : Type} {c : Code} {Q : Exit → Act → World → Prop} (J : α → Act → World → Prop) (μ : α → Nat) (round : ∀ x a w, J x a w → c.wp P (Exit.then (fun a' w' => ∃ y, J y a' w' ∧ μ y < μ x) Q) a w) (x0 : α) {a : Act} {w : World} (h0 : J x0 a w) : (Code.loop c).wp P Q a w := by
  intro b k cs
  have key : ∀ n x a w, μ x = n → J x a w → ∃ e a' w', Q e a' w' ∧ Arrives P (lone (b.at a (.code c :: .inLoop c :: k)) cs w) b k cs e a' w' := by
    intro n
    induction n using Nat.strongRecOn with
    | _ n ih =>
      intro x a w hn hI
      obtain ⟨e, a₁, w₁, hq, harr⟩ := round x a w hI b (.inLoop c :: k) cs
      cases e with
      | normal =>
        obtain ⟨y, hI₁, hlt⟩ := hq
        obtain ⟨e₂, a₂, w₂, hq₂, harr₂⟩ := ih (μ y) (hn ▸ hlt) y a₁ w₁ rfl hI₁
        exact ⟨e₂, a₂, w₂, hq₂, .of_steps (Steps.trans harr (.one step_inLoop)) harr₂⟩
      | exit id => exact ⟨_, a₁, w₁, hq, .pass (x := .inLoop c) rfl (fun _ _ => .inl (by simp)) harr⟩
      | goto l => exact ⟨_, a₁, w₁, hq, .pass (x := .inLoop c) rfl (fun _ _ => .inl (by simp)) harr⟩
      | ret => exact ⟨_, a₁, w₁, hq, .pass (x := .inLoop c) rfl (fun _ _ => .inl (by simp)) harr⟩
      | panic ch => exact ⟨_, a₁, w₁, hq, .pass (x := .inLoop c) rfl (fun _ _ => .inl (by simp)) harr⟩
      | outgrown => exact ⟨_, a₁, w₁, hq, .pass (x := .inLoop c) rfl (fun _ _ => .inl (by simp)) harr⟩
  obtain ⟨e, a', w', hq, harr⟩ := key _ x0 a w rfl h0
  exact ⟨e, a', w', hq, .of_steps (.one step_loop) harr⟩
def PanicOk (Q : Exit → Act → World → Prop) : Prop := ∀ (d : Tmp) (v : Value) c a w, Q (.panic c) (a.put (some d) v) w → Q (.panic c) a w
theorem exec_ok (hT : TTOk P tt) (hm : P.follows .mixedOrders = true) : ∀ (c : Code) (σ : St) (d : List Dir) (K : Ex → St → List Dir → Prop), exec P tt w0 c σ d K → ∀ r a w, Sat w0 σ r a w → ∀ (Q : Exit → Act → World → Prop), PanicOk Q →
    (∀ e σ' d' r' a' w', K e σ' d' → Sat w0 σ' r' a' w' → Q e.to a' w') → c.wp P Q a w := by
  intro c
  induction c with
  | skip => exact fun σ d K h r a w hS Q _ hK => wp_skip (hK _ _ _ _ _ _ h hS)
  | region id ops dr =>
    intro σ d K h r a w hS Q hQ hK
    cases dr with
    | true =>
      obtain ⟨σ', d', h1, h2⟩ := regionK_ok hT hm (show regionK P tt w0 id ops σ d _ from h)
      exact h2 r a w hS Q hQ fun r' a' w' hS' => hK _ _ _ _ _ _ h1 hS'
    | false =>
      obtain ⟨σ', d', h1, h2⟩ := execL_ok hT ops.toList 0 σ d _ (show execL P tt w0 id ops ops.toList 0 σ d _ from h)
      exact wp_region_list (h2 r a w hS Q fun r' a' w' hS' => hK _ _ _ _ _ _ h1 hS')
  | seq x y ihx ihy =>
    intro σ d K h r a w hS Q hQ hK
    refine wp_seq (ihx σ d _ h r a w hS _ (fun d v c a w hq => hQ d v c a w hq) fun e σ' d' r' a' w' hk hS' => ?_)
    cases e with
    | normal => exact ihy σ' d' K hk r' a' w' hS' Q hQ hK
    | exit id => exact hK _ _ _ _ _ _ hk hS'
    | ret => exact hK _ _ _ _ _ _ hk hS'
  | cond c x y ihx ihy =>
    intro σ d K h r a w hS Q hQ hK
    obtain ⟨s, h1, h⟩ := evK_spec (show evK σ c _ from h)
    split at h
    · rename_i v
      have he := (evS_den hS.see h1).1
      split at h
      · rename_i b d' _
        obtain ⟨rfl, h⟩ := h
        cases v with
        | true => exact wp_cond_true he (ihx σ d' K h r a w hS Q hQ hK)
        | false => exact wp_cond_false he (ihy σ d' K h r a w hS Q hQ hK)
      · rename_i dx dy _ _
        cases v with
        | true => exact wp_cond_true he (ihx σ dx K (h.1 rfl) r a w hS Q hQ hK)
        | false => exact wp_cond_false he (ihy σ dy K (h.2 rfl) r a w hS Q hQ hK)
      · cases v with
        | true => exact wp_cond_true he (ihx σ _ K h r a w hS Q hQ hK)
        | false => exact wp_cond_false he (ihy σ _ K h r a w hS Q hQ hK)
    · exact h.elim
  | block id b ih =>
    intro σ d K h r a w hS Q hQ hK
    refine wp_block (ih σ d _ h r a w hS _ (fun d v c a w hq => hQ d v c a w hq) fun e σ' d' r' a' w' hk hS' => ?_)
    cases e with
    | normal => exact hK .normal _ _ _ _ _ hk hS'
    | exit i =>
      show (if i = id then Q .normal a' w' else Q (.exit i) a' w')
      dsimp only at hk
      cases e2 : Nat.beq i id with
      | true => rw [e2] at hk; rw [if_pos (Nat.eq_of_beq_eq_true e2)]; exact hK .normal _ _ _ _ _ hk hS'
      | false => rw [e2] at hk; rw [if_neg (Nat.ne_of_beq_eq_false e2)]; exact hK (.exit i) _ _ _ _ _ hk hS'
    | ret => exact hK .ret _ _ _ _ _ hk hS'
  | loop b ih =>
    intro σ d K h r a w hS Q hQ hK
    unfold exec at h
    split at h
    · rename_i α I C μ a0 nx bd _
      obtain ⟨⟨h1, h2⟩, h3⟩ := subK_spec (w0 := w0) h
      refine wp_loop_gen (fun x a w => C x ∧ ∃ r, Sat w0 (I x) r a w) μ (fun x a w hJ => ?_) a0 ⟨h1, r, h3 r a w hS⟩
      obtain ⟨hc, r, hS⟩ := hJ
      refine ih (I x) (bd x) _ (h2 x hc) r a w hS _ (fun d v c a w hq => hQ d v c a w hq) fun e σ' d' r' a' w' hk hS' => ?_
      cases e with
      | normal =>
        dsimp only at hk
        split at hk
        · obtain ⟨⟨k1, k2⟩, k3⟩ := subK_spec (w0 := w0) hk
          exact ⟨_, ⟨k1, r', k3 _ _ _ hS'⟩, k2⟩
        · exact hk.elim
      | exit id => exact hK _ _ _ _ _ _ hk hS'
      | ret => exact hK _ _ _ _ _ _ hk hS'
    · rename_i σ' d' 
      obtain ⟨h1, h2⟩ := h
      refine wp_mono (h1 r a w hS) fun e a' w' hq => ?_
      obtain ⟨hn, r', hS'⟩ := hq
      cases e <;> first | exact hK .normal _ _ _ _ _ h2 hS' | exact hn.elim
    · exact h.elim
  | exit id => exact fun σ d K h r a w hS Q _ hK => wp_exit (hK (.exit id) _ _ _ _ _ h hS)
  | ret => exact fun σ d K h r a w hS Q _ hK => wp_ret (hK .ret _ _ _ _ _ h hS)
  | label l => exact fun σ d K h r a w hS Q _ hK => wp_label (hK .normal _ _ _ _ _ h hS)
  | _ => intro σ d K h; exact False.elim h
end
end Go.Proofs.YtchfglbkiebfpaaGreatDoor

namespace Go.Proofs.YtchfglbkiebfpaaGreatDoor
open Go Go.RowKit

def ldS (tt : List (Nat × TI)) (σ : St) (t : TypeId) (s : SV) (K : SV → Prop) : Prop := match s with
  | .ptr b o => optK (nth σ.bs b) fun p => tiK tt t fun ti => match ti.k.agg with
    | true => ifB (Nat.ble (o + ti.size) p.2.length) (K (.agg ((p.2.drop o).take ti.size)))
    | false => optK (nthL p.2 o) K
  | _ => False
def resS (tt : List (Nat × TI)) (σ : St) (v : ResultVar) (K : SV → Prop) : Prop := match v with
  | .tmp t => evK σ (.tmp t) K
  | .cell a t => evK σ (.tmp a) fun s => ldS tt σ t s K
def resL (tt : List (Nat × TI)) (σ : St) : List ResultVar → (List SV → Prop) → Prop
  | [], K => K []
  | v :: l, K => resS tt σ v fun s => resL tt σ l fun m => K (s :: m)
def fin1 (l : List SV) (K : SV → Prop) : Prop := match l with
  | [s] => K s
  | l => K (.tup l)
def finK (tt : List (Nat × TI)) (rs : List ResultVar) (e : Ex) (σ : St) (K : SV → Prop) : Prop := match e with
  | .exit _ => False
  | _ => resL tt σ rs fun l => fin1 l K
def enumV : List Value → Nat → List (Nat × SV)
  | [], _ => []
  | v :: l, k => (k, .val v) :: enumV l (k + 1)
def st0 (N : Nat) (args : List Value) : St := ⟨N, enumV args 0, [], []⟩
def resF (tmps : Array Value) : ResultVar → Sem Value
  | .tmp t => pure (tmps.getD t undef)
  | .cell a t => do loadVar t (← asAddr (tmps.getD a undef))
theorem results_eq (fn : Func) (tmps : Array Value) : results fn tmps = (do
    let vs ← fn.results.mapM (resF tmps)
    pure (if h : vs.size = 1 then vs[0] else .tuple vs)) := rfl
section
variable {P : Program} {tt : List (Nat × TI)} {w0 : World} {σ : St}
theorem resS_spec (hT : TTOk P tt) {v : ResultVar} {K : SV → Prop} (h : resS tt σ v K) : ∃ s, K s ∧ ∀ r a w, Sat w0 σ r a w →
    (resF a.tmps v).run P w = .ok (s.den r) w := by
  unfold resS at h
  split at h
  · rename_i t
    obtain ⟨s, h1, h⟩ := evK_spec h
    exact ⟨s, h, fun r a w hS => by rw [← (evS_den hS.see h1).1]; rfl⟩
  · rename_i x t
    obtain ⟨s, h1, h⟩ := evK_spec h
    unfold ldS at h
    split at h
    · rename_i b o
      obtain ⟨p, h2, h⟩ := optK_spec h
      obtain ⟨ti, h3, h⟩ := tiK_spec hT h
      have hx : ∀ r a w, Sat w0 σ r a w → a.tmps.getD x undef = .pointer (some ⟨r.b b, o, none⟩) := fun r a w hS => (evS_den hS.see h1).1
      have hl : ∀ (r : Env) (w : World), (do loadVar t (← asAddr (.pointer (some ⟨r.b b, o, none⟩))) : Sem Value).run P w = (Instr.loadAt t (.pointer (some ⟨r.b b, o, none⟩))).run P w := fun r w => rfl
      split at h
      · rename_i ha
        obtain ⟨hb, h⟩ := ifB_spec h
        refine ⟨_, h, fun r a w hS => ?_⟩
        show (do loadVar t (← asAddr (a.tmps.getD x undef)) : Sem Value).run P w = _
        rw [hx r a w hS, hl]
        simp only [SV.den, cut_den]
        exact load_agg h3 ha (hS.see.bs _ p.1 p.2 h2).1 (by rw [denL_len]; exact Nat.le_of_ble_eq_true hb)
      · rename_i ha
        obtain ⟨c, hc, h⟩ := optK_spec h
        refine ⟨_, h, fun r a w hS => ?_⟩
        show (do loadVar t (← asAddr (a.tmps.getD x undef)) : Sem Value).run P w = _
        rw [hx r a w hS, hl]
        exact load_one h3 ha (hS.see.bs _ p.1 p.2 h2).1 (nthL_den hc)
    · exact h.elim
theorem resL_spec (hT : TTOk P tt) : ∀ {l : List ResultVar} {K : List SV → Prop}, resL tt σ l K → ∃ m, K m ∧ ∀ r a w, Sat w0 σ r a w →
    (l.mapM (resF a.tmps)).run P w = .ok (denL r m) w
  | [], K, h => ⟨[], h, fun _ _ _ _ => rfl⟩
  | v :: l, K, h => by
    obtain ⟨s, h, h1⟩ := resS_spec (w0 := w0) hT h
    obtain ⟨m, h, h2⟩ := resL_spec hT (l := l) h
    refine ⟨s :: m, h, fun r a w hS => ?_⟩
    rw [List.mapM_cons, Sem.run_bind, h1 r a w hS, Result.andThen_ok, Sem.run_bind, h2 r a w hS]
    rfl
theorem finK_spec (hT : TTOk P tt) {fn : Func} {rs : List ResultVar} (hr : fn.results = rs.toArray) {e : Ex} {K : SV → Prop} (h : finK tt rs e σ K) : (e = .normal ∨ e = .ret) ∧ ∃ s, K s ∧ ∀ r a w, Sat w0 σ r a w → (results fn a.tmps).run P w = .ok (s.den r) w := by
  have key : resL tt σ rs (fun l => fin1 l K) → ∃ s, K s ∧ ∀ r a w, Sat w0 σ r a w → (results fn a.tmps).run P w = .ok (s.den r) w := fun h => by
    obtain ⟨m, h, h1⟩ := resL_spec (w0 := w0) hT h
    have h2 : ∀ r a w, Sat w0 σ r a w → (results fn a.tmps).run P w = .ok (if h : (denL r m).toArray.size = 1 then (denL r m).toArray[0] else .tuple (denL r m).toArray) w := fun r a w hS => by
      rw [results_eq, hr, Array.mapM_eq_mapM_toList, Sem.run_bind, Sem.run_map, h1 r a w hS]
      rfl
    unfold fin1 at h
    split at h
    · exact ⟨_, h, fun r a w hS => by rw [h2 r a w hS]; rfl⟩
    · rename_i hne
      refine ⟨_, h, fun r a w hS => ?_⟩
      rw [h2 r a w hS, dif_neg ?_]
      · rfl
      · intro e
        have e2 : m.length = 1 := by rw [← denL_len r m]; simpa using e
        obtain ⟨s, rfl⟩ := List.length_eq_one_iff.1 e2
        exact hne s rfl
  unfold finK at h
  cases e with
  | exit id => exact h.elim
  | normal => exact ⟨.inl rfl, key h⟩
  | ret => exact ⟨.inr rfl, key h⟩
theorem look_enum {k : Nat} {s : SV} : ∀ {l : List Value} {j : Nat}, look k (enumV l j) = some s → ∃ i v, l[i]? = some v ∧ k = j + i ∧ s = .val v
  | [], _, h => by cases h
  | v :: l, j, h => by
    simp only [enumV, look] at h
    cases e : Nat.beq j k with
    | true =>
      rw [e] at h
      obtain rfl := Option.some.inj h
      exact ⟨0, v, rfl, (Nat.eq_of_beq_eq_true e).symm, rfl⟩
    | false =>
      rw [e] at h
      obtain ⟨i, u, h1, h2, h3⟩ := look_enum (l := l) h
      exact ⟨i + 1, u, by simpa using h1, by omega, h3⟩
theorem sat0 {N : Nat} {args : List Value} (hl : args.length ≤ N) (w : World) : Sat w (st0 N args) e0 { tmps := args.toArray ++ Array.replicate (N - args.toArray.size) undef, defers := [] } w := by
  refine ⟨⟨Below.refl _ _, ?_, fun k s hk => ?_, fun i t cs hi => ?_, fun i R hi => ?_, fun i hi => ?_⟩, ⟨fun i p hi => ?_, fun i j p q hi => ?_, fun i R hi => ?_, fun i j R R' hi => ?_, fun i j p R hi => ?_⟩, rfl⟩
  · simp [st0]; omega
  · obtain ⟨i, v, h1, rfl, rfl⟩ := look_enum hk
    refine ⟨?_, rfl⟩
    have h2 : i < args.length := (List.getElem?_eq_some_iff.1 h1).1
    rw [Nat.zero_add, Array.getD_eq_getD_getElem?, Array.getElem?_append_left (by simpa using h2)]
    simp [h1, SV.den]
  · cases hi
  · cases hi
  · exact absurd hi (Nat.not_lt_zero _)
  · cases hi
  · cases hi
  · cases hi
  · cases hi
  · cases hi
/-- **A function's call**, by what is reckoned of its code. -/
theorem call_sx (hT : TTOk P tt) (hm : P.follows .mixedOrders = true) {f : FuncId} {fn : Func} {c : Code} {N : Nat} {rs : List ResultVar} (hf : P.funcs[f]? = some fn) (hb : fn.body = some c) (hn : fn.ntmps = N) (hr : fn.results = rs.toArray)
    {args : List Value} (hl : Nat.ble args.length N = true) {d : List Dir} {K : SV → St → Prop} (h : exec P tt w0 c (st0 N args) d fun e σ _ => finK tt rs e σ fun s => K s σ) :
    Calls P f args.toArray w0 fun e w' => ∃ s σ r a, e = .returned (s.den r) ∧ K s σ ∧ Sat w0 σ r a w' := by
  refine calls_of_wp hf hb ?_
  rw [hn]
  refine exec_ok hT hm c _ d _ h e0 _ w0 (sat0 (Nat.le_of_ble_eq_true hl) w0) _ (fun d v ch a w hq => ?_) fun e σ' d' r' a' w' hk hS => ?_
  · exact ⟨hq.1, hq.2⟩
  · obtain ⟨he, s, hK, hres⟩ := finK_spec (w0 := w0) hT hr hk
    rcases he with rfl | rfl
    · exact ⟨hS.defers, _, hres _ _ _ hS, s, σ', r', a', rfl, hK, hS⟩
    · exact ⟨hS.defers, _, hres _ _ _ hS, s, σ', r', a', rfl, hK, hS⟩
theorem ret_sx (hT : TTOk P tt) (hm : P.follows .mixedOrders = true) {f : FuncId} {fn : Func} {c : Code} {N : Nat} {rs : List ResultVar} (he : Enters P f) (hf : P.funcs[f]? = some fn) (hb : fn.body = some c) (hn : fn.ntmps = N) (hr : fn.results = rs.toArray)
    {args : List Value} (hl : Nat.ble args.length N = true) {R : Value} {d : World → List Dir} (h : ∀ W, Below w0.heap.size w0 W → exec P tt W c (st0 N args) (d W) fun e σ _ => finK tt rs e σ fun s => ifB s.plain (s.den e0 = R)) :
    RetAt P w0 f args.toArray R := by
  refine ⟨he, fun W hW => (call_sx (w0 := W) (K := fun s σ => ifB s.plain (s.den e0 = R)) hT hm hf hb hn hr hl (h W hW)).mono ?_⟩
  rintro e w' ⟨s, σ, r, a, rfl, hK, hS⟩
  obtain ⟨h1, h2⟩ := ifB_spec hK
  rw [plain_den h1, h2]
  exact ⟨rfl, hS.see.low⟩
def bodyX (P : Program) (tt : List (Nat × TI)) (W : World) (fn : Func) (σ : St) (d : List Dir) (K : Ex → St → List Dir → Prop) : Prop := match fn.body with
  | some c => exec P tt W c σ d K
  | none => False
/-- The same, the kernel reckoning: what is asked is what T says. -/
theorem ret_sk (hT : TTOk P tt) (hm : P.follows .mixedOrders = true) {f : FuncId} {fn : Func} (he : Enters P f) (hf : P.funcs[f]? = some fn) {N : Nat} (hn : fn.ntmps = N) {rs : Array ResultVar} (hr : fn.results = rs) (args : List Value) (hl : Nat.ble args.length N = true) (R : Value) (d : List Dir) {T : World → Prop}
    (h : ∀ W, Below w0.heap.size w0 W → R = R → T W) (hk : ∀ W, T W = bodyX P tt W fn (st0 N args) d fun e σ _ => finK tt rs.toList e σ fun s => ifB s.plain (s.den e0 = R)) :
    RetAt P w0 f args.toArray R := by
  have key : ∀ W, Below w0.heap.size w0 W → bodyX P tt W fn (st0 N args) d fun e σ _ => finK tt rs.toList e σ fun s => ifB s.plain (s.den e0 = R) := fun W hW => hk W ▸ h W hW rfl
  unfold bodyX at key
  cases hb : fn.body with
  | none =>
    rw [hb] at key
    exact (key w0 (Below.refl _ _)).elim
  | some c =>
    rw [hb] at key
    exact ret_sx hT hm he hf hb hn (rs := rs.toList) hr hl (d := fun _ => d) key
end
theorem ai {a b : Prop} (h : a) (k : b) : a ∧ b := ⟨h, k⟩
/-- A contract, off one that is told of each world. -/
theorem rc {P : Program} (w0 : World) {f : FuncId} {args : Array Value} {R : Value} (he : Enters P f) (h : ∀ W, Calls P f args W fun e w' => e = .returned R ∧ Below W.heap.size W w') : RetAt P w0 f args R := ⟨he, fun W _ => h W⟩
theorem RetAt.at {P : Program} {w0 : World} {f : FuncId} {args : Array Value} {R : Value} (h : RetAt P w0 f args R) : Calls P f args w0 fun e w' => e = .returned R ∧ Below w0.heap.size w0 w' := h.2 w0 (Below.refl _ _)
/-! Which way. -/
theorem lt_y {a b : Int} (h : a < b) : decide (a < b) = true := decide_eq_true h
theorem lt_n {a b : Int} (h : ¬ a < b) : decide (a < b) = false := decide_eq_false h
theorem le_y {a b : Int} (h : a ≤ b) : decide (a ≤ b) = true := decide_eq_true h
theorem le_n {a b : Int} (h : ¬ a ≤ b) : decide (a ≤ b) = false := decide_eq_false h
theorem gt_y {a b : Int} (h : a > b) : decide (a > b) = true := decide_eq_true h
theorem gt_n {a b : Int} (h : ¬ a > b) : decide (a > b) = false := decide_eq_false h
theorem eq_y {a b : Int} (h : a = b) : (a == b) = true := by subst h; simp
theorem eq_n {a b : Int} (h : ¬ a = b) : (a == b) = false := by simpa using h
theorem ne_y {a b : Int} (h : ¬ a = b) : (a != b) = true := by simpa using h
theorem ne_n {a b : Int} (h : a = b) : (a != b) = false := by subst h; simp
theorem wz {k : Int} (x : Int) (h : IntKind.i64.wrap 0 = k) : IntKind.i64.wrap (x - x) = k := by rw [Int.sub_self]; exact h
theorem wn {p n : Int} (h : IntKind.i64.wrap (-p) = n) : IntKind.i64.wrap (0 - p) = n := by rw [Int.zero_sub]; exact h
theorem min_ok (P : Program) (w0 : World) (ts : Array TypeId) (t : TypeId) (k : IntKind) (x y : Int) : RunOk P w0 (Builtin.min_ ts t #[.int k x, .int k y]) (.int k (min x y)) := fun W _ => by
  simp only [Builtin.min_, List.foldlM, Builtin.min2]
  rw [show (if y < x then y else x) = min x y by split <;> omega]
  rfl
end Go.Proofs.YtchfglbkiebfpaaGreatDoor

