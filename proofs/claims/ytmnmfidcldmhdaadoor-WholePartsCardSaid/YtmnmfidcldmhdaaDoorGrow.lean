/- A region that draws its order, whose operations but the last ones only read, or make memory: each is run once. No program. -/
import Derived.StillTail
import Derived.Below
import Derived.OrdersHeld
namespace Go.Proofs.YtmnmfidcldmhdaaDoor
open Go Go.RowKit

/-- What operation i waits for. -/
def waits (ops : Array Oper) (i : Nat) : List Nat := match ops[i]? with
  | some o => (o.after.toList.filter (Region.binds .any)).map (·.on)
  | none => []
/-- Does a wait for i, over at most so many steps? -/
def reachB (ops : Array Oper) : Nat → Nat → Nat → Bool
  | 0, a, i => (waits ops a).any (· == i)
  | f + 1, a, i => (waits ops a).any fun j => j == i || reachB ops f j i
/-- The first n operations wait for earlier ones alone; the others wait for all of them, and come in the text's order. -/
def growB (ops : Array Oper) (n : Nat) (st : Nat → Bool) : Bool :=
  decide (n ≤ ops.size) && Region.noSelect ops && Region.chainB .any ops n && (List.range n).all (fun i => n == ops.size || !st i || reachB ops 3 n i) &&
  (List.range n).all (fun i => st i || (List.range ops.size).all fun j => j == i || (decide (j < n) && st j) || Region.waitsFor .any ops j i || (match ops[i]?, ops[j]? with | some x, some y => x.apart ops y | _, _ => false)) &&
  (List.range n).all (fun i => (waits ops i).all (· < i)) && Region.seqB .any ops (ops.size - n) n (Array.replicate n true ++ Array.replicate (ops.size - n) false)
/-- How many of the first n are still to come. -/
def left (n : Nat) (listed : Array Bool) : Nat := ((List.range n).filter fun i => !listed.getD i true).length

theorem left_zero {n : Nat} {listed : Array Bool} (h : left n listed = 0) : ∀ i, i < n → listed.getD i true = true := fun i hi => by
  have h1 := List.eq_nil_of_length_eq_zero h
  rw [List.filter_eq_nil_iff] at h1
  have h2 := h1 i (List.mem_range.2 hi)
  simpa using h2
theorem left_some {n : Nat} {listed : Array Bool} (h : left n listed ≠ 0) : ∃ i, i < n ∧ listed.getD i true = false ∧ ∀ j, j < i → listed.getD j true = true := by
  have : ∃ i, i < n ∧ listed.getD i true = false := by
    apply Classical.byContradiction
    intro hno
    apply h
    unfold left
    rw [List.length_eq_zero_iff, List.filter_eq_nil_iff]
    intro i hi
    have hi' := List.mem_range.1 hi
    cases hl : listed.getD i true with
    | true => simp
    | false => exact absurd ⟨i, hi', hl⟩ hno
  obtain ⟨i, hi, hl⟩ := this
  induction i using Nat.strongRecOn with
  | _ i ih =>
    by_cases hc : ∃ j, j < i ∧ listed.getD j true = false
    · obtain ⟨j, hj, hjl⟩ := hc
      exact ih j hj (by omega) hjl
    · refine ⟨i, hi, hl, fun j hj => ?_⟩
      cases hl2 : listed.getD j true with
      | true => rfl
      | false => exact absurd ⟨j, hj, hl2⟩ hc
theorem left_set {n i : Nat} {listed : Array Bool} (hi : i < n) (hl : listed.getD i true = false) : left n (listed.setIfInBounds i true) + 1 = left n listed := by
  have hsz : i < listed.size := by
    rcases Nat.lt_or_ge i listed.size with h | h
    · exact h
    · simp [Array.getElem?_eq_none h] at hl
  unfold left
  have key : ∀ l : List Nat, l.Nodup → i ∈ l → ((l.filter fun j => !(listed.setIfInBounds i true).getD j true).length + 1 = (l.filter fun j => !listed.getD j true).length) := by
    intro l
    induction l with
    | nil => intro _ h; cases h
    | cons x l ih =>
      intro hnd hm
      rw [List.nodup_cons] at hnd
      by_cases hx : x = i
      · subst hx
        have e1 : (listed.setIfInBounds x true).getD x true = true := by simp [hsz]
        have e2 : (l.filter fun j => !(listed.setIfInBounds x true).getD j true) = (l.filter fun j => !listed.getD j true) := List.filter_congr fun j hj => by
          have hne : x ≠ j := fun e => hnd.1 (e ▸ hj)
          rw [getD_set_ne true hne]
        rw [List.filter_cons_of_neg (by simp [e1]), List.filter_cons_of_pos (by simp [hl]), e2, List.length_cons]
      · have hm' : i ∈ l := by
          rcases List.mem_cons.1 hm with h | h
          · exact absurd h.symm hx
          · exact h
        have e3 : (listed.setIfInBounds i true).getD x true = listed.getD x true := getD_set_ne true (Ne.symm hx)
        have := ih hnd.2 hm'
        cases hxl : listed.getD x true with
        | true => rw [List.filter_cons_of_neg (by simp [e3, hxl]), List.filter_cons_of_neg (by simp [hxl])]; exact this
        | false => rw [List.filter_cons_of_pos (by simp [e3, hxl]), List.filter_cons_of_pos (by simp [hxl]), List.length_cons, List.length_cons]; omega
  exact key _ List.nodup_range (List.mem_range.2 hi)

/-- The block that a value points to. -/
def blk : Value → Option Nat
  | .pointer (some a) => some a.block
  | .slice (some a) _ _ => some a.block
  | _ => none
/-- What is asked of operation i: run in any world that meets G, and in which what it waits for has come, it ends; what was is as it was. -/
def GrowOk (P : Program) (ops : Array Oper) (F : (Nat → Value) → Act) (G : World → Prop) (Φ : Nat → Value → World → Prop) (fr : Nat → Bool) (i : Nat) : Prop :=
  ∀ (o : Oper), ops[i]? = some o → ∀ (u : Nat → Value) (w : World), G w → (∀ j, j ∈ waits ops i → Φ j (u j) w) → ∀ (Q : Exit → Act → World → Prop) (K : Act → World → Prop),
    (∀ v w', Below w.heap.size w w' → G w' → Φ i v w' → (fr i = true → ∀ g, blk v = some g → w.heap.size ≤ g) → K ((F u).put o.dst v) w') → if Region.wanted o (yielded ops (F u).tmps) = true then Oper.wp P o (F u) w K Q else K ((F u).put o.dst undef) w

theorem waits_listed {ops : Array Oper} {n : Nat} {listed : Array Bool} (inv : HeadInv .any ops n listed) {a : Nat} (ha : listed.getD a false = true) {j : Nat} (hj : j ∈ waits ops a) : listed.getD j false = true := by
  unfold waits at hj
  cases ho : ops[a]? with
  | none => rw [ho] at hj; cases hj
  | some o =>
    rw [ho] at hj
    obtain ⟨e, he, rfl⟩ := List.mem_map.1 hj
    obtain ⟨he1, he2⟩ := List.mem_filter.1 he
    exact inv.closed a o ho ha e (Array.mem_toList_iff.1 he1) he2
theorem reach_listed {ops : Array Oper} {n : Nat} {listed : Array Bool} (inv : HeadInv .any ops n listed) {i : Nat} : ∀ (f a : Nat), (∀ j, j ∈ waits ops a → listed.getD j false = true) → reachB ops f a i = true → listed.getD i false = true
  | 0, a, h, hr => by
    obtain ⟨j, hj, e⟩ := List.any_eq_true.1 hr
    have : j = i := by simpa using e
    exact this ▸ h j hj
  | f + 1, a, h, hr => by
    obtain ⟨j, hj, e⟩ := List.any_eq_true.1 hr
    rcases Bool.or_eq_true_iff.1 e with e | e
    · have : j = i := by simpa using e
      exact this ▸ h j hj
    · exact reach_listed inv f j (fun k hk => waits_listed inv (h j hj) hk) e
/-- Nothing of the tail may come while a strict one of the first is still to come. -/
theorem tail_not_ready {ops : Array Oper} {n : Nat} {st : Nat → Bool} {listed : Array Bool} (hs : (List.range n).all (fun i => n == ops.size || !st i || reachB ops 3 n i) = true) (hc : Region.chainB .any ops n = true)
    (inv : HeadInv .any ops n listed) {i : Nat} (hi : i < n) (hsi : st i = true) (hun : listed.getD i true = false) : ∀ t, n ≤ t → t ∉ Region.ready .any ops listed := by
  intro t ht hr
  obtain ⟨_, ot, hot, hall⟩ := mem_ready.1 hr
  have htlt : t < ops.size := (Array.getElem?_eq_some_iff.1 hot).1
  have hdir : ∀ j, j ∈ waits ops t → listed.getD j false = true := fun j hj => by
    unfold waits at hj; rw [hot] at hj
    obtain ⟨e, he, rfl⟩ := List.mem_map.1 hj
    obtain ⟨he1, he2⟩ := List.mem_filter.1 he
    exact hall e (Array.mem_toList_iff.1 he1) he2
  by_cases htn : t = n
  · subst htn
    have h1 := List.all_eq_true.1 hs i (List.mem_range.2 hi)
    rw [hsi, show (t == ops.size) = false by simpa using Nat.ne_of_lt htlt] at h1
    have h2 := reach_listed inv 3 t hdir (by simpa using h1)
    rw [getD_both hun] at h2
    cases h2
  · have h1 := List.all_eq_true.1 hc t (List.mem_range.2 htlt)
    simp only [Bool.or_eq_true, decide_eq_true_eq] at h1
    rcases h1 with h1 | h1
    · omega
    · obtain ⟨o', ho', e, he, hb, hon⟩ := Region.waitsFor_spec h1
      have : o' = ot := Option.some.inj (ho'.symm.trans hot)
      subst this
      have h2 := hall e he hb
      rw [hon, getD_both (inv.tail (t - 1) (by omega) (by omega))] at h2
      cases h2
/-- What is asked of an operation that may come late: it yields its value in whatever world. -/
def LateOk (P : Program) (ops : Array Oper) (F : (Nat → Value) → Act) (Φ : Nat → Value → World → Prop) (i : Nat) : Prop :=
  ∀ (o : Oper), ops[i]? = some o → ∀ (u : Nat → Value) (w : World), (∀ j, j ∈ waits ops i → Φ j (u j) w) → ∃ v, Yields P ops o v (F u) ∧ Φ i v w
theorem wpAny_grow {P : Program} {ops : Array Oper} {n : Nat} {Q : Exit → Act → World → Prop} {l : List Oper} (hl : l.toArray = ops) (F : (Nat → Value) → Act) (G : World → Prop) (Φ : Nat → Value → World → Prop)
    (st : Nat → Bool) (hB : growB ops n st = true) (hQ : ∀ (d : Tmp) (v : Value) c a w, Q (.panic c) (a.put (some d) v) w → Q (.panic c) a w) (hdd : ∀ i o, i < n → ops[i]? = some o → ∃ d : Tmp, o.dst = some d) (hput : ∀ (u : Nat → Value) (i : Nat) (v : Value) (o : Oper), i < n → ops[i]? = some o → (F u).put o.dst v = F (fun k => if k = i then v else u k))
    (hst : ∀ i v w w', i < n → Below w.heap.size w w' → Φ i v w → Φ i v w')
    (fr : Nat → Bool) (hfr : ∀ i v w, i < n → fr i = true → Φ i v w → ∃ g, blk v = some g ∧ g < w.heap.size)
    (hop : ∀ i, i < n → GrowOk P ops F G Φ fr i) (hlate : ∀ i, i < n → st i = false → fr i = false ∧ LateOk P ops F Φ i)
    (u0 : Nat → Value) (htail : ∀ u w, (∀ k, n ≤ k → u k = u0 k) → G w → (∀ i, i < n → Φ i (u i) w) → (∀ i j, i < n → j < n → fr i = true → fr j = true → i ≠ j → blk (u i) ≠ blk (u j)) → wpList P ops Q (l.drop n) (F u) w) :
    ∀ (f : Nat) (listed : Array Bool) (u : Nat → Value) (w : World), left n listed = f → HeadInv .any ops n listed → (∀ k, n ≤ k → u k = u0 k) → G w → (∀ i, i < n → listed.getD i true = true → Φ i (u i) w) →
      (∀ i j, i < n → j < n → listed.getD i true = true → listed.getD j true = true → fr i = true → fr j = true → i ≠ j → blk (u i) ≠ blk (u j)) →
      wpAny P .any ops Q (f + (ops.size - n)) listed (F u) w := by
  simp only [growB, Bool.and_eq_true, decide_eq_true_eq] at hB
  obtain ⟨⟨⟨⟨⟨⟨hn, hsel⟩, hc⟩, hs⟩, hfree⟩, hback⟩, hseq⟩ := hB
  intro f
  induction f with
  | zero =>
    intro listed u w hf inv hu0 hG hΦ hD
    have hall := left_zero hf
    have he : listed = Array.replicate n true ++ Array.replicate (ops.size - n) false := by
      apply Array.ext
      · simp [inv.size]; omega
      · intro i h1 h2
        by_cases hi : i < n
        · have := hall i hi
          rw [Array.getElem_append_left (by simpa using hi)]
          simpa [h1] using this
        · have := inv.tail i (by omega) (by rw [← inv.size]; exact h1)
          rw [Array.getElem_append_right (by simp; omega)]
          simpa [h1] using this
    rw [Nat.zero_add]
    have hlen : (l.drop n).length = ops.size - n := by rw [← hl]; simp
    rw [← hlen] at hseq ⊢
    exact wpAny_of_seq (l.drop n) n listed (F u) w (fun j => by rw [← hl]; simp [List.getElem?_drop]) (by rw [he, ← hlen]; exact hseq) (htail u w hu0 hG (fun i hi => hΦ i hi (hall i hi)) (fun i j hi hj => hD i j hi hj (hall i hi) (hall j hj)))
  | succ f ih =>
    intro listed u w hf inv hu0 hG hΦ hD
    obtain ⟨i0, hi0, hl0, hmin⟩ := left_some (n := n) (listed := listed) (by omega)
    have hready : i0 ∈ Region.ready .any ops listed := by
      have hlt : i0 < ops.size := by omega
      obtain ⟨o, ho⟩ : ∃ o, ops[i0]? = some o := ⟨ops[i0], by simp [hlt]⟩
      refine mem_ready.2 ⟨hl0, o, ho, fun e he hb => ?_⟩
      have hw : e.on ∈ waits ops i0 := by
        unfold waits; rw [ho]
        exact List.mem_map.2 ⟨e, List.mem_filter.2 ⟨Array.mem_toList_iff.2 he, hb⟩, rfl⟩
      have hlt2 : e.on < i0 := by
        have h1 := List.all_eq_true.1 hback i0 (List.mem_range.2 hi0)
        simpa using List.all_eq_true.1 h1 _ hw
      have h3 := hmin _ hlt2
      have h4 : e.on < listed.size := by rw [inv.size]; omega
      simpa [h4] using h3
    rw [show f + 1 + (ops.size - n) = (f + (ops.size - n)) + 1 by omega]
    by_cases hall : ∃ i, i < n ∧ st i = true ∧ listed.getD i true = false
    case neg =>
      have hst0 : st i0 = false := by
        cases h : st i0 with
        | false => rfl
        | true => exact absurd ⟨i0, hi0, h, hl0⟩ hall
      obtain ⟨hfr0, hlt0⟩ := hlate i0 hi0 hst0
      obtain ⟨_, o, ho, hdeps⟩ := mem_ready.1 hready
      have hfacts : ∀ j, j ∈ waits ops i0 → Φ j (u j) w := fun j hj => by
        have hj0 := hj
        unfold waits at hj; rw [ho] at hj
        obtain ⟨e, he, rfl⟩ := List.mem_map.1 hj
        obtain ⟨he1, he2⟩ := List.mem_filter.1 he
        have h1 := hdeps e (Array.mem_toList_iff.1 he1) he2
        have hlt2 : e.on < i0 := by
          have h1 := List.all_eq_true.1 hback i0 (List.mem_range.2 hi0)
          simpa using List.all_eq_true.1 h1 _ hj0
        refine hΦ _ (by omega) ?_
        have h4 : e.on < listed.size := by rw [inv.size]; omega
        simpa [h4] using h1
      obtain ⟨v, hy, hv⟩ := hlt0 o ho u w hfacts
      have hQ2 : ∀ c a w, Q (.panic c) (a.put o.dst v) w → Q (.panic c) a w := by
        obtain ⟨d, hd⟩ := hdd i0 o hi0 ho
        rw [hd]; exact hQ d v
      refine wpAny_first ho (Region.noSelect_spec hsel) hQ2 _ listed (F u) w (fun j oj hoj hji hjun hnot => ?_) hready hy ?_
      · have hjs : j < ops.size := (Array.getElem?_eq_some_iff.1 hoj).1
        have h1 := List.all_eq_true.1 hfree i0 (List.mem_range.2 hi0)
        rw [hst0, Bool.false_or] at h1
        have h2 := List.all_eq_true.1 h1 j (List.mem_range.2 hjs)
        simp only [Bool.or_eq_true, Bool.and_eq_true, decide_eq_true_eq, beq_iff_eq, ho, hoj] at h2
        rcases h2 with ((h2 | h2) | h2) | h2
        · exact absurd h2 hji
        · exact absurd ⟨j, h2.1, h2.2, hjun⟩ hall
        · obtain ⟨o', ho', e, he, hb, hon⟩ := Region.waitsFor_spec h2
          have : o' = oj := Option.some.inj (ho'.symm.trans hoj)
          subst this
          exact absurd hon (hnot e he hb)
        · exact h2
      · rw [hput u i0 v o hi0 ho]
        refine ih _ _ w (by have := left_set hi0 hl0; omega) (inv.set hready hi0) (fun k hk => by rw [if_neg (by omega)]; exact hu0 k hk) hG (fun j hj hjl => ?_) (fun j k hj hk hjl hkl hfj hfk hne => ?_)
        · by_cases e : j = i0
          · subst e; simpa using hv
          · rw [if_neg e]
            rw [getD_set_ne true (Ne.symm e)] at hjl
            exact hΦ j hj hjl
        · have ej : j ≠ i0 := fun e => by rw [e, hfr0] at hfj; cases hfj
          have ek : k ≠ i0 := fun e => by rw [e, hfr0] at hfk; cases hfk
          rw [getD_set_ne true (Ne.symm ej)] at hjl
          rw [getD_set_ne true (Ne.symm ek)] at hkl
          rw [if_neg ej, if_neg ek]
          exact hD j k hj hk hjl hkl hfj hfk hne
    obtain ⟨is, his, hss, hsl⟩ := hall
    refine ⟨fun h0 => (by rw [h0] at hready; cases hready), fun i hi => ?_⟩
    have hin : i < n := by
      rcases Nat.lt_or_ge i n with h | h
      · exact h
      · exact absurd hi (tail_not_ready hs hc inv his hss hsl i h)
    obtain ⟨hil, o, ho, hdeps⟩ := mem_ready.1 hi
    have hfacts : ∀ j, j ∈ waits ops i → Φ j (u j) w := fun j hj => by
      have hj0 := hj
      unfold waits at hj; rw [ho] at hj
      obtain ⟨e, he, rfl⟩ := List.mem_map.1 hj
      obtain ⟨he1, he2⟩ := List.mem_filter.1 he
      have h1 := hdeps e (Array.mem_toList_iff.1 he1) he2
      have hlt2 : e.on < i := by
        have h1 := List.all_eq_true.1 hback i (List.mem_range.2 hin)
        simpa using List.all_eq_true.1 h1 _ hj0
      refine hΦ _ (by omega) ?_
      have h4 : e.on < listed.size := by rw [inv.size]; omega
      simpa [h4] using h1
    have hgo : ∀ v w', Below w.heap.size w w' → G w' → Φ i v w' → (fr i = true → ∀ g, blk v = some g → w.heap.size ≤ g) → wpAny P .any ops Q (f + (ops.size - n)) (listed.setIfInBounds i true) ((F u).put o.dst v) w' := fun v w' hb hG' hv hnew => by
      rw [hput u i v o hin ho]
      refine ih _ _ w' (by have := left_set hin hil; omega) (inv.set hi hin) (fun k hk => by rw [if_neg (by omega)]; exact hu0 k hk) hG' (fun j hj hjl => ?_) (fun j k hj hk hjl hkl hfj hfk hne => ?_)
      · by_cases e : j = i
        · subst e; simpa using hv
        · rw [if_neg e]
          rw [getD_set_ne true (Ne.symm e)] at hjl
          exact hst j _ w w' hj hb (hΦ j hj hjl)
      · by_cases ej : j = i
        · subst ej
          have ek : k ≠ j := Ne.symm hne
          rw [if_pos rfl, if_neg ek]
          rw [getD_set_ne true (Ne.symm ek)] at hkl
          obtain ⟨g, hg, hlt⟩ := hfr k _ w hk hfk (hΦ k hk hkl)
          intro e2
          rw [hg] at e2
          have := hnew hfj g e2
          omega
        · rw [getD_set_ne true (Ne.symm ej)] at hjl
          rw [if_neg ej]
          by_cases ek : k = i
          · subst ek
            rw [if_pos rfl]
            obtain ⟨g, hg, hlt⟩ := hfr j _ w hj hfj (hΦ j hj hjl)
            intro e2
            rw [hg] at e2
            have := hnew hfk g e2.symm
            omega
          · rw [if_neg ek]
            rw [getD_set_ne true (Ne.symm ek)] at hkl
            exact hD j k hj hk hjl hkl hfj hfk hne
    have hrun := hop i hin o ho u w hG hfacts Q _ hgo
    unfold wpOp
    simp only [ho]
    split
    · rename_i hw; rw [if_pos hw] at hrun; exact .inl hrun
    · rename_i hw; rw [if_neg hw] at hrun; exact hrun

/-- The slots of the first operations, filled one by one. -/
def putAll (a : Act) : List Nat → Nat → (Nat → Value) → Act
  | [], _, _ => a
  | d :: ds, i, u => putAll (a.put (some d) (u i)) ds (i + 1) u
/-- F's arguments are those slots. -/
def PutsOk (F : List Deferred → (Nat → Value) → (Nat → Value) → Act) : List Nat → Nat → Prop
  | [], _ => True
  | d :: ds, i => (∀ d0 b u v, (F d0 b u).put (some d) v = F d0 b (fun k => if k = i then v else u k)) ∧ PutsOk F ds (i + 1)
theorem PutsOk.at {F : List Deferred → (Nat → Value) → (Nat → Value) → Act} : ∀ {ds : List Nat} {i : Nat}, PutsOk F ds i → ∀ (j d : Nat), ds[j]? = some d → ∀ d0 b u v, (F d0 b u).put (some d) v = F d0 b (fun k => if k = i + j then v else u k)
  | [], _, _, _, _, h => by simp at h
  | d :: ds, i, h, 0, d', hd => by simp at hd; subst hd; exact h.1
  | d :: ds, i, h, j + 1, d', hd => fun d0 b u v => by
    have := PutsOk.at h.2 j d' (by simpa using hd) d0 b u v
    rw [this, show i + 1 + j = i + (j + 1) by omega]
theorem putAll_eq {F : List Deferred → (Nat → Value) → (Nat → Value) → Act} (d0 : List Deferred) (b u0 u : Nat → Value) : ∀ (ds : List Nat) (i : Nat), PutsOk F ds i → putAll (F d0 b (fun k => if k < i then u k else u0 k)) ds i u = F d0 b (fun k => if k < i + ds.length then u k else u0 k)
  | [], i, _ => by simp [putAll]
  | d :: ds, i, h => by
    show putAll ((F d0 b _).put (some d) (u i)) ds (i + 1) u = _
    rw [h.1]
    have e : (fun k => if k = i then u i else if k < i then u k else u0 k) = (fun k => if k < i + 1 then u k else u0 k) := by
      funext k
      by_cases hk : k = i
      · subst hk; rw [if_pos rfl, if_pos (by omega)]
      · rw [if_neg hk]
        by_cases hk2 : k < i
        · rw [if_pos hk2, if_pos (by omega)]
        · rw [if_neg hk2, if_neg (by omega)]
    rw [e, putAll_eq d0 b u0 u ds (i + 1) h.2, List.length_cons]
    congr 1
    funext k
    rw [show i + 1 + ds.length = i + (ds.length + 1) by omega]
/-- What is asked of the operations, one by one. -/
def OpsOk (P : Program) (ops : Array Oper) (F : (Nat → Value) → Act) (G : World → Prop) (Φ : Nat → Value → World → Prop) (fr : Nat → Bool) : Nat → Nat → Prop
  | 0, _ => True
  | n + 1, i => GrowOk P ops F G Φ fr i ∧ OpsOk P ops F G Φ fr n (i + 1)
theorem OpsOk.at {P : Program} {ops : Array Oper} {F : (Nat → Value) → Act} {G : World → Prop} {Φ : Nat → Value → World → Prop} {fr : Nat → Bool} : ∀ {n i : Nat}, OpsOk P ops F G Φ fr n i → ∀ j, j < n → GrowOk P ops F G Φ fr (i + j)
  | 0, _, _, _, h => by omega
  | n + 1, i, h, 0, _ => h.1
  | n + 1, i, h, j + 1, hj => by
    have := OpsOk.at h.2 j (by omega)
    rwa [show i + 1 + j = i + (j + 1) by omega] at this
/-- **The law**: F writes the frame out: b what the slots held, u what the first n operations yield; Φ what is known of each of these; G what holds in every world on the way. -/
theorem wp_region_grow {P : Program} {id : Nat} {Q : Exit → Act → World → Prop} {a : Act} {w : World} {l : List Oper} (ds : List Nat) (F : List Deferred → (Nat → Value) → (Nat → Value) → Act) (G : World → Prop) (Φ : Nat → Value → World → Prop)
    (st : Nat → Bool) (hm : P.follows .mixedOrders = true) (hB : growB l.toArray ds.length st = true) (hQ : ∀ (d : Tmp) (v : Value) c a w, Q (.panic c) (a.put (some d) v) w → Q (.panic c) a w) (hds : ((List.range ds.length).all fun i => ((l.toArray[i]?).bind (·.dst)) == ds[i]?) = true)
    (ha : a = F a.defers (fun k => a.tmps.getD k undef) (fun i => a.tmps.getD (ds.getD i 0) undef)) (hG : G w.drew) (hput : PutsOk F ds 0)
    (hst : ∀ i v w w', i < ds.length → Below w.heap.size w w' → Φ i v w → Φ i v w')
    (fr : Nat → Bool) (hfr : ∀ i v w, i < ds.length → fr i = true → Φ i v w → ∃ g, blk v = some g ∧ g < w.heap.size)
    (hop : ∀ d0 b, b = (fun k => a.tmps.getD k undef) → OpsOk P l.toArray (F d0 b) G Φ fr ds.length 0)
    (hlate : ∀ d0 b, b = (fun k => a.tmps.getD k undef) → ∀ i, i < ds.length → st i = false → fr i = false ∧ LateOk P l.toArray (F d0 b) Φ i)
    (htail : ∀ u w', G w' → (∀ i, i < ds.length → Φ i (u i) w') → (∀ i j, i < ds.length → j < ds.length → fr i = true → fr j = true → i ≠ j → blk (u i) ≠ blk (u j)) → wpList P l.toArray Q (l.drop ds.length) (putAll a ds 0 u) w') : (Code.region id l.toArray true).wp P Q a w := by
  refine wp_region_any hm ?_
  have hn : ds.length ≤ l.toArray.size := by
    simp only [growB, Bool.and_eq_true, decide_eq_true_eq] at hB
    exact hB.1.1.1.1.1.1
  have inv0 : HeadInv .any l.toArray ds.length (Array.replicate l.toArray.size false) :=
    ⟨by simp, fun j oj _ hl => (by rw [getD_replicate_false] at hl; cases hl), fun t _ ht => getD_in (by simpa using ht) (getD_replicate_false _ _)⟩
  have hnone : ∀ i, i < ds.length → (Array.replicate l.toArray.size false).getD i true = false := fun i hi => getD_in (by simpa using (by omega : i < l.toArray.size)) (getD_replicate_false _ _)
  have hleft : left ds.length (Array.replicate l.toArray.size false) = ds.length := by
    unfold left
    rw [List.filter_eq_self.2 (fun i hi => by rw [hnone i (List.mem_range.1 hi)]; rfl), List.length_range]
  generalize hb : (fun k => a.tmps.getD k undef) = b at *
  generalize hu : (fun i => a.tmps.getD (ds.getD i 0) undef) = u0 at *
  have hdst : ∀ i, i < ds.length → ∃ d, ds[i]? = some d ∧ ∀ o, l.toArray[i]? = some o → o.dst = some d := fun i hi => by
    have h1 := List.all_eq_true.1 hds i (List.mem_range.2 hi)
    have h2 : ((l.toArray[i]?).bind (·.dst)) = ds[i]? := by simpa using h1
    refine ⟨ds[i], by simp [hi], fun o ho => ?_⟩
    rw [ho] at h2
    have h3 : ds[i]? = some ds[i] := by simp [hi]
    rw [h3] at h2
    exact h2
  have h := wpAny_grow (Q := Q) (l := l) rfl (F a.defers b) G Φ st hB hQ (fun i o hi ho => by obtain ⟨d, _, hd2⟩ := hdst i hi; exact ⟨d, hd2 o ho⟩) (fun u i v o hi ho => by
      obtain ⟨d, hd, hd2⟩ := hdst i hi
      rw [hd2 o ho, PutsOk.at hput i d hd, Nat.zero_add]) hst fr hfr (fun i hi => by have := OpsOk.at (hop a.defers b rfl) i hi; rwa [Nat.zero_add] at this) (hlate a.defers b rfl) u0 (fun u w' hk hG' hΦ hD => by
      have e := putAll_eq a.defers b u0 u ds 0 hput
      simp only [Nat.not_lt_zero, if_false, Nat.zero_add] at e
      rw [show F a.defers b u0 = a from ha.symm] at e
      have e2 : (fun k => if k < ds.length then u k else u0 k) = u := by
        funext k
        split
        · rfl
        · exact (hk k (by omega)).symm
      rw [e2] at e
      rw [← e]
      exact htail u w' hG' hΦ hD) ds.length _ u0 w.drew hleft inv0 (fun _ _ => rfl) hG (fun i hi hl => (by rw [hnone i hi] at hl; cases hl)) (fun i j hi hj hl => (by rw [hnone i hi] at hl; cases hl))
  rw [show ds.length + (l.toArray.size - ds.length) = l.toArray.size by omega] at h
  have e : (Code.region id l.toArray true).wp P Q a w = (Code.region id l.toArray true).wp P Q a w := rfl
  rw [← ha] at h
  exact h
end Go.Proofs.YtmnmfidcldmhdaaDoor
