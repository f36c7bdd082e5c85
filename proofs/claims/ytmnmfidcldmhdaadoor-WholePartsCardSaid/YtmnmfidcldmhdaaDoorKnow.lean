/- A region that draws its order: each of its first operations is run once, over what is known of the slots it reads. No program. -/
import Derived.Test.YtmnmfidcldmhdaaDoorGrow
import Derived.Test.YtmnmfidcldmhdaaDoorBox
namespace Go.Proofs.YtmnmfidcldmhdaaDoor
open Go Go.RowKit

/-- Which of these slots is it? -/
def idx (k : Nat) : List Nat → Nat → Option Nat
  | [], _ => none
  | d :: ds, i => if k = d then some i else idx k ds (i + 1)
theorem idx_some {k : Nat} : ∀ {ds : List Nat} {i j : Nat}, idx k ds i = some j → i ≤ j ∧ ds[j - i]? = some k
  | [], _, _, h => by cases h
  | d :: ds, i, j, h => by
    unfold idx at h
    split at h
    · subst_vars
      obtain rfl := Option.some.inj h
      exact ⟨Nat.le_refl _, by simp⟩
    · obtain ⟨h1, h2⟩ := idx_some h
      refine ⟨by omega, ?_⟩
      rw [show j - i = (j - (i + 1)) + 1 by omega, List.getElem?_cons_succ]
      exact h2
theorem idx_at {d : Nat} : ∀ {ds : List Nat} {i j : Nat}, ds.Nodup → ds[j]? = some d → idx d ds i = some (i + j)
  | [], _, _, _, h => by simp at h
  | e :: ds, i, 0, _, h => by
    simp at h; subst h
    simp [idx]
  | e :: ds, i, j + 1, hn, h => by
    rw [List.nodup_cons] at hn
    have h' : ds[j]? = some d := by simpa using h
    have hne : d ≠ e := fun e1 => hn.1 (e1 ▸ List.mem_of_getElem? h')
    unfold idx
    rw [if_neg hne, idx_at hn.2 h']
    congr 1; omega
theorem idx_mem {k d : Nat} {ds : List Nat} (h : idx k ds 0 = none) (hd : d ∈ ds) : k ≠ d := by
  have key : ∀ (ds : List Nat) (i : Nat), idx k ds i = none → d ∈ ds → k ≠ d := by
    intro ds
    induction ds with
    | nil => intro _ _ h; cases h
    | cons e ds ih =>
      intro i h hm
      unfold idx at h
      split at h
      · cases h
      · rcases List.mem_cons.1 hm with rfl | hm
        · assumption
        · exact ih _ h hm
  exact key ds 0 h hd
/-- The frame: what these slots hold is u's. -/
def frm (a : Act) (ds : List Nat) (u : Nat → Value) : Act := { a with tmps := Array.ofFn (n := a.tmps.size) fun k => match idx k.val ds 0 with | some i => u i | none => a.tmps.getD k.val undef }
theorem frm_size (a : Act) (ds : List Nat) (u : Nat → Value) : (frm a ds u).tmps.size = a.tmps.size := by simp [frm]
theorem frm_get (a : Act) (ds : List Nat) (u : Nat → Value) {k : Nat} (hk : k < a.tmps.size) : (frm a ds u).tmps[k]? = some (match idx k ds 0 with | some i => u i | none => a.tmps.getD k undef) := by
  simp [frm, hk]
theorem frm_head {a : Act} {ds : List Nat} {u : Nat → Value} {k i : Nat} {v : Value} (hk : k < a.tmps.size) (h : idx k ds 0 = some i) (hv : u i = v) : (frm a ds u).eval (.tmp k) = v := by
  show (frm a ds u).tmps.getD k undef = v
  rw [Array.getD_eq_getD_getElem?, frm_get a ds u hk, h, ← hv]; rfl
theorem frm_base {a : Act} {ds : List Nat} {u : Nat → Value} {k : Nat} {v : Value} (hk : k < a.tmps.size) (h : idx k ds 0 = none) (hv : a.tmps.getD k undef = v) : (frm a ds u).eval (.tmp k) = v := by
  show (frm a ds u).tmps.getD k undef = v
  rw [Array.getD_eq_getD_getElem?, frm_get a ds u hk, h, ← hv]; rfl
theorem frm_self (a : Act) (ds : List Nat) : a = frm a ds (fun i => a.tmps.getD (ds.getD i 0) undef) := by
  obtain ⟨t, d⟩ := a
  unfold frm
  congr 1
  apply Array.ext
  · simp
  · intro k h1 h2
    rw [Array.getElem_ofFn]
    cases e : idx k ds 0 with
    | none => simp [h1]
    | some i =>
      have h3 := (idx_some e).2
      rw [Nat.sub_zero] at h3
      simp [List.getD, h3, h1]
theorem frm_put {a : Act} {ds : List Nat} (hn : ds.Nodup) (u : Nat → Value) {i d : Nat} (hd : ds[i]? = some d) (v : Value) : (frm a ds u).put (some d) v = frm a ds (fun k => if k = i then v else u k) := by
  unfold frm Act.put
  simp only
  congr 1
  apply Array.ext
  · simp
  · intro k h1 h2
    rw [Array.getElem_setIfInBounds (by simpa using h2), Array.getElem_ofFn, Array.getElem_ofFn]
    by_cases e : d = k
    · subst e
      rw [if_pos rfl, idx_at hn hd]
      simp
    · rw [if_neg e]
      cases e2 : idx k ds 0 with
      | none => rfl
      | some j =>
        have hj : j ≠ i := fun e3 => by
          subst e3
          have h3 := (idx_some e2).2
          rw [Nat.sub_zero, hd] at h3
          exact e (Option.some.inj h3)
        simp only [if_neg hj]
theorem frm_puts {a : Act} {ds : List Nat} (hn : ds.Nodup) : ∀ (es : List Nat) (i : Nat), (∀ j d, es[j]? = some d → ds[i + j]? = some d) → PutsOk (fun _ _ u => frm a ds u) es i
  | [], _, _ => trivial
  | e :: es, i, h => ⟨fun _ _ u v => frm_put hn u (by simpa using h 0 e rfl) v, frm_puts hn es (i + 1) fun j d hj => by
      rw [show i + 1 + j = i + (j + 1) by omega]; exact h (j + 1) d (by simpa using hj)⟩

/-- What an operation waits for. -/
def waitsO (o : Oper) : List Nat := (o.after.toList.filter (Region.binds .any)).map (·.on)
/-- Its guard says b. -/
def Want (u : Nat → Value) (o : Oper) (b : Bool) : Prop := match o.guard with
  | none => b = true
  | some (g, c) => ∃ x, u g = .bool x ∧ b = (x == c)
/-- What is asked of operation i. -/
def KRun (P : Program) (G : World → Prop) (Φ : Nat → Value → World → Prop) (fr : Nat → Bool) (i : Nat) (o : Oper) (u : Nat → Value) (ev : Operand → Value) (W : World) : Prop :=
  (Want u o true ∧ ∃ v w', (execOp ev o).run P W = .ok (.value v) w' ∧ Below W.heap.size W w' ∧ G w' ∧ Φ i v w' ∧ (fr i = true → ∀ g, blk v = some g → W.heap.size ≤ g)) ∨
  (fr i = false ∧ Want u o true ∧ ∃ f args, (execOp ev o).run P W = .ok (.enter f args) W ∧ Calls P f args W fun e w' => ∃ v, e = .returned v ∧ Below W.heap.size W w' ∧ G w' ∧ Φ i v w') ∨
  (fr i = false ∧ Want u o false ∧ Φ i undef W)
def KOk (P : Program) (ds : List Nat) (A : Act) (G : World → Prop) (Φ : Nat → Value → World → Prop) (fr : Nat → Bool) (i : Nat) (o : Oper) : Prop :=
  ∀ (u : Nat → Value) (W : World), G W → (∀ j, j ∈ waitsO o → Φ j (u j) W) → KRun P G Φ fr i o u (frm A ds u).eval W
def KsOk (P : Program) (ds : List Nat) (A : Act) (G : World → Prop) (Φ : Nat → Value → World → Prop) (fr : Nat → Bool) : List Oper → Nat → Nat → Prop
  | o :: l, n + 1, i => KOk P ds A G Φ fr i o ∧ KsOk P ds A G Φ fr l n (i + 1)
  | _, _, _ => True
/-- What is asked of one that may come late. -/
def LOk (P : Program) (ds : List Nat) (A : Act) (Φ : Nat → Value → World → Prop) (i : Nat) (o : Oper) : Prop :=
  ∀ (u : Nat → Value) (W : World), (∀ j, j ∈ waitsO o → Φ j (u j) W) → ∃ v, Want u o true ∧ (∀ w, (execOp (frm A ds u).eval o).run P w = .ok (.value v) w) ∧ Φ i v W
def LsOk (P : Program) (ds : List Nat) (A : Act) (Φ : Nat → Value → World → Prop) (fr st : Nat → Bool) : List Oper → Nat → Nat → Prop
  | o :: l, n + 1, i => (match st i with | true => True | false => fr i = false ∧ LOk P ds A Φ i o) ∧ LsOk P ds A Φ fr st l n (i + 1)
  | _, _, _ => True
/-- Each guard is one of the first n. -/
def guardsB (ops : Array Oper) (n : Nat) : Bool := (List.range n).all fun i => match ops[i]? with | some o => (match o.guard with | some (g, _) => decide (g < n) | none => true) | none => true

theorem want_frm {ops : Array Oper} {ds : List Nat} {a : Act} {u : Nat → Value} (hn : ds.Nodup) (hds : ∀ i, i < ds.length → ∃ d, ds[i]? = some d ∧ d < a.tmps.size ∧ ∀ o, ops[i]? = some o → o.dst = some d) (hsz : ds.length ≤ ops.size)
    {o : Oper} (hg : ∀ g c, o.guard = some (g, c) → g < ds.length) {b : Bool} (h : Want u o b) : Region.wanted o (yielded ops (frm a ds u).tmps) = b := by
  unfold Region.wanted
  unfold Want at h
  split at h
  · rename_i e; rw [e]; exact h.symm
  · rename_i g c e
    obtain ⟨x, hx, rfl⟩ := h
    rw [e]
    obtain ⟨d, hd, hlt, ho⟩ := hds g (hg g c e)
    have hlt2 : g < ops.size := Nat.lt_of_lt_of_le (hg g c e) hsz
    have h1 : ops[g]? = some ops[g] := by simp [hlt2]
    have h2 : yielded ops (frm a ds u).tmps g = some x := by
      unfold yielded
      rw [h1, Option.bind_some, ho _ h1, Option.bind_some, frm_get a ds u hlt, idx_at hn hd, Nat.zero_add]
      simp only [hx]
    show (yielded ops (frm a ds u).tmps g == some c) = (x == c)
    rw [h2]; rfl

theorem KsOk.at {P : Program} {ds : List Nat} {A : Act} {G : World → Prop} {Φ : Nat → Value → World → Prop} {fr : Nat → Bool} : ∀ {l : List Oper} {n i : Nat}, KsOk P ds A G Φ fr l n i → ∀ j o, j < n → l[j]? = some o → KOk P ds A G Φ fr (i + j) o
  | [], _, _, _, _, _, _, ho => by simp at ho
  | _ :: _, 0, _, _, _, _, hj, _ => by omega
  | x :: l, n + 1, i, h, 0, o, _, ho => by
    simp at ho; subst ho; exact h.1
  | x :: l, n + 1, i, h, j + 1, o, hj, ho => by
    have := KsOk.at h.2 j o (by omega) (by simpa using ho)
    rwa [show i + 1 + j = i + (j + 1) by omega] at this
theorem LsOk.at {P : Program} {ds : List Nat} {A : Act} {Φ : Nat → Value → World → Prop} {fr st : Nat → Bool} : ∀ {l : List Oper} {n i : Nat}, LsOk P ds A Φ fr st l n i → ∀ j o, j < n → l[j]? = some o → st (i + j) = false → fr (i + j) = false ∧ LOk P ds A Φ (i + j) o
  | [], _, _, _, _, _, _, ho, _ => by simp at ho
  | _ :: _, 0, _, _, _, _, hj, _, _ => by omega
  | x :: l, n + 1, i, h, 0, o, _, ho, hs => by
    simp at ho; subst ho
    have h1 := h.1
    rw [Nat.add_zero] at hs
    rw [hs] at h1
    exact h1
  | x :: l, n + 1, i, h, j + 1, o, hj, ho, hs => by
    have e : i + 1 + j = i + (j + 1) := by omega
    have := LsOk.at h.2 j o (by omega) (by simpa using ho) (by rw [e]; exact hs)
    rwa [e] at this
def nodupB : List Nat → Bool | [] => true | d :: ds => !(ds.contains d) && nodupB ds
theorem nodup_of : ∀ {ds : List Nat}, nodupB ds = true → ds.Nodup
  | [], _ => List.nodup_nil
  | d :: ds, h => by
    simp only [nodupB, Bool.and_eq_true, Bool.not_eq_true', List.contains_eq_mem, decide_eq_false_iff_not] at h
    exact List.nodup_cons.2 ⟨h.1, nodup_of h.2⟩
/-- **The law**, in the words of slots. -/
theorem wp_region_know {P : Program} {id : Nat} {Q : Exit → Act → World → Prop} {a : Act} {w : World} {l : List Oper} (ds : List Nat) (G : World → Prop) (Φ : Nat → Value → World → Prop) (st : Nat → Bool) (fr : Nat → Bool)
    (hm : P.follows .mixedOrders = true) (hB : growB l.toArray ds.length st = true) (hQ : ∀ (d : Tmp) (v : Value) c a w, Q (.panic c) (a.put (some d) v) w → Q (.panic c) a w)
    (hds : ((List.range ds.length).all fun i => ((l.toArray[i]?).bind (·.dst)) == ds[i]?) = true) (hnb : nodupB ds = true) (N : Nat) (hN : a.tmps.size = N) (hlt : ds.all (· < N) = true) (hgd : guardsB l.toArray ds.length = true)
    (hG : G w.drew)
    (hst : ∀ i v w w', i < ds.length → Below w.heap.size w w' → Φ i v w → Φ i v w')
    (hfr : ∀ i v w, i < ds.length → fr i = true → Φ i v w → ∃ g, blk v = some g ∧ g < w.heap.size)
    (hop : ∀ A, A = a → KsOk P ds A G Φ fr l ds.length 0)
    (hlate : ∀ A, A = a → LsOk P ds A Φ fr st l ds.length 0)
    (htail : ∀ u w', G w' → (∀ i, i < ds.length → Φ i (u i) w') → (∀ i j, i < ds.length → j < ds.length → fr i = true → fr j = true → i ≠ j → blk (u i) ≠ blk (u j)) → wpList P l.toArray Q (l.drop ds.length) (putAll a ds 0 u) w') : (Code.region id l.toArray true).wp P Q a w := by
  rw [← hN] at hlt
  have hnd := nodup_of hnb
  have hsz : ds.length ≤ l.toArray.size := by
    simp only [growB, Bool.and_eq_true, decide_eq_true_eq] at hB
    exact hB.1.1.1.1.1.1
  have hd : ∀ i, i < ds.length → ∃ d, ds[i]? = some d ∧ d < a.tmps.size ∧ ∀ o, l.toArray[i]? = some o → o.dst = some d := fun i hi => by
    have h1 := List.all_eq_true.1 hds i (List.mem_range.2 hi)
    have h2 : ((l.toArray[i]?).bind (·.dst)) = ds[i]? := by simpa using h1
    refine ⟨ds[i], by simp [hi], by simpa using List.all_eq_true.1 hlt ds[i] (by simp), fun o ho => ?_⟩
    rw [ho] at h2
    have h3 : ds[i]? = some ds[i] := by simp [hi]
    rw [h3] at h2
    exact h2
  have hgg : ∀ i o, i < ds.length → l.toArray[i]? = some o → ∀ g c, o.guard = some (g, c) → g < ds.length := fun i o hi ho g c hg => by
    have h1 := List.all_eq_true.1 hgd i (List.mem_range.2 hi)
    rw [ho] at h1
    simp only [hg, decide_eq_true_eq] at h1
    exact h1
  refine wp_region_grow ds (fun _ _ u => frm a ds u) G Φ st hm hB hQ hds (frm_self a ds) hG (frm_puts hnd ds 0 fun j d h => by rw [Nat.zero_add]; exact h) hst fr hfr (fun _ _ _ => ?_) (fun _ _ _ i hi hs => ?_) htail
  · have hk := hop a rfl
    have key : ∀ n i, i + n = ds.length → OpsOk P l.toArray (frm a ds) G Φ fr n i := by
      intro n
      induction n with
      | zero => intro _ _; trivial
      | succ n ih =>
        intro i hi
        refine ⟨fun o ho u W hG hf Q K hK => ?_, ih (i + 1) (by omega)⟩
        have h1 := KsOk.at hk i o (by omega) (by simpa using ho)
        rw [Nat.zero_add] at h1
        have hw : waits l.toArray i = waitsO o := by unfold waits; rw [ho]; rfl
        rw [hw] at hf
        rcases h1 u W hG hf with ⟨hw, v, w', hr, hb, hg, hv, hn⟩ | ⟨hf0, hw, f, args, hr, hc⟩ | ⟨hf0, hw, hv⟩
        · rw [want_frm hnd hd hsz (hgg i o (by omega) ho) hw, if_pos rfl]
          unfold Oper.wp
          rw [hr]
          exact hK v w' hb hg hv hn
        · rw [want_frm hnd hd hsz (hgg i o (by omega) ho) hw, if_pos rfl]
          unfold Oper.wp
          rw [hr]
          refine hc.mono ?_
          rintro e w' ⟨v, rfl, hb, hg, hv⟩
          exact hK v w' hb hg hv (fun h => by rw [hf0] at h; cases h)
        · rw [want_frm hnd hd hsz (hgg i o (by omega) ho) hw, if_neg (by simp)]
          exact hK undef W (Below.refl _ _) hG hv (fun h => by rw [hf0] at h; cases h)
    exact key ds.length 0 (Nat.zero_add _)
  · have hlt2 : i < l.length := by simpa using Nat.lt_of_lt_of_le hi hsz
    obtain ⟨hf0, hl⟩ := LsOk.at (hlate a rfl) i l[i] hi (by simp [hlt2]) (by rw [Nat.zero_add]; exact hs)
    rw [Nat.zero_add] at hf0 hl
    refine ⟨hf0, fun o ho u W hf => ?_⟩
    have e : o = l[i] := by
      have h1 : l.toArray[i]? = some l[i] := by simp [hlt2]
      exact Option.some.inj (ho.symm.trans h1)
    subst e
    have hw : waits l.toArray i = waitsO l[i] := by unfold waits; rw [ho]; rfl
    rw [hw] at hf
    obtain ⟨v, hwt, hr, hv⟩ := hl u W hf
    exact ⟨v, .inl ⟨want_frm hnd hd hsz (hgg i _ hi ho) hwt, hr⟩, hv⟩
section
variable {P : Program} {G : World → Prop} {Φ : Nat → Value → World → Prop} {fr : Nat → Bool} {i : Nat} {o : Oper} {u : Nat → Value} {ev : Operand → Value} {W : World}
theorem k_val (v : Value) (hw : Want u o true) (hf : fr i = false) (hG : G W) (hr : (execOp ev o).run P W = .ok (.value v) W) (hv : Φ i v W) : KRun P G Φ fr i o u ev W :=
  .inl ⟨hw, v, W, hr, Below.refl _ _, hG, hv, fun h => by rw [hf] at h; cases h⟩
theorem k_new (v : Value) (x : Obj) (hw : Want u o true) (hr : (execOp ev o).run P W = .ok (.value v) (W.alloc x)) (hG : G (W.alloc x)) (hv : Φ i v (W.alloc x)) (hb : blk v = some W.heap.size) : KRun P G Φ fr i o u ev W :=
  .inl ⟨hw, v, W.alloc x, hr, b1 W x, hG, hv, fun _ g h => by rw [hb] at h; exact Nat.le_of_eq (Option.some.inj h)⟩
theorem k_call {R : Value} (f : FuncId) (args : Array Value) (hw : Want u o true) (hf : fr i = false) (hr : (execOp ev o).run P W = .ok (.enter f args) W) (hc : Calls P f args W fun e w' => e = .returned R ∧ Below W.heap.size W w') (hG : ∀ w', Below W.heap.size W w' → G w') (hv : ∀ w', Below W.heap.size W w' → Φ i R w') : KRun P G Φ fr i o u ev W :=
  .inr (.inl ⟨hf, hw, f, args, hr, hc.mono fun _ w' ⟨h, hb⟩ => ⟨R, h, hb, hG w' hb, hv w' hb⟩⟩)
theorem k_skip (hw : Want u o false) (hf : fr i = false) (hv : Φ i undef W) : KRun P G Φ fr i o u ev W := .inr (.inr ⟨hf, hw, hv⟩)
end
/-! What is known of the slots, as a list. -/
abbrev Kn := Value → World → Prop
def kAt (L : List Kn) (i : Nat) (v : Value) (W : World) : Prop := match L[i]? with | some p => p v W | none => True
def Stab (p : Kn) : Prop := ∀ v w w', Below w.heap.size w w' → p v w → p v w'
def AllS : List Kn → Prop | [] => True | p :: l => Stab p ∧ AllS l
theorem kAt_stab : ∀ {L : List Kn}, AllS L → ∀ (n i : Nat) (v : Value) (w w' : World), i < n → Below w.heap.size w w' → kAt L i v w → kAt L i v w'
  | [], _, _, _, _, _, _, _, _, _ => trivial
  | _ :: _, h, _, 0, v, w, w', _, hb, hv => h.1 v w w' hb hv
  | _ :: _, h, n, i + 1, v, w, w', hi, hb, hv => kAt_stab h.2 n i v w w' (by omega) hb hv
def AllF (fr : Nat → Bool) : List Kn → Nat → Prop | [], _ => True | p :: l, i => (fr i = true → ∀ v w, p v w → ∃ g, blk v = some g ∧ g < w.heap.size) ∧ AllF fr l (i + 1)
theorem kAt_fresh {fr : Nat → Bool} : ∀ {L : List Kn} {k : Nat}, AllF fr L k → ∀ (i : Nat) (v : Value) (w : World), i < L.length → fr (k + i) = true → kAt L i v w → ∃ g, blk v = some g ∧ g < w.heap.size
  | [], _, _, _, _, _, hi, _, _ => absurd hi (Nat.not_lt_zero _)
  | _ :: _, _, h, 0, v, w, _, hf, hv => h.1 hf v w hv
  | _ :: _, k, h, i + 1, v, w, hi, hf, hv => kAt_fresh h.2 i v w (by simpa using hi) (by rwa [show k + 1 + i = k + (i + 1) by omega]) hv
def eqK (c : Value) : Kn := fun v _ => v = c
def anyK : Kn := fun _ _ => True
def ptrK (B : Nat) (t : TypeId) (cs : Array Value) : Kn := fun v W => ∃ g, v = .pointer (some ⟨g, 0, none⟩) ∧ B ≤ g ∧ Bx W g t cs
def sliK (B : Nat) (t : TypeId) (n : Nat) (cs : Array Value) : Kn := fun v W => ∃ g, v = .slice (some ⟨g, 0, none⟩) n n ∧ B ≤ g ∧ Bx W g t cs
theorem stab_eq (c : Value) : Stab (eqK c) := fun _ _ _ _ h => h
theorem stab_any : Stab anyK := fun _ _ _ _ _ => trivial
theorem stab_ptr (B : Nat) (t : TypeId) (cs : Array Value) : Stab (ptrK B t cs) := fun _ _ _ hb ⟨g, e, h1, h⟩ => ⟨g, e, h1, h.later hb⟩
theorem stab_sli (B : Nat) (t : TypeId) (n : Nat) (cs : Array Value) : Stab (sliK B t n cs) := fun _ _ _ hb ⟨g, e, h1, h⟩ => ⟨g, e, h1, h.later hb⟩
theorem fresh_ptr {B : Nat} {t : TypeId} {cs : Array Value} (v : Value) (w : World) (h : ptrK B t cs v w) : ∃ g, blk v = some g ∧ g < w.heap.size := by
  obtain ⟨g, rfl, _, hx⟩ := h
  exact ⟨g, rfl, hx.lt⟩
theorem fresh_sli {B : Nat} {t : TypeId} {n : Nat} {cs : Array Value} (v : Value) (w : World) (h : sliK B t n cs v w) : ∃ g, blk v = some g ∧ g < w.heap.size := by
  obtain ⟨g, rfl, _, hx⟩ := h
  exact ⟨g, rfl, hx.lt⟩
theorem below_le {w W : World} (h : Below w.heap.size w W) : w.heap.size ≤ W.heap.size := h.size
end Go.Proofs.YtmnmfidcldmhdaaDoor
