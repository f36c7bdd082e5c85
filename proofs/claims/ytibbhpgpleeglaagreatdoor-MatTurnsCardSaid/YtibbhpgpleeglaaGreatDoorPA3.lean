/- The walks and plain laws beneath the statements. -/
import Derived.Test.YtibbhpgpleeglaaGreatDoorPA2
import Derived.Maps.AppendAt
namespace Go.Proofs.YtibbhpgpleeglaaGreatDoor
open Go Go.RowKit

/-- A table, read: so many rows, each of so many elements of k cells. -/
def RdT (w : World) (A : Option Addr) (n k : Nat) (ms : Nat → Nat) (F : Nat → Nat → List Value) : Prop :=
  0 < n → ∃ b off, A = some ⟨b, off, none⟩ ∧ ∀ i, i < n → ∃ Ai ci, ms i ≤ ci ∧ (Ai = none → ms i = 0 ∧ ci = 0) ∧ w.cell? ⟨b, off + i, none⟩ = some (.slice Ai (ms i) ci) ∧ RdK w Ai (ms i) k (F i)
theorem RdK.below {w w' : World} {A : Option Addr} {n k : Nat} {f : Nat → List Value} (hk : ∀ j, (f j).length = k) (h : RdK w A n k f) (hb : Below w.heap.size w w') : RdK w' A n k f := fun h0 => by
  obtain ⟨b, off, e, hc⟩ := h h0
  refine ⟨b, off, e, fun j hj i hi => ?_⟩
  have h1 := hc j hj i hi
  obtain ⟨u, hu⟩ : ∃ u, (f j)[i]? = some u := ⟨_, List.getElem?_eq_getElem (by rw [hk]; exact hi)⟩
  rw [hu] at h1 ⊢
  exact cell_later hb h1
theorem RdT.below {w w' : World} {A : Option Addr} {n k : Nat} {ms : Nat → Nat} {F : Nat → Nat → List Value} (hk : ∀ i j, (F i j).length = k) (h : RdT w A n k ms F) (hb : Below w.heap.size w w') : RdT w' A n k ms F := fun h0 => by
  obtain ⟨b, off, e, hc⟩ := h h0
  refine ⟨b, off, e, fun i hi => ?_⟩
  obtain ⟨Ai, ci, h1, h2, h3, h4⟩ := hc i hi
  exact ⟨Ai, ci, h1, h2, cell_later hb h3, h4.below (hk i) hb⟩
/-- A table that the call has made. -/
def OwnT (w : World) (base : Nat) (e : TypeId) (k : Nat) (v : Value) (n : Nat) (ms : Nat → Nat) (F : Nat → Nat → List Value) : Prop :=
  ∃ (As : Nat → Option Addr) (cs : Nat → Nat), OwnK w base e 1 v n (fun j => [.slice (As j) (ms j) (cs j)]) ∧ ∀ j, j < n → ms j ≤ cs j ∧ (As j = none → ms j = 0 ∧ cs j = 0) ∧ RdK w (As j) (ms j) k (F j) ∧ (∀ a, As j = some a → a.block < w.heap.size ∧ v.ownBlock ≠ some a.block)
theorem OwnT.nil_ (w : World) (base : Nat) (e : TypeId) (k : Nat) (ms : Nat → Nat) (F : Nat → Nat → List Value) : OwnT w base e k (.slice none 0 0) 0 ms F := ⟨fun _ => none, fun _ => 0, OwnK.nil_ _ _ _ _ _, fun j hj => absurd hj (by omega)⟩
theorem OwnT.below {w w' : World} {base : Nat} {e : TypeId} {k : Nat} {v : Value} {n : Nat} {ms : Nat → Nat} {F : Nat → Nat → List Value} (hk : ∀ i j, (F i j).length = k) (h : OwnT w base e k v n ms F) (hb : Below w.heap.size w w') : OwnT w' base e k v n ms F := by
  obtain ⟨As, cs, h1, h2⟩ := h
  refine ⟨As, cs, h1.below hb, fun j hj => ?_⟩
  obtain ⟨a1, a2, a3, a4⟩ := h2 j hj
  exact ⟨a1, a2, a3.below (hk j) hb, fun a ha => ⟨Nat.lt_of_lt_of_le (a4 a ha).1 hb.size, (a4 a ha).2⟩⟩
theorem OwnT.drew {w : World} {base : Nat} {e : TypeId} {k : Nat} {v : Value} {n : Nat} {ms : Nat → Nat} {F : Nat → Nat → List Value} (h : OwnT w base e k v n ms F) : OwnT w.drew base e k v n ms F := h
theorem OwnT.congr {w : World} {base : Nat} {e : TypeId} {k : Nat} {v : Value} {n : Nat} {ms ms' : Nat → Nat} {F F' : Nat → Nat → List Value} (h : OwnT w base e k v n ms F) (h1 : ∀ j, j < n → ms j = ms' j) (h2 : ∀ j, j < n → ∀ i, i < ms j → F j i = F' j i) : OwnT w base e k v n ms' F' := by
  obtain ⟨As, cs, a1, a2⟩ := h
  refine ⟨As, cs, a1.congr fun j hj => by rw [h1 j hj], fun j hj => ?_⟩
  obtain ⟨b1, b2, b3, b4⟩ := a2 j hj
  rw [← h1 j hj]
  refine ⟨b1, b2, fun h0 => ?_, b4⟩
  obtain ⟨b, off, e, hc⟩ := b3 h0
  exact ⟨b, off, e, fun i hi l hl => by rw [← h2 j hj i hi]; exact hc i hi l hl⟩
/-- What the slice is, and that it reads as the table. -/
theorem OwnT.rd {w : World} {base : Nat} {e : TypeId} {k : Nat} {v : Value} {n : Nat} {ms : Nat → Nat} {F : Nat → Nat → List Value} (h : OwnT w base e k v n ms F) : ∃ A c, v = .slice A n c ∧ n ≤ c ∧ RdT w A n k ms F ∧ (A = none → n = 0 ∧ c = 0) := by
  obtain ⟨As, cs, h1, h2⟩ := h
  obtain ⟨A, c, rfl, hnc, hrd, _, hno⟩ := OwnK.rd (k := 1) (fun _ => rfl) h1
  refine ⟨A, c, rfl, hnc, fun h0 => ?_, hno⟩
  obtain ⟨b, off, e, hc⟩ := hrd h0
  refine ⟨b, off, e, fun i hi => ?_⟩
  obtain ⟨a1, a2, a3, _⟩ := h2 i hi
  have h3 := hc i hi 0 (by decide)
  rw [Nat.mul_one, Nat.add_zero] at h3
  exact ⟨As i, cs i, a1, a2, h3, a3⟩
section
variable {P : Program} {w : World} {ops : Array Oper} {rest : List Oper} {o : Oper} {a : Act} {Q : Exit → Act → World → Prop}
/-- append(out, row): the row lies in another block than the table. -/
theorem wpList_appendT (hgd : o.guard = none) (s x : Operand) (t : TypeId)
    (ho : o.op = .call { callee := .builtin .append, args := #[s, x], argTypes := #[t, t] })
    (base : Nat) (e : TypeId) (z : Value) (k bytes : Nat) (ht : P.underlying t = some (.slice e)) (hinfo : (P.info? e).map (fun i => (i.zero, i.size, i.bytes)) = some (some z, 1, bytes)) (hz1 : z.cells.size = 1)
    (v : Value) (n : Nat) (ms : Nat → Nat) (F : Nat → Nat → List Value) (_ : ∀ i j, (F i j).length = k) (hs : a.eval s = v) (hown : OwnT w base e k v n ms F) (ad : Addr) (hx : a.eval x = .slice (some ad) 1 1) (had : ad.spot = none)
    (A : Option Addr) (c : Nat) (hcell : w.cell? ad = some (.slice A (ms n) c)) (hmc : ms n ≤ c) (hA : A = none → ms n = 0 ∧ c = 0) (hrow : RdK w A (ms n) k (F n)) (hne : ∀ a, A = some a → a.block < w.heap.size ∧ v.ownBlock ≠ some a.block)
    (h63 : n + 1 ≤ 9223372036854775807) (hbytes : (n + 1) * bytes ≤ 140737488355328) (hbase : base ≤ w.heap.size)
    (h : ∀ v' w', OwnT w' base e k v' (n + 1) ms F → Below base w w' → wpList P ops Q rest (a.put o.dst v') w') :
    wpList P ops Q (o :: rest) a w := by
  obtain ⟨i, hi, hz, hsz, hby⟩ := info_parts hinfo
  obtain ⟨As, cs, h1, h2⟩ := hown
  obtain ⟨blk, off, sl⟩ := ad
  obtain rfl : sl = none := had
  have hlt := h1.lt
  refine wpList_append_own_at (P := P) (w := w) hgd s x t ho base e i z 1 bytes ht hi hz hsz hby hz1 (by decide) v n _ hs h1 ⟨blk, off, none⟩ 1 1 [.slice A (ms n) c] hx rfl ?_ ?_ (by unfold maxLen; omega) hbytes hbase ?_
  · intro j u hj
    have hj0 : j = 0 := by
      rcases j with _ | j
      · rfl
      · simp at hj
    subst hj0
    simp at hj
    subst hj
    exact hcell
  · intro u hu
    simp at hu
    subst hu
    rfl
  · intro v' w' hown' hgr _ hat
    have hkeep : ∀ g, g < w.heap.size → v.ownBlock ≠ some g → w'.heap[g]? = w.heap[g]? := fun g hg hn => hgr.block g hg (fun e => hn e.symm)
    have hv' : ∀ g, g < w.heap.size → v.ownBlock ≠ some g → v'.ownBlock ≠ some g := fun g hg hn he => by
      rcases hat with h0 | h0
      · exact hn (h0 ▸ he)
      · rw [h0] at he; injection he with he; omega
    have hrk : ∀ (B : Option Addr) (m : Nat) (f : Nat → List Value), (∀ a, B = some a → a.block < w.heap.size ∧ v.ownBlock ≠ some a.block) → RdK w B m k f → RdK w' B m k f := fun B m f hB hr h0 => by
      obtain ⟨b, off, e, hc⟩ := hr h0
      have h3 := hB _ e
      exact ⟨b, off, e, fun j hj i hi => (World.cell?_of_block (w := w) (a := ⟨b, off + j * k + i, none⟩) (hkeep b h3.1 h3.2)).trans (hc j hj i hi)⟩
    refine h v' w' ⟨fun j => if j = n then A else As j, fun j => if j = n then c else cs j, ?_, fun j hj => ?_⟩ ((Below.refl _ _).grown hgr hbase (fun k hk => (hlt k hk).1))
    · have e1 : flatK (fun j => [.slice (if j = n then A else As j) (ms j) (if j = n then c else cs j)]) (n + 1) = flatK (fun j => [.slice (As j) (ms j) (cs j)]) n ++ [.slice A (ms n) c] := by
        show flatK _ n ++ _ = _
        rw [flatK_congr (g := fun j => [Value.slice (As j) (ms j) (cs j)]) (fun j hj => by simp [show ¬ j = n by omega])]
        simp
      show World.ownsRow _ _ _ _ _ _ _
      rw [e1]
      exact hown'
    · by_cases e : j = n
      · subst e
        simp only [if_true]
        exact ⟨hmc, hA, hrk _ _ _ hne hrow, fun a ha => ⟨Nat.lt_of_lt_of_le (hne a ha).1 hgr.size, hv' _ (hne a ha).1 (hne a ha).2⟩⟩
      · simp only [if_neg e]
        obtain ⟨b1, b2, b3, b4⟩ := h2 j (by omega)
        exact ⟨b1, b2, hrk _ _ _ b4 b3, fun a ha => ⟨Nat.lt_of_lt_of_le (b4 a ha).1 hgr.size, hv' _ (b4 a ha).1 (b4 a ha).2⟩⟩
/-- append(s, x...): the new elements are a row's, which may be nil. -/
theorem wpList_appendRow (hgd : o.guard = none) (s x : Operand) (t : TypeId)
    (ho : o.op = .call { callee := .builtin .append, args := #[s, x], argTypes := #[t, t] })
    (base : Nat) (e : TypeId) (z : Value) (k bytes : Nat) (ht : P.underlying t = some (.slice e)) (hinfo : (P.info? e).map (fun i => (i.zero, i.size, i.bytes)) = some (some z, k, bytes)) (hz1 : z.cells.size = k) (hk0 : 0 < k)
    (v : Value) (hs : a.eval s = v) (f : Nat → List Value) (hf : ∀ j, (f j).length = k) (hown : OwnK w base e k v 0 f) (A : Option Addr) (m c : Nat) (h1 : ∀ j u, u ∈ f j → u.oneCell' = true)
    (hx : a.eval x = .slice A m c) (hA : A = none → m = 0 ∧ c = 0) (hrd : RdK w A m k f)
    (h63 : m ≤ 9223372036854775807) (hbytes : m * bytes ≤ 140737488355328) (hbase : base ≤ w.heap.size)
    (h : ∀ v' w', OwnK w' base e k v' m f → Below base w w' → wpList P ops Q rest (a.put o.dst v') w') :
    wpList P ops Q (o :: rest) a w := by
  obtain ⟨i, hi, hz, hsz, hby⟩ := info_parts hinfo
  cases A with
  | none =>
    obtain ⟨rfl, rfl⟩ := hA rfl
    exact wpList_append_own_none hgd s x t ho base e i k ht hi v 0 _ hs hown hx (h v w hown (Below.refl _ _))
  | some ad =>
    have hl := flatK_len hf m
    refine wpList_append_own (P := P) _ hgd s x t ho base e i z k bytes ht hi hz hsz hby hz1 hk0 v 0 (flatK f 0) hs hown ad m c (flatK f m) hx hl ?_ ?_ (by unfold maxLen; omega) (by rw [Nat.zero_add]; exact hbytes) hbase ?_
    · intro j u hj
      have hlt : j < m * k := by rw [← hl]; exact (List.getElem?_eq_some_iff.1 hj).1
      have hm0 : 0 < m := Nat.pos_of_ne_zero fun e0 => by subst e0; simp at hlt
      have e1 : j = j / k * k + j % k := by rw [Nat.mul_comm]; exact (Nat.div_add_mod j k).symm
      have hjm : j / k < m := (Nat.div_lt_iff_lt_mul hk0).2 hlt
      have hjk : j % k < k := Nat.mod_lt _ hk0
      rw [e1, flatK_at hf hjm hjk] at hj
      obtain ⟨blk, off, e2, hc⟩ := hrd hm0
      injection e2 with e2
      subst e2
      rw [add_plain, e1, ← Nat.add_assoc]
      exact (hc _ hjm _ hjk).trans hj
    · intro u hu
      have key : ∀ m, u ∈ flatK f m → u.oneCell' = true := by
        intro m
        induction m with
        | zero => intro h; cases h
        | succ m ih =>
          intro h
          rcases List.mem_append.1 h with h | h
          · exact ih h
          · exact h1 m u h
      exact key m hu
    · intro v' w' hown' hgr _
      rw [show flatK f 0 ++ flatK f m = flatK f m from rfl, Nat.zero_add] at hown'
      exact h v' w' hown' ((Below.refl _ _).grown hgr hbase (fun k hk => (hown.lt k hk).1))
end
theorem OwnT.lt {w : World} {base : Nat} {e : TypeId} {k : Nat} {v : Value} {n : Nat} {ms : Nat → Nat} {F : Nat → Nat → List Value} (h : OwnT w base e k v n ms F) : ∀ g, v.ownBlock = some g → base ≤ g ∧ g < w.heap.size := by
  obtain ⟨As, cs, h1, _⟩ := h
  exact h1.lt
/-- A new empty block is a row without elements. -/
theorem own_new0 (w : World) (e : TypeId) (k base : Nat) (hb : base ≤ w.heap.size) (f : Nat → List Value) : OwnK (w.alloc (.cells #[] e)) base e k (.slice (some ⟨w.heap.size, 0, none⟩) 0 0) 0 f :=
  ⟨by simp [flatK], .inr ⟨w.heap.size, 0, #[], rfl, hb, heap_alloc_new w _, Nat.le_refl _, Nat.zero_le _, by simp, by simp [flatK]⟩⟩
/-- A row that the call has made lies apart from what was made before. -/
theorem OwnK.apart {w : World} {base : Nat} {e : TypeId} {k : Nat} {v : Value} {n : Nat} {f : Nat → List Value} (h : OwnK w base e k v n f) {u : Value} (hu : ∀ g, u.ownBlock = some g → g < base) {A : Option Addr} {m c : Nat} (hv : v = .slice A m c) : ∀ a, A = some a → a.block < w.heap.size ∧ u.ownBlock ≠ some a.block := fun a ha => by
  subst hv
  subst ha
  have h1 := h.lt a.block rfl
  exact ⟨h1.2, fun h2 => by have := hu _ h2; omega⟩
end Go.Proofs.YtibbhpgpleeglaaGreatDoor

