/- The walks and plain laws beneath the statements. -/
import Derived.Test.YtibbhpgpleeglaaGreatDoorPA3
import Derived.ArgAppend
namespace Go.Proofs.YtibbhpgpleeglaaGreatDoor
open Go Go.RowKit

theorem Cel.sets {g : Nat} {t : TypeId} {T : Nat} : ∀ (vs : List Value) (o : Nat) (w : World) (f : Nat → Value), Cel w g t T f → Cel (w.setCells g o vs) g t T (fun j => if o ≤ j ∧ j < o + vs.length then vs.getD (j - o) undef else f j)
  | [], o, w, f, h => h.congr fun j _ => by rw [if_neg (fun h1 => by have h2 : j < o + 0 := h1.2; omega)]
  | v :: r, o, w, f, h => by
    have h1 := Cel.sets r (o + 1) (w.setCell ⟨g, o, none⟩ v) _ (h.set_ o v)
    refine h1.congr fun j hj => ?_
    by_cases e : j = o
    · subst e
      rw [if_neg (by omega), if_pos rfl, if_pos (by simp)]
      simp
    · by_cases e2 : o + 1 ≤ j ∧ j < o + 1 + r.length
      · rw [if_pos e2, if_pos (by simp; omega)]
        obtain ⟨k, rfl⟩ : ∃ k, j = o + 1 + k := ⟨j - (o + 1), by omega⟩
        rw [show o + 1 + k - (o + 1) = k by omega, show o + 1 + k - o = k + 1 by omega]
        rfl
      · rw [if_neg e2, if_neg e, if_neg (by simp; omega)]
theorem sets_below {B : Nat} {a : World} (g : Nat) (hg : B ≤ g) : ∀ (vs : List Value) (o : Nat) (w : World), Below B a w → Below B a (w.setCells g o vs)
  | [], _, _, h => h
  | v :: r, o, _, h => sets_below g hg r (o + 1) _ (h.setCell (p := ⟨g, o, none⟩) hg v)
theorem OwnK.cel {w : World} {base : Nat} {e : TypeId} {k g n c : Nat} {f : Nat → List Value} (hk : ∀ j, (f j).length = k) (h : OwnK w base e k (.slice (some ⟨g, 0, none⟩) n c) n f) :
    ∃ F, Cel w g e (c * k) F ∧ n ≤ c ∧ c ≤ maxLen ∧ base ≤ g ∧ ∀ j, j < n → ∀ i, i < k → (f j)[i]? = some (F (j * k + i)) := by
  rcases h.2 with ⟨e0, _⟩ | ⟨g', cap, cur, e0, hb, hh, hn, hc, hs, hx⟩
  · cases e0
  · injection e0 with e1 e2 e3
    injection e1 with e1
    injection e1 with e1 _ _
    subst e1 e3
    refine ⟨fun j => cur.getD j undef, ⟨cur, hh, hs, fun j hj => by simp [Array.getD, hs, hj]⟩, hn, hc, hb, fun j hj i hi => ?_⟩
    have h2 : (j + 1) * k ≤ n * k := Nat.mul_le_mul_right _ (by omega)
    have h3 : n * k ≤ c * k := Nat.mul_le_mul_right _ hn
    rw [Nat.succ_mul] at h2
    have h4 : j * k + i < cur.size := by omega
    rw [← flatK_at hk hj hi, ← hx, List.getElem?_take_of_lt (by omega), Array.getElem?_toList]
    simp [Array.getD, h4]
theorem Cel.own {w : World} {base : Nat} {e : TypeId} {k g n c : Nat} {f : Nat → List Value} {F : Nat → Value} (hk : ∀ j, (f j).length = k) (hk0 : 0 < k) (h : Cel w g e (c * k) F) (hn : n ≤ c) (hc : c ≤ maxLen) (hb : base ≤ g) (hf : ∀ j, j < n → ∀ i, i < k → (f j)[i]? = some (F (j * k + i))) : OwnK w base e k (.slice (some ⟨g, 0, none⟩) n c) n f := by
  obtain ⟨cs, hh, hs, hx⟩ := h
  refine ⟨flatK_len hk n, .inr ⟨g, c, cs, rfl, hb, hh, hn, hc, hs, ?_⟩⟩
  have h3 : n * k ≤ c * k := Nat.mul_le_mul_right _ hn
  apply List.ext_getElem?
  intro j
  by_cases hj : j < n * k
  · have e1 : j = j / k * k + j % k := by rw [Nat.mul_comm]; exact (Nat.div_add_mod j k).symm
    have hjm : j / k < n := (Nat.div_lt_iff_lt_mul hk0).2 hj
    have hjk : j % k < k := Nat.mod_lt _ hk0
    rw [List.getElem?_take_of_lt hj, Array.getElem?_toList, hx j (by omega)]
    conv => rhs; rw [e1]
    rw [flatK_at hk hjm hjk, hf _ hjm _ hjk, ← e1]
  · rw [List.getElem?_eq_none (by simp; omega), List.getElem?_eq_none (by rw [flatK_len hk]; omega)]
theorem OwnK.lt_ {w : World} {base : Nat} {e : TypeId} {k : Nat} {v : Value} {n : Nat} {f : Nat → List Value} (h : OwnK w base e k v n f) : ∀ g, v.ownBlock = some g → base ≤ g ∧ g < w.heap.size := World.ownsRow.lt h
theorem OwnK.base_ {w : World} {base b' : Nat} {e : TypeId} {k : Nat} {v : Value} {n : Nat} {f : Nat → List Value} (h : OwnK w base e k v n f) (hb : b' ≤ base) : OwnK w b' e k v n f := by
  refine ⟨h.1, ?_⟩
  rcases h.2 with h0 | ⟨g, cap, cur, e1, hb1, r⟩
  · exact .inl h0
  · exact .inr ⟨g, cap, cur, e1, Nat.le_trans hb hb1, r⟩
section
variable {P : Program} {w : World} {ops : Array Oper} {rest : List Oper} {o : Oper} {a : Act} {Q : Exit → Act → World → Prop}
/-- append(s, x...) where there is room, x being of the same block. -/
theorem wpList_append_room (hgd : o.guard = none) (s x : Operand) (t : TypeId)
    (ho : o.op = .call { callee := .builtin .append, args := #[s, x], argTypes := #[t, t] })
    (e : TypeId) (k : Nat) (ht : P.underlying t = some (.slice e)) (hinfo : (P.info? e).map (fun i => i.size) = some k)
    (g n c m c' off : Nat) (B : Addr) (hs : a.eval s = .slice (some ⟨g, 0, none⟩) n c) (hx : a.eval x = .slice (some B) m c') (hB : 0 < m → B = ⟨g, off, none⟩)
    (te : TypeId) (T : Nat) (F : Nat → Value) (hC : Cel w g te T F) (h1 : ∀ j, j < m * k → (F (off + j)).oneCell' = true) (hroom : n + m ≤ c) (hT : (n + m) * k ≤ T) (hoff : off + m * k ≤ T)
    (h : ∀ w', Cel w' g te T (fun j => if n * k ≤ j ∧ j < (n + m) * k then F (off + (j - n * k)) else F j) → (∀ B' a0, B' ≤ g → Below B' a0 w → Below B' a0 w') → wpList P ops Q rest (a.put o.dst (.slice (some ⟨g, 0, none⟩) (n + m) c)) w') :
    wpList P ops Q (o :: rest) a w := by
  obtain ⟨i, hi, hsz⟩ : ∃ i, P.info? e = some i ∧ i.size = k := by
    cases hh : P.info? e with
    | none => rw [hh] at hinfo; cases hinfo
    | some i => rw [hh] at hinfo; exact ⟨i, rfl, Option.some.inj hinfo⟩
  obtain ⟨news, hnews⟩ : ∃ l : List Value, l = (List.range (m * k)).map fun j => F (off + j) := ⟨_, rfl⟩
  have hlen : news.length = m * k := by rw [hnews]; simp
  have hmul : (n + m) * k = n * k + m * k := Nat.add_mul _ _ _
  have hat : ∀ j u, news[j]? = some u → j < m * k ∧ u = F (off + j) := fun j u hu => by
    rw [hnews] at hu
    by_cases hj : j < m * k
    · simp [hj] at hu
      exact ⟨hj, hu.symm⟩
    · simp [hj] at hu
  refine wpList_plain hgd fun K hK' => ?_
  have hrun := run_append_room_cells (P := P) w t o.type e i ht hi g 0 n c B m c' news (by rw [hsz]; exact hlen) (fun j u hu => by
      obtain ⟨hj, rfl⟩ := hat j u hu
      have hm : 0 < m := Nat.pos_of_ne_zero fun e0 => by subst e0; omega
      rw [hB hm, add_plain]
      exact hC.cell (by omega)) (fun u hu => by
      obtain ⟨j, hj⟩ := List.getElem?_of_mem hu
      obtain ⟨hj2, rfl⟩ := hat j u hj
      exact h1 _ hj2) hroom (fun j hj => by rw [hsz, hC.cell (by omega)]; rfl) (fun j _ => hC.frozen _)
  have hC2 := Cel.sets news (n * k) w F hC
  have hK2 := h (w.setCells g (n * k) news) (hC2.congr fun j hj => by
    rw [hlen]
    by_cases e2 : n * k ≤ j ∧ j < n * k + m * k
    · rw [if_pos e2, if_pos (by omega), hnews]
      simp [show j - n * k < m * k by omega]
    · rw [if_neg e2, if_neg (by omega)]) (fun B' a0 hB' hb => sets_below g hB' news _ _ hb)
  rw [hsz, Nat.zero_add] at hrun
  unfold Oper.wp
  simp [execOp, ho, resolve, invoke, builtin, hs, hx, hrun, Result.andThen]
  exact hK' _ _ hK2
/-- append(s, x...): the new elements are a row's, which may be nil. -/
theorem wpList_appendRowN (hgd : o.guard = none) (s x : Operand) (t : TypeId)
    (ho : o.op = .call { callee := .builtin .append, args := #[s, x], argTypes := #[t, t] })
    (base : Nat) (e : TypeId) (z : Value) (k bytes : Nat) (ht : P.underlying t = some (.slice e)) (hinfo : (P.info? e).map (fun i => (i.zero, i.size, i.bytes)) = some (some z, k, bytes)) (hz1 : z.cells.size = k) (hk0 : 0 < k)
    (v : Value) (n : Nat) (f : Nat → List Value) (hs : a.eval s = v) (hown : OwnK w base e k v n f) (g : Nat → List Value) (hg : ∀ j, (g j).length = k) (A : Option Addr) (m c : Nat) (h1 : ∀ j u, u ∈ g j → u.oneCell' = true)
    (hx : a.eval x = .slice A m c) (hA : A = none → m = 0 ∧ c = 0) (hrd : RdK w A m k g)
    (h63 : n + m ≤ 9223372036854775807) (hbytes : (n + m) * bytes ≤ 140737488355328) (hbase : base ≤ w.heap.size)
    (h : ∀ v' w', OwnK w' base e k v' (n + m) (fun j => if j < n then f j else g (j - n)) → Below base w w' → wpList P ops Q rest (a.put o.dst v') w') :
    wpList P ops Q (o :: rest) a w := by
  obtain ⟨i, hi, hz, hsz, hby⟩ := info_parts hinfo
  have e0 : flatK f n ++ flatK g m = flatK (fun j => if j < n then f j else g (j - n)) (n + m) := by
    rw [flatK_add]
    congr 1
    · exact flatK_congr fun j hj => by rw [if_pos hj]
    · exact flatK_congr fun j _ => by rw [if_neg (by omega), Nat.add_sub_cancel_left]
  cases A with
  | none =>
    obtain ⟨rfl, rfl⟩ := hA rfl
    exact wpList_append_own_none hgd s x t ho base e i k ht hi v n _ hs hown hx (h v w (hown.congr fun j hj => by rw [if_pos hj]) (Below.refl _ _))
  | some ad =>
    have hl := flatK_len hg m
    refine wpList_append_own (P := P) _ hgd s x t ho base e i z k bytes ht hi hz hsz hby hz1 hk0 v n (flatK f n) hs hown ad m c (flatK g m) hx hl ?_ ?_ (by unfold maxLen; omega) hbytes hbase ?_
    · intro j u hj
      have hlt : j < m * k := by rw [← hl]; exact (List.getElem?_eq_some_iff.1 hj).1
      have hm0 : 0 < m := Nat.pos_of_ne_zero fun e0 => by subst e0; simp at hlt
      have e1 : j = j / k * k + j % k := by rw [Nat.mul_comm]; exact (Nat.div_add_mod j k).symm
      have hjm : j / k < m := (Nat.div_lt_iff_lt_mul hk0).2 hlt
      have hjk : j % k < k := Nat.mod_lt _ hk0
      rw [e1, flatK_at hg hjm hjk] at hj
      obtain ⟨blk, off, e2, hc⟩ := hrd hm0
      injection e2 with e2
      subst e2
      rw [add_plain, e1, ← Nat.add_assoc]
      exact (hc _ hjm _ hjk).trans hj
    · intro u hu
      have key : ∀ m, u ∈ flatK g m → u.oneCell' = true := by
        intro m
        induction m with
        | zero => intro h; cases h
        | succ m ih =>
          intro h
          rcases List.mem_append.1 h with h | h
          · exact ih h
          · exact h1 m u h
      exact key m hu
    · intro v' w' hown' hgr _
      rw [e0] at hown'
      exact h v' w' hown' ((Below.refl _ _).grown hgr hbase (fun k hk => (hown.lt k hk).1))
/-- make([]T, n), the elements of many cells. -/
theorem wpList_make_K (hg : o.guard = none) (l c : Operand) (t : TypeId) (hop : o.op = Op.makeSlice t l c)
    (base : Nat) (e : TypeId) (z : Value) (k bytes : Nat) (h1 : P.underlying t = some (.slice e)) (hinfo : (P.info? e).map (fun i => (i.zero, i.size, i.bytes)) = some (some z, k, bytes)) (hz1 : z.cells.size = k) (hk0 : 0 < k)
    (kl kc : IntKind) (n : Nat) (hl : a.eval l = .int kl (n : Nat)) (hc : a.eval c = .int kc (n : Nat)) (b2 : bytes * n ≤ 281474976710656) (b3 : n ≤ 9223372036854775807) (b4 : base ≤ w.heap.size)
    (hK : ∀ w', OwnK w' base e k (.slice (some ⟨w.heap.size, 0, none⟩) n n) n (fun _ => z.cells.toList) → Below w.heap.size w w' → wpList P ops Q rest (a.put o.dst (.slice (some ⟨w.heap.size, 0, none⟩) n n)) w') :
    wpList P ops Q (o :: rest) a w := by
  obtain ⟨i, hi, hz, hsz, hby⟩ := info_parts hinfo
  refine wpList_make_full w hg l c t hop base e i z k h1 hi hz hsz kl kc n n n hl hc rfl rfl (by rw [hby]; exact b2) (by unfold maxLen; omega) b4 fun w' h2 h3 => hK w' ?_ ((Below.refl _ _).grown h3 (Nat.le_refl _) (fun k hk => by cases hk))
  unfold OwnK
  have e1 : flatK (fun _ => z.cells.toList) n = (madeCells z.cells (n * k)).toList := by
    apply List.ext_getElem?
    intro j
    have hlk : ∀ _ : Nat, z.cells.toList.length = k := fun _ => by rw [Array.length_toList]; exact hz1
    by_cases hj : j < n * k
    · have e1 : j = j / k * k + j % k := by rw [Nat.mul_comm]; exact (Nat.div_add_mod j k).symm
      have hjm : j / k < n := (Nat.div_lt_iff_lt_mul hk0).2 hj
      have hjk : j % k < k := Nat.mod_lt _ hk0
      conv => lhs; rw [e1]
      rw [flatK_at (f := fun _ => z.cells.toList) hlk hjm hjk]
      simp [madeCells, hj, hz1, hjk]
    · rw [List.getElem?_eq_none (by rw [flatK_len (f := fun _ => z.cells.toList) hlk]; omega), List.getElem?_eq_none (by simp [madeCells]; omega)]
  rw [e1]
  exact h2
/-- clear(s), s of one element. -/
theorem run_clear_one (t ty e : TypeId) (z : Value) (k : Nat) (ht : P.underlying t = some (.slice e)) (hv : ∀ w, (zeroValue e).run P w = .ok z w) (hz : (Builtin.zeroCells z.cells 1).toList = z.cells.toList) (hzl : z.cells.toList.length = k) (hz1 : ∀ u, u ∈ z.cells.toList → u.oneCell' = true)
    (g off m c : Nat) (hm : m = 1) (te : TypeId) (T : Nat) (F : Nat → Value) (hC : Cel w g te T F) (hoff : off + k ≤ T) :
    ∃ w' F', (Builtin.clear_ #[t] ty #[.slice (some ⟨g, off, none⟩) m c]).run P w = .ok (.tuple #[]) w' ∧ Cel w' g te T F' ∧ (∀ j, j < off → F' j = F j) ∧ (∀ B' a0, B' ≤ g → Below B' a0 w → Below B' a0 w') := by
  subst hm
  have hst := run_storeCells_cells (P := P) g off z.cells.toList 0 w (fun j hj => by rw [Nat.add_zero, hC.cell (by omega)]; rfl) (fun j _ => hC.frozen _) hz1
  rw [Nat.add_zero] at hst
  refine ⟨_, _, ?_, Cel.sets z.cells.toList off w F hC, fun j hj => by rw [if_neg (by omega)], fun B' a0 hB' hb => sets_below g hB' _ _ _ hb⟩
  simp [Builtin.clear_, run_underlying ht, hv, hz, hst]
end
end Go.Proofs.YtibbhpgpleeglaaGreatDoor

