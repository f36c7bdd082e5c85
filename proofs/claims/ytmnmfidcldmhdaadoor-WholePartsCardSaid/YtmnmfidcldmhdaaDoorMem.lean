/- Words for memory: a slice that reads as a row of values; a block that is known whole. -/
import Derived.Below
import Derived.Test.YtmnmfidcldmhdaaDoorMath
import Derived.Deep.Draws
import Derived.Lib.Hide
import Derived.WalkKit
import Derived.WalkSpells
import Derived.WalkLawsBesides
import Derived.WalkSmall
import Derived.Deep.OwnRows
import Derived.Laws.CopyOwn
import Derived.Laws.BytesArg
namespace Go.Proofs.YtmnmfidcldmhdaaDoor
open Go.RowKit

/-- A slice's first n cells. -/
def Rd (w : World) (A : Option Addr) (n : Nat) (f : Nat → Value) : Prop := 0 < n → ∃ b off, A = some ⟨b, off, none⟩ ∧ ∀ j, j < n → w.cell? ⟨b, off + j, none⟩ = some (f j)
/-- The slice does not lie in block g. -/
def Off (A : Option Addr) (g : Nat) : Prop := ∀ a, A = some a → a.block ≠ g
/-- Block g is T cells of type t, none frozen: f. -/
def Cel (w : World) (g : Nat) (t : TypeId) (T : Nat) (f : Nat → Value) : Prop := ∃ cs : Array Value, w.heap[g]? = some (.cells cs t (0, 0)) ∧ cs.size = T ∧ ∀ j, j < T → cs[j]? = some (f j)

/-- h in the n places from o on, f elsewhere. -/
def mix (o n : Nat) (h f : Nat → Value) (j : Nat) : Value := if o ≤ j ∧ j < o + n then h (j - o) else f j
theorem mix_in {o n i : Nat} {h f : Nat → Value} (hi : i < n) : mix o n h f (o + i) = h i := by unfold mix; rw [if_pos ⟨by omega, by omega⟩, Nat.add_sub_cancel_left]
theorem mix_congr {o n : Nat} {h h' f : Nat → Value} (hh : ∀ i, i < n → h i = h' i) (j : Nat) : mix o n h f j = mix o n h' f j := by
  unfold mix; split
  · exact hh _ (by omega)
  · rfl
theorem mix_set {o n i : Nat} {h h' f : Nat → Value} {u : Value} (hi : i < n) (hu : h' i = u) (hh : ∀ j, j < n → j ≠ i → h j = h' j) (j : Nat) : (if j = o + i then u else mix o n h f j) = mix o n h' f j := by
  by_cases e : j = o + i
  · subst e; rw [if_pos rfl, mix_in hi, hu]
  · rw [if_neg e]; unfold mix; split
    · exact hh _ (by omega) (by omega)
    · rfl
theorem cell_lt {w : World} {p : Addr} {u : Value} (h : w.cell? p = some u) : p.block < w.heap.size := by
  unfold World.cell? at h
  split at h
  · rename_i hh
    rcases Nat.lt_or_ge p.block w.heap.size with hlt | hge
    · exact hlt
    · rw [Array.getElem?_eq_none hge] at hh; cases hh
  · cases h

section
variable {w w' : World} {A : Option Addr} {n n' g : Nat} {t : TypeId} {T : Nat} {f f' : Nat → Value}
theorem Rd.of_le (h : Rd w A n f) (hn : n' ≤ n) : Rd w A n' f := fun h0 => by
  obtain ⟨b, off, e, hc⟩ := h (by omega)
  exact ⟨b, off, e, fun j hj => hc j (by omega)⟩
theorem Rd.congr (h : Rd w A n f) (hf : ∀ j, j < n → f j = f' j) : Rd w A n f' := fun h0 => by
  obtain ⟨b, off, e, hc⟩ := h h0
  exact ⟨b, off, e, fun j hj => by rw [hc j hj, hf j hj]⟩
theorem Rd.nil_ : Rd w A 0 f := fun h => absurd h (by omega)
theorem Rd.keep (h : Rd w A n f) (hk : ∀ p : Addr, p.block < w.heap.size → (∀ a, A = some a → p.block = a.block) → w'.cell? p = w.cell? p) : Rd w' A n f := fun h0 => by
  obtain ⟨b, off, rfl, hc⟩ := h h0
  exact ⟨b, off, rfl, fun j hj => by rw [hk _ (cell_lt (hc j hj)) (fun a ha => by injection ha with ha; subst ha; rfl)]; exact hc j hj⟩
theorem Rd.below (h : Rd w A n f) (hb : Below w.heap.size w w') : Rd w' A n f := h.keep fun _ hp _ => hb.cell hp
theorem Rd.drew (h : Rd w A n f) : Rd w.drew A n f := h
theorem Rd.drewN (h : Rd w A n f) (k : Nat) : Rd (w.drewN k) A n f := h
theorem Rd.alloc (h : Rd w A n f) (o : Obj) : Rd (w.alloc o) A n f := h.keep fun p hp _ => World.cell?_alloc_lt w o p hp
theorem Rd.grown (h : Rd w A n f) (hg : w.grownBy w' (some g)) (ho : Off A g) : Rd w' A n f := fun h0 => by
  obtain ⟨b, off, rfl, hc⟩ := h h0
  refine ⟨b, off, rfl, fun j hj => ?_⟩
  have hlt := cell_lt (hc j hj)
  exact (World.cell?_of_block (a := ⟨b, off + j, none⟩) (hg.block b hlt (fun e => ho _ rfl (by injection e)))).trans (hc j hj)

theorem Cel.lt (h : Cel w g t T f) : g < w.heap.size := by
  obtain ⟨cs, hh, _, _⟩ := h
  rcases Nat.lt_or_ge g w.heap.size with hlt | hge
  · exact hlt
  · rw [Array.getElem?_eq_none hge] at hh; cases hh
theorem Cel.cell (h : Cel w g t T f) {i : Nat} (hi : i < T) : w.cell? ⟨g, i, none⟩ = some (f i) := by
  obtain ⟨cs, hh, hs, hc⟩ := h
  rw [cell_of_row w g i cs t (0, 0) hh]; exact hc i hi
theorem Cel.frozen (h : Cel w g t T f) (i : Nat) : w.frozen? ⟨g, i, none⟩ = false := by
  obtain ⟨cs, hh, hs, hc⟩ := h
  simp [World.frozen?, hh]
theorem Cel.congr (h : Cel w g t T f) (hf : ∀ j, j < T → f j = f' j) : Cel w g t T f' := by
  obtain ⟨cs, hh, hs, hc⟩ := h
  exact ⟨cs, hh, hs, fun j hj => by rw [hc j hj, hf j hj]⟩
theorem Cel.drew (h : Cel w g t T f) : Cel w.drew g t T f := h
theorem Cel.drewN (h : Cel w g t T f) (n : Nat) : Cel (w.drewN n) g t T f := h
theorem Cel.below {B : Nat} (h : Cel w g t T f) (hb : Below B w w') (hg : g < B) : Cel w' g t T f := by
  obtain ⟨cs, hh, hs, hc⟩ := h
  exact ⟨cs, (hb.block g hg).trans hh, hs, hc⟩
theorem Cel.bel (h : Cel w g t T f) (hb : Below w.heap.size w w') : Cel w' g t T f := h.below hb h.lt
theorem Cel.alloc (h : Cel w g t T f) (o : Obj) : Cel (w.alloc o) g t T f := by
  have := h.lt
  obtain ⟨cs, hh, hs, hc⟩ := h
  exact ⟨cs, (Below.heap_alloc w o g this).trans hh, hs, hc⟩
theorem Cel.grown {row : Option Nat} (h : Cel w g t T f) (hb : w.grownBy w' row) (hg : some g ≠ row) : Cel w' g t T f := by
  have := h.lt
  obtain ⟨cs, hh, hs, hc⟩ := h
  exact ⟨cs, (hb.block g this hg).trans hh, hs, hc⟩
theorem Cel.set_ (h : Cel w g t T f) (i : Nat) (u : Value) : Cel (w.setCell ⟨g, i, none⟩ u) g t T (fun j => if j = i then u else f j) := by
  obtain ⟨cs, hh, hs, hc⟩ := h
  refine ⟨cs.setIfInBounds i u, ?_, by simpa using hs, fun j hj => ?_⟩
  · simp [World.setCell, Array.getElem?_modify, hh]
  · rw [Array.getElem?_setIfInBounds]
    by_cases e : i = j
    · subst e; simp [hs, hj]
    · have e' : ¬ j = i := fun h => e h.symm
      simp only [if_neg e, if_neg e', hc j hj]
theorem Cel.far (h : Cel w g t T f) {p : Addr} (hp : g ≠ p.block) (u : Value) : Cel (w.setCell p u) g t T f := by
  obtain ⟨cs, hh, hs, hc⟩ := h
  exact ⟨cs, (Below.heap_setCell w p u g hp).trans hh, hs, hc⟩
theorem Cel.new (w : World) (t : TypeId) (cs : Array Value) : Cel (w.alloc (.cells cs t)) w.heap.size t cs.size (fun j => cs.getD j undef) :=
  ⟨cs, heap_alloc_new w _, rfl, fun j hj => by simp [Array.getD, hj]⟩
theorem Cel.rd (h : Cel w g t T f) {o n : Nat} (hn : o + n ≤ T) : Rd w (some ⟨g, o, none⟩) n (fun j => f (o + j)) := fun _ => ⟨g, o, rfl, fun j hj => h.cell (by omega)⟩
theorem Off.of_lt {B : Nat} (h : ∀ a, A = some a → a.block < B) (hg : B ≤ g) : Off A g := fun a ha => by have := h a ha; omega
theorem Off.some_ {b o : Nat} (h : b ≠ g) : Off (some ⟨b, o, none⟩) g := fun a ha => by injection ha with ha; subst ha; exact h
theorem grownBy_trans {a b c : World} {row : Option Nat} (h : a.grownBy b row) (k : b.grownBy c row) : a.grownBy c row :=
  ⟨k.os.trans h.os, k.tape.trans h.tape, k.output.trans h.output, Nat.le_trans h.size k.size, fun i hi hne => (k.block i (Nat.lt_of_lt_of_le hi h.size) hne).trans (h.block i hi hne)⟩
theorem grownBy_drew {a b : World} {row : Option Nat} (h : a.grownBy b row) : a.grownBy b.drew row := ⟨h.os, h.tape, h.output, h.size, h.block⟩
theorem grownBy_drewN {a b : World} {row : Option Nat} (h : a.grownBy b row) (k : Nat) : a.grownBy (b.drewN k) row := ⟨h.os, h.tape, h.output, h.size, h.block⟩
theorem grownBy_alloc {a w : World} {row : Option Nat} (h : a.grownBy w row) (o : Obj) : a.grownBy (w.alloc o) row :=
  ⟨h.os, h.tape, h.output, Nat.le_trans h.size (by simp), fun i hi hne => (Below.heap_alloc w o i (Nat.lt_of_lt_of_le hi h.size)).trans (h.block i hi hne)⟩
theorem grownBy_setCell {a w : World} (h : a.grownBy w (some g)) {p : Addr} (hp : p.block = g ∨ a.heap.size ≤ p.block) (u : Value) : a.grownBy (w.setCell p u) (some g) :=
  ⟨h.os, h.tape, h.output, by simpa [World.setCell] using h.size, fun i hi hne => (Below.heap_setCell w p u i (by
    rintro rfl
    rcases hp with hp | hp
    · exact hne (by rw [hp])
    · omega)).trans (h.block i hi hne)⟩
theorem grownBy_of_below {a w : World} (h : Below a.heap.size a w) (row : Option Nat) : a.grownBy w row := ⟨h.os, h.tape, h.output, h.size, fun i hi _ => h.block i hi⟩
theorem grownBy_below {a w w1 : World} {row : Option Nat} (h : a.grownBy w row) (k : Below w.heap.size w w1) : a.grownBy w1 row := grownBy_trans h (grownBy_of_below k row)
theorem below_grownBy {a w w1 : World} {B : Nat} (h : Below B a w) (k : w.grownBy w1 (some g)) (hB : B ≤ w.heap.size) (hg : B ≤ g) : Below B a w1 := h.grown k hB (fun i hi => by injection hi with hi; omega)
theorem below_drewN' {B : Nat} {a w : World} (h : Below B a w) (n : Nat) : Below B a (w.drewN n) := ⟨h.os, h.tape, h.output, h.size, h.block⟩
theorem below_bel {B : Nat} {a w w1 : World} (h : Below B a w) (k : Below w.heap.size w w1) (hB : B ≤ w.heap.size) : Below B a w1 := h.trans (k.mono hB)
end

section
variable {P : Program} {w : World} {ops : Array Oper} {rest : List Oper} {o : Oper} {a : Act} {Q : Exit → Act → World → Prop}
theorem Cel.made (w : World) (e : TypeId) (z : Value) (n : Nat) : Cel (w.alloc (.cells (madeCells #[z] n) e)) w.heap.size e n (fun _ => z) :=
  ⟨madeCells #[z] n, heap_alloc_new w _, by simp [size_madeCells], fun j hj => by
    have h := toList_madeCells_one z n
    rw [← Array.getElem?_toList, h]; simp [hj]⟩
theorem run_index_at {T : TypeId} (s : ByteArray) (h : P.underlying T = some .string) (k : IntKind) (i : Int) (j : Nat) (hi : i = (j : Int)) (hj : j < s.size) (w : World) :
    (Instr.index T (.string s) (.int k i)).run P w = .ok (.int .u8 ((s.data.toList[j]'(by simpa using hj)).toNat : Nat)) w := by
  subst hi
  rw [run_index_string _ _ _ _ _ h, dif_pos ⟨by omega, by omega⟩]
  rfl
theorem fold_push (l : List Int) : ∀ s : ByteArray, l.foldl (fun r n => r.push (UInt8.ofNat n.toNat)) s = ⟨(s.data.toList ++ l.map fun n => UInt8.ofNat n.toNat).toArray⟩ := by
  induction l with
  | nil => intro s; simp
  | cons n l ih =>
    intro s
    rw [List.foldl_cons, ih]
    simp [ByteArray.push]
theorem add_plain (b off j : Nat) : (⟨b, off, none⟩ : Addr).add j = ⟨b, off + j, none⟩ := by
  unfold Addr.add
  split
  · rename_i h; subst h; rfl
  · rfl
/-- string(b): the bytes of a slice. -/
theorem run_bytes_rd (src dst e : TypeId) (hs : P.underlying src = some (.slice e)) (he : P.underlying e = some (.int .u8)) (hd : P.underlying dst = some .string) (A : Option Addr) (n c : Nat) (f : Nat → Nat)
    (hr : Rd w A n fun j => .int .u8 (f j : Nat)) : (convert src dst (.slice A n c)).run P w = .ok (.string ⟨((List.range n).map fun j => UInt8.ofNat (f j)).toArray⟩) w := by
  rw [run_convert_bytes_string w src dst e A n c hs he hd]
  by_cases hn : n = 0
  · subst hn
    rcases A with _ | a
    · simp [Conv.bytesToString]; rfl
    · rw [run_bytesToString w a 0 c [] (by have := run_loadCells (P := P) (w := w) a 0 (fun _ => undef) (fun j hj => by omega); simpa using this)]
      rfl
  · obtain ⟨b, off, rfl, hc⟩ := hr (by omega)
    have hl := run_loadCells (P := P) (w := w) ⟨b, off, none⟩ n (fun j => .int .u8 (f j : Nat)) (fun j hj => by rw [add_plain]; exact hc j hj)
    rw [run_bytesToString w _ n c ((List.range n).map fun j => (f j : Int)) (by rw [hl]; simp)]
    rw [fold_push]
    simp
/-- x << c on a uint64, the result in range. -/
theorem shl_u64 (a c : Nat) (ci : Int) (hci : ci = (c : Int)) (hc : c < 64) (h : a * 2 ^ c < LB) (yk : IntKind) : Op.shift .shl .u64 (a : Int) yk ci = pure (.int .u64 ((a * 2 ^ c : Nat) : Int)) := by
  subst hci
  rw [shift_shl_any _ _ _ _ (by omega)]
  rw [LB_eq] at h
  have e : min ((c : Int)).toNat IntKind.u64.bits = c := by simp [IntKind.bits]; omega
  rw [e, IntKind.wrap_u64]
  congr 2
  rw [show (2 : Int) ^ c = ((2 ^ c : Nat) : Int) by simp, ← Int.natCast_mul]
  omega
theorem shl_wrap (a c : Nat) (ci : Int) (hci : ci = (c : Int)) (h : a * 2 ^ c < LB) : IntKind.u64.wrap ((a : Int) * 2 ^ ci.toNat) = ((a * 2 ^ c : Nat) : Int) := by
  subst hci
  rw [LB_eq] at h
  rw [IntKind.wrap_u64, Int.toNat_natCast, show (2 : Int) ^ c = ((2 ^ c : Nat) : Int) by simp, ← Int.natCast_mul]
  omega
theorem shl_wrap_mod (a c : Nat) : IntKind.u64.wrap ((a : Int) * 2 ^ c) = ((a * 2 ^ c % LB : Nat) : Int) := by
  rw [IntKind.wrap_u64, show (2 : Int) ^ c = ((2 ^ c : Nat) : Int) by simp, ← Int.natCast_mul, LB_eq]
  omega
theorem shr_cast (a c : Nat) : (a : Int) / 2 ^ c = ((a / 2 ^ c : Nat) : Int) := by
  rw [Int.natCast_ediv, Int.natCast_pow]; rfl
theorem or_u64 (a b : Nat) (ha : a < LB) (hb : b < LB) : bits .or .u64 (a : Int) (b : Int) = ((a ||| b : Nat) : Int) := u64_or_nat a b ha hb
theorem shr_u64 (a c : Nat) (ci : Int) (hci : ci = (c : Int)) (hc : c < 64) (yk : IntKind) : Op.shift .shr .u64 (a : Int) yk ci = pure (.int .u64 ((a / 2 ^ c : Nat) : Int)) := by
  subst hci
  rw [shift_shr_any _ _ _ _ (by omega)]
  have e : min ((c : Int)).toNat IntKind.u64.bits = c := by simp [IntKind.bits]; omega
  rw [e, Int.natCast_ediv, Int.natCast_pow]
  rfl
/-- make([]T, n): a new block of n zero values. -/
theorem wpList_make_cel (hg : o.guard = none) (l c : Operand) (t : TypeId) (hop : o.op = Op.makeSlice t l c)
    (e : TypeId) (z : Value) (bytes : Nat) (h1 : P.underlying t = some (.slice e)) (hinfo : (P.info? e).map (fun i => (i.zero, i.size, i.bytes)) = some (some z, 1, bytes)) (hz1 : z.cells = #[z])
    (kl kc : IntKind) (L C : Int) (n : Nat) (hl : a.eval l = .int kl L) (hc : a.eval c = .int kc C) (hL : L = (n : Int)) (hC : C = (n : Int)) (b2 : bytes * n ≤ 281474976710656) (b3 : n ≤ 9223372036854775807)
    (hK : ∀ w', Cel w' w.heap.size e n (fun _ => z) → Below w.heap.size w w' → w.heap.size < w'.heap.size → wpList P ops Q rest (a.put o.dst (.slice (some ⟨w.heap.size, 0, none⟩) n n)) w') :
    wpList P ops Q (o :: rest) a w := by
  obtain ⟨i, hi, hz, hsz, hby⟩ := info_parts hinfo
  refine wpList_plain hg fun K hK' => ?_
  have hrun := run_make (P := P) w t e i z h1 hi hz kl kc n n (by omega) (by omega) (by rw [hby]; omega) (by omega)
  simp only [Int.toNat_natCast, hsz, Nat.mul_one, hz1] at hrun
  subst hL
  subst hC
  unfold Oper.wp
  simp [execOp, hop, hl, hc, hrun, Result.andThen]
  exact hK' _ _ (hK _ (Cel.made w e z n) ((Below.refl _ w).alloc (Nat.le_refl _) _) (by simp))

/-- copy into a block that is known whole. -/
theorem wpList_copy_cel (hgd : o.guard = none) (d s : Operand) (dT sT : TypeId)
    (ho : o.op = .call { callee := .builtin .copy, args := #[d, s], argTypes := #[dT, sT] }) (elem : TypeId) (hu : P.underlying dT = some (.slice elem)) (hsz : (P.info? elem).map (·.size) = some 1)
    (dp sp : Option Addr) (dLen dCap sLen sCap : Nat) (hd : a.eval d = .slice dp dLen dCap) (hs : a.eval s = .slice sp sLen sCap)
    (g off T : Nat) (t : TypeId) (f fs : Nat → Value) (hg : Cel w g t T f) (m : Nat) (hn : m = Nat.min sLen dLen) (hdp : 0 < m → dp = some ⟨g, off, none⟩) (hr : Rd w sp m fs)
    (hfit : off + m ≤ T) (h1 : ∀ j, (fs j).oneCell' = true)
    (h : ∀ w', Cel w' g t T (fun j => if off ≤ j ∧ j < off + m then fs (j - off) else f j) → w.grownBy w' (some g) → wpList P ops Q rest (a.put o.dst (goInt m)) w') :
    wpList P ops Q (o :: rest) a w := by
  by_cases hm : m = 0
  · subst hm
    refine wpList_copy_nothing hgd d s dT sT ho elem hu hsz dp sp dLen dCap sLen sCap hd hs hn.symm ?_
    exact h w (hg.congr fun j _ => by rw [if_neg (by omega)]) (World.grownBy.refl w _)
  · obtain ⟨cs, hh, hcs, hf⟩ := hg
    have hm' : 0 < m := by omega
    obtain ⟨b, o', rfl, hc⟩ := hr hm'
    obtain rfl := hdp hm'
    have hl : cs.toList.length = T := by simpa using hcs
    have hlen : ((List.range m).map fs).length = m := by simp
    refine wpList_copy_own hgd d s dT sT ho elem hu hsz g off dLen dCap _ sLen sCap hd hs cs t hh ((List.range m).map fs) (by simpa using hn) (fun j v hv => ?_) (by rw [hlen]; omega)
      (fun v hv => by obtain ⟨j, _, rfl⟩ := List.mem_map.1 hv; exact h1 j) ?_
    · by_cases hj : j < m
      · have e : v = fs j := by simp [hj] at hv; exact hv.symm
        subst e
        rw [← hc j hj]
        congr 1
        unfold Addr.add
        split
        · rename_i h0; subst h0; rfl
        · rfl
      · simp [hj] at hv
    · rw [show goInt ((List.range m).map fs).length = goInt m by simp]
      refine h _ ⟨_, setRow_heap w g _ _ t _ hh, by simp; omega, fun j hj => ?_⟩ ⟨rfl, rfl, rfl, by simp [World.setRow], fun i _ hne => ?_⟩
      · have e : (cs.toList.take off).length = off := by simp; omega
        simp only [List.getElem?_toArray]
        by_cases h1 : j < off
        · rw [List.getElem?_append_left (by omega), List.getElem?_take_of_lt h1, if_neg (by omega)]
          simpa using hf j hj
        · rw [List.getElem?_append_right (by omega), e]
          by_cases h2 : j < off + m
          · rw [List.getElem?_append_left (by omega), if_pos ⟨by omega, h2⟩]
            have h3 : j - off < m := by omega
            simp [h3]
          · rw [List.getElem?_append_right (by omega), if_neg (by omega), hlen]
            simp only [List.getElem?_drop]
            rw [show off + m + (j - off - m) = j by omega]
            simpa using hf j hj
      · simp only [World.setRow, Array.getElem?_modify]
        rw [if_neg (fun e => hne (by rw [e]))]
end
end Go.Proofs.YtmnmfidcldmhdaaDoor
