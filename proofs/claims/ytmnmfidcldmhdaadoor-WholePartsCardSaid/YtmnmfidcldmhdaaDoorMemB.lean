/- Rows that a call makes by append; numbers of one bit in memory; no program. -/
import Derived.Test.YtmnmfidcldmhdaaDoorMem
namespace Go.Proofs.YtmnmfidcldmhdaaDoor
open Go.RowKit

/-- v is nil, or lies at the head of a block of the call's own from base on; its n elements read as f. -/
def OwnR (w : World) (base : Nat) (e : TypeId) (v : Value) (n : Nat) (f : Nat → Value) : Prop := w.ownsRow base e 1 v n ((List.range n).map f)

theorem OwnR.nil_ (w : World) (base : Nat) (e : TypeId) (f : Nat → Value) : OwnR w base e (.slice none 0 0) 0 f := ⟨by simp, .inl ⟨rfl, rfl⟩⟩
theorem OwnR.congr {w : World} {base : Nat} {e : TypeId} {v : Value} {n : Nat} {f f' : Nat → Value} (h : OwnR w base e v n f) (hf : ∀ j, j < n → f j = f' j) : OwnR w base e v n f' := by
  unfold OwnR at *
  rw [show (List.range n).map f' = (List.range n).map f from List.map_congr_left fun j hj => (hf j (by simpa using hj)).symm]
  exact h
/-- What the slice is, and that it reads as f. -/
theorem OwnR.rd {w : World} {base : Nat} {e : TypeId} {v : Value} {n : Nat} {f : Nat → Value} (h : OwnR w base e v n f) : ∃ A c, v = .slice A n c ∧ n ≤ c ∧ Rd w A n f ∧ (∀ a, A = some a → base ≤ a.block) := by
  rcases h.2 with ⟨rfl, rfl⟩ | ⟨g, cap, cur, rfl, hb, hh, hn, _, hs, hx⟩
  · exact ⟨none, 0, rfl, Nat.le_refl _, Rd.nil_, fun a ha => by cases ha⟩
  · refine ⟨_, cap, rfl, hn, fun _ => ⟨g, 0, rfl, fun j hj => ?_⟩, fun a ha => by injection ha with ha; subst ha; exact hb⟩
    rw [cell_of_row w g (0 + j) cur e (0, 0) hh, Nat.zero_add, ← Array.getElem?_toList]
    have h1 : (cur.toList.take (n * 1))[j]? = some (f j) := by rw [hx]; simp [hj]
    rw [List.getElem?_take_of_lt (by omega)] at h1
    exact h1
theorem OwnR.below {w w' : World} {B base : Nat} {e : TypeId} {v : Value} {n : Nat} {f : Nat → Value} (h : OwnR w base e v n f) (hb : Below w.heap.size w w') (_ : B ≤ base) : OwnR w' base e v n f :=
  World.ownsRow.kept (row := none) h (grownBy_of_below hb none) (by
    rcases h.2 with ⟨rfl, _⟩ | ⟨g, cap, cur, rfl, _⟩
    · exact .inl rfl
    · exact .inr (by simp [Value.ownBlock]))
theorem OwnR.drew {w : World} {base : Nat} {e : TypeId} {v : Value} {n : Nat} {f : Nat → Value} (h : OwnR w base e v n f) : OwnR w.drew base e v n f := h

section
variable {P : Program} {w : World} {ops : Array Oper} {rest : List Oper} {o : Oper} {a : Act} {Q : Exit → Act → World → Prop}
/-- append(s, x), the one new element in a block just laid. -/
theorem wpList_append1 (hgd : o.guard = none) (s x : Operand) (t : TypeId)
    (ho : o.op = .call { callee := .builtin .append, args := #[s, x], argTypes := #[t, t] })
    (base : Nat) (e : TypeId) (z : Value) (bytes : Nat) (ht : P.underlying t = some (.slice e)) (hinfo : (P.info? e).map (fun i => (i.zero, i.size, i.bytes)) = some (some z, 1, bytes)) (hz1 : z.cells.size = 1)
    (v : Value) (n : Nat) (f : Nat → Value) (u : Value) (hs : a.eval s = v) (hx : a.eval x = .slice (some ⟨w.heap.size, 0, none⟩) 1 1) (hown : OwnR w base e v n f) (hu : u.oneCell' = true)
    (h63 : n + 1 ≤ 9223372036854775807) (hbytes : (n + 1) * bytes ≤ 140737488355328) (hbase : base ≤ w.heap.size)
    (h : ∀ v' w', OwnR w' base e v' (n + 1) (fun j => if j = n then u else f j) → Below base w w' → w.grownBy w' v.ownBlock → wpList P ops Q rest (a.put o.dst v') w') :
    wpList P ops Q (o :: rest) a (w.alloc (.cells #[u] e)) := by
  obtain ⟨i, hi, hz, hsz, hby⟩ := info_parts hinfo
  refine wpList_append_own (P := P) _ hgd s x t ho base e i z 1 bytes ht hi hz hsz hby hz1 (by decide) v n ((List.range n).map f) hs (hown.alloc _) ⟨w.heap.size, 0, none⟩ 1 1 [u] hx rfl ?_ (by simpa using hu) (by unfold maxLen; omega) hbytes (by simp; omega) ?_
  · intro j u' hj
    rcases j with _ | j
    · simp at hj; subst hj
      rw [add_plain, World.cell?_alloc_at _ _ _ _ rfl]; rfl
    · simp at hj
  · intro v' w' hown' hg _
    have e1 : ((List.range n).map f) ++ [u] = (List.range (n + 1)).map (fun j => if j = n then u else f j) := by
      rw [List.range_succ, List.map_append]
      congr 1
      · exact List.map_congr_left fun j hj => by
          have : j < n := by simpa using hj
          rw [if_neg (by omega)]
      · simp
    rw [e1] at hown'
    have hg' : w.grownBy w' v.ownBlock := grownBy_trans (World.grownBy_alloc w _ _) hg
    refine h v' w' hown' ((Below.refl _ _).grown hg' hbase (fun k hk => ?_)) hg'
    exact (hown.lt k hk).1
end

theorem u8_wrap {n : Int} {m : Nat} (h : n = (m : Int)) (hm : m < 256) : IntKind.u8.wrap n = (m : Int) := by
  subst h; simp [IntKind.wrap, IntKind.signed, IntKind.bits]; omega
theorem u8_and_one (x : Nat) (hx : x < 256) : bits .and .u8 (x : Int) 1 = ((x % 2 : Nat) : Int) := by
  have h1 : (BitVec.ofInt 8 (x : Int)).toNat = x := by rw [BitVec.ofInt_natCast, BitVec.toNat_ofNat]; omega
  show IntKind.u8.wrap ((BitVec.ofInt 8 (x : Int) &&& BitVec.ofInt 8 1).toNat : Int) = _
  rw [BitVec.toNat_and, h1, show (BitVec.ofInt 8 1).toNat = 1 from rfl, Nat.and_one_is_mod]
  exact u8_wrap rfl (by omega)
/-- A bit of a number, as a value. -/
def bitv (v j : Nat) : Value := .int .u8 (dgt 2 v j : Nat)

/-- A byte's bits are the number's. -/
theorem dgt_bit (v p k : Nat) (hk : k < 8) : dgt 2 v (8 * p + k) = dgt 256 v p / 2 ^ k % 2 := by
  unfold dgt
  rw [Nat.pow_add, ← Nat.div_div_eq_div_mul, Nat.pow_mul, show 2 ^ 8 = 256 from rfl]
  generalize v / 256 ^ p = x
  have e2 : 256 = 2 ^ k * (2 * 2 ^ (7 - k)) := by rw [← Nat.pow_succ', ← Nat.pow_add]; rw [show k + (7 - k).succ = 8 by omega]
  rw [e2, Nat.mod_mul_right_div_self, Nat.mod_mul_right_mod]
/-- A bit more of a number in its bytes. -/
theorem byte_bit (v i p : Nat) : dgt 256 (v % 2 ^ (i + 1)) p = if p = i / 8 then dgt 256 (v % 2 ^ i) p + dgt 2 v i * 2 ^ (i % 8) else dgt 256 (v % 2 ^ i) p := by
  have e : (2 : Nat) ^ i = 256 ^ (i / 8) * 2 ^ (i % 8) := by
    rw [show 256 = 2 ^ 8 from rfl, ← Nat.pow_mul, ← Nat.pow_add]; congr 1; omega
  have hu : v % 2 ^ i < 2 ^ i := Nat.mod_lt _ (Nat.two_pow_pos i)
  have hd : dgt 2 v i < 2 := dgt_lt (by decide) v i
  rw [mod_succ]
  generalize v % 2 ^ i = u at *
  generalize dgt 2 v i = d at *
  rw [e] at hu
  have hr : i % 8 < 8 := Nat.mod_lt _ (by decide)
  have hlo : u / 256 ^ (i / 8) < 2 ^ (i % 8) := (Nat.div_lt_iff_lt_mul (Nat.pow_pos (by decide))).2 (by rw [Nat.mul_comm]; exact hu)
  have h256 : 2 ^ (i % 8) * 2 ≤ 256 := by
    have := Nat.pow_le_pow_right (n := 2) (by decide) (show i % 8 + 1 ≤ 8 by omega)
    rwa [Nat.pow_succ] at this
  have h0 := Nat.mod_add_div u (256 ^ (i / 8))
  have hm : u % 256 ^ (i / 8) < 256 ^ (i / 8) := Nat.mod_lt _ (Nat.pow_pos (by decide))
  generalize u % 256 ^ (i / 8) = lo at *
  generalize u / 256 ^ (i / 8) = h at *
  generalize i % 8 = r at *
  generalize i / 8 = q at *
  have hd2 : h + d * 2 ^ r < 256 := by
    have : d * 2 ^ r ≤ 1 * 2 ^ r := Nat.mul_le_mul_right _ (by omega)
    omega
  have e1 : u + 2 ^ i * d = lo + 256 ^ q * (h + d * 2 ^ r) := by
    rw [e, Nat.mul_add, ← h0, Nat.mul_assoc, Nat.mul_comm (2 ^ r) d]; omega
  rw [e1, ← h0, dgt_put (by decide) hm hd2, dgt_put (by decide) hm (show h < 256 by omega)]
  by_cases hj : p = q
  · subst hj; simp
  · simp [hj]
theorem pow2_256 (n : Nat) : (2 ^ 8) ^ n = 256 ^ n := rfl
theorem dgt2_mul_pow (y up i : Nat) : dgt 2 (y * 2 ^ up) i = if up ≤ i then dgt 2 y (i - up) else 0 := by
  rw [Nat.mul_comm]
  by_cases h : up ≤ i
  · rw [if_pos h]
    obtain ⟨j, rfl⟩ : ∃ j, i = up + j := ⟨i - up, by omega⟩
    rw [dgt_mul_pow_ge _ _ _ _ (by decide), Nat.add_sub_cancel_left]
  · rw [if_neg h, dgt_mul_pow_lt _ _ _ _ (by omega) (by decide)]
end Go.Proofs.YtmnmfidcldmhdaaDoor
