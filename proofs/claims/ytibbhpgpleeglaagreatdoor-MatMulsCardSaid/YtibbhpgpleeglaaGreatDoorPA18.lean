/- The walks and plain laws beneath the statements. -/
import Derived.Test.YtibbhpgpleeglaaGreatDoorPA1
import Derived.Laws.AppendOwnNone
namespace Go.Proofs.YtibbhpgpleeglaaGreatDoor
open Go.RowKit

theorem OwnR.one (w : World) (base : Nat) (e : TypeId) (u : Value) (hb : base ≤ w.heap.size) : OwnR (w.alloc (.cells #[u] e)) base e (.slice (some ⟨w.heap.size, 0, none⟩) 1 1) 1 (fun _ => u) :=
  ⟨by simp, .inr ⟨w.heap.size, 1, #[u], rfl, hb, heap_alloc_new w _, Nat.le_refl _, by unfold maxLen; omega, rfl, rfl⟩⟩

section
variable {P : Program} {w : World} {ops : Array Oper} {rest : List Oper} {o : Oper} {a : Act} {Q : Exit → Act → World → Prop}
/-- append(s, x...), x a row that reads as h. -/
theorem wpList_append_rd (hgd : o.guard = none) (s x : Operand) (t : TypeId)
    (ho : o.op = .call { callee := .builtin .append, args := #[s, x], argTypes := #[t, t] })
    (base : Nat) (e : TypeId) (z : Value) (bytes : Nat) (ht : P.underlying t = some (.slice e)) (hinfo : (P.info? e).map (fun i => (i.zero, i.size, i.bytes)) = some (some z, 1, bytes)) (hz1 : z.cells.size = 1)
    (v : Value) (n : Nat) (f : Nat → Value) (A : Option Addr) (m c : Nat) (h : Nat → Value) (hs : a.eval s = v) (hx : a.eval x = .slice A m c) (hA : A = none → m = 0 ∧ c = 0) (hown : OwnR w base e v n f)
    (hr : Rd w A m h) (hu : ∀ j, (h j).oneCell' = true) (h63 : n + m ≤ maxLen) (hbytes : (n + m) * bytes ≤ 140737488355328) (hbase : base ≤ w.heap.size)
    (k : ∀ v' w', OwnR w' base e v' (n + m) (fun j => if j < n then f j else h (j - n)) → Below base w w' → w.grownBy w' v.ownBlock → wpList P ops Q rest (a.put o.dst v') w') :
    wpList P ops Q (o :: rest) a w := by
  obtain ⟨i, hi, hz, hsz, hby⟩ := info_parts hinfo
  rcases A with _ | ad
  · obtain ⟨rfl, rfl⟩ := hA rfl
    refine wpList_append_own_none (P := P) hgd s x t ho base e i 1 ht hi v n ((List.range n).map f) hs hown hx ?_
    refine k v w ?_ (Below.refl _ _) (World.grownBy.refl _ _)
    exact hown.congr fun j hj => by rw [if_pos hj]
  · refine wpList_append_own (P := P) _ hgd s x t ho base e i z 1 bytes ht hi hz hsz hby hz1 (by decide) v n ((List.range n).map f) hs hown ad m c ((List.range m).map h) hx (by simp) ?_ ?_ h63 hbytes hbase ?_
    · intro j u' hj
      by_cases hm : j < m
      · obtain ⟨b, off, e1, hc⟩ := hr (by omega)
        injection e1 with e1
        subst e1
        have : u' = h j := by simp [hm] at hj; exact hj.symm
        subst this
        rw [add_plain]; exact hc j hm
      · simp [hm] at hj
    · intro u' hu'
      obtain ⟨j, _, rfl⟩ := List.mem_map.1 hu'
      exact hu j
    · intro v' w' hown' hg _
      have e1 : ((List.range n).map f) ++ ((List.range m).map h) = (List.range (n + m)).map (fun j => if j < n then f j else h (j - n)) := by
        rw [List.range_add, List.map_append, List.map_map]
        congr 1
        · exact List.map_congr_left fun j hj => by
            have : j < n := by simpa using hj
            rw [if_pos this]
        · exact List.map_congr_left fun j _ => by
            show h j = if n + j < n then f (n + j) else h (n + j - n)
            rw [if_neg (by omega), Nat.add_sub_cancel_left]
      rw [e1] at hown'
      exact k v' w' hown' ((Below.refl _ _).grown hg hbase (fun k hk => (hown.lt k hk).1)) hg
end

/-- A bit more of a long division. -/
theorem div_bit (u v q : Nat) (hv : 0 < v) :
    2 * (u / 2 ^ (q + 1) % v) + dgt 2 u q < 2 * v ∧
    (2 * (u / 2 ^ (q + 1) % v) + dgt 2 u q < v → u / 2 ^ q % v = 2 * (u / 2 ^ (q + 1) % v) + dgt 2 u q ∧ dgt 2 (u / v) q = 0) ∧
    (v ≤ 2 * (u / 2 ^ (q + 1) % v) + dgt 2 u q → u / 2 ^ q % v = 2 * (u / 2 ^ (q + 1) % v) + dgt 2 u q - v ∧ dgt 2 (u / v) q = 1) := by
  have e1 : u / 2 ^ q = 2 * (u / 2 ^ (q + 1)) + dgt 2 u q := by
    have h := Nat.div_add_mod (u / 2 ^ q) 2
    rw [Nat.div_div_eq_div_mul, ← Nat.pow_succ] at h
    exact h.symm
  have e2 : dgt 2 (u / v) q = u / 2 ^ q / v % 2 := by
    unfold dgt; rw [Nat.div_div_eq_div_mul, Nat.mul_comm, ← Nat.div_div_eq_div_mul]
  have hd : dgt 2 u q < 2 := dgt_lt (by decide) _ _
  have hm := Nat.div_add_mod (u / 2 ^ (q + 1)) v
  have hr := Nat.mod_lt (u / 2 ^ (q + 1)) hv
  rw [e2]
  generalize u / 2 ^ (q + 1) % v = r at *
  generalize u / 2 ^ (q + 1) / v = t at *
  generalize dgt 2 u q = d at *
  have e3 : u / 2 ^ q = (2 * r + d) + v * (2 * t) := by
    rw [e1, ← hm, Nat.mul_add, Nat.mul_left_comm]; omega
  rw [e3]
  refine ⟨by omega, fun h => ?_, fun h => ?_⟩
  · rw [Nat.add_mul_mod_self_left, Nat.mod_eq_of_lt h, Nat.add_mul_div_left _ _ hv, Nat.div_eq_of_lt h]
    exact ⟨rfl, by omega⟩
  · rw [Nat.add_mul_mod_self_left, Nat.mod_eq_sub_mod h, Nat.mod_eq_of_lt (by omega), Nat.add_mul_div_left _ _ hv, Nat.div_eq_sub_div hv h, Nat.div_eq_of_lt (by omega)]
    exact ⟨rfl, by omega⟩
/-- The bits of a number with one bit behind. -/
theorem bit_behind (r d j : Nat) (hd : d < 2) : dgt 2 (2 * r + d) j = if j < 1 then d else dgt 2 r (j - 1) := by
  by_cases h : j < 1
  · obtain rfl : j = 0 := by omega
    rw [if_pos h]; unfold dgt; rw [Nat.pow_zero, Nat.div_one]; omega
  · rw [if_neg h]
    obtain ⟨i, rfl⟩ : ∃ i, j = 1 + i := ⟨j - 1, by omega⟩
    rw [Nat.add_sub_cancel_left]
    unfold dgt
    rw [Nat.pow_add, ← Nat.div_div_eq_div_mul, Nat.pow_one]
    congr 2
    omega
end Go.Proofs.YtibbhpgpleeglaaGreatDoor

