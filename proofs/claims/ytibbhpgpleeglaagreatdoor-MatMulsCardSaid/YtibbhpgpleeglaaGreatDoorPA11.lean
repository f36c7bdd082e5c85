/- The walks and plain laws beneath the statements. -/
import Derived.Test.YtibbhpgpleeglaaGreatDoorPA10
import Derived.Laws.IdiomStrings
namespace Go.Proofs.YtibbhpgpleeglaaGreatDoor
open Go Go.RowKit

def e0 : Env := ⟨fun _ => 0, fun _ => undef, fun _ _ => False⟩
def SV.plain (s : SV) : Bool := s.ok (fun _ => false) (fun _ => false)
theorem plain_den {s : SV} (h : s.plain = true) (r : Env) : s.den r = s.den e0 := den_congr (β := fun _ => false) (ξ := fun _ => false) (fun _ h => nomatch h) (fun _ h => nomatch h) s h
theorem plainL_den {l : List SV} (h : okL (fun _ => false) (fun _ => false) l = true) (r : Env) : denL r l = denL e0 l := denL_congr (β := fun _ => false) (ξ := fun _ => false) (fun _ h => nomatch h) (fun _ h => nomatch h) l h
def v1 (σ : St) (x : Operand) (K : Value → Prop) : Prop := evK σ x fun s => bif s.plain then K (s.den e0) else False
def vO (σ : St) (x : Option Operand) (K : Option Value → Prop) : Prop := match x with
  | none => K none
  | some x => v1 σ x fun v => K (some v)
def vL (σ : St) (l : List Operand) (K : List Value → Prop) : Prop := evL σ l fun m => bif okL (fun _ => false) (fun _ => false) m then K (denL e0 m) else False
/-- In every later world it yields R, and turns nothing. -/
def RunOk (P : Program) (w0 : World) (m : Sem Value) (R : Value) : Prop := ∀ W, Below w0.heap.size w0 W → m.run P W = .ok R W
def setS (P : Program) (w0 : World) (σ : St) (o : Oper) (R : Value) : Prop := match o.op with
  | .binOp op t x y _ => v1 σ x fun a => v1 σ y fun b => RunOk P w0 (do eqGuard op t x y a b; binOp op t a b) R
  | .unOp op _ x => v1 σ x fun a => RunOk P w0 (Op.unary op a) R
  | .convert s d x => v1 σ x fun a => RunOk P w0 (Go.convert s d a) R
  | .index t x i => v1 σ x fun a => v1 σ i fun b => RunOk P w0 (Instr.index t a b) R
  | .indexAddr t x i => v1 σ x fun a => v1 σ i fun b => RunOk P w0 (Instr.indexAt t a b) R
  | .load t x => v1 σ x fun a => RunOk P w0 (Instr.loadAt t a) R
  | .slice t x lo hi mx => v1 σ x fun a => vO σ lo fun b => vO σ hi fun c => vO σ mx fun d => RunOk P w0 (Instr.sliceAt t a b c d) R
  | .makeInterface t x => v1 σ x fun a => RunOk P w0 (Instr.makeInterface t a) R
  | .field t x f => v1 σ x fun a => RunOk P w0 (Instr.field t a f) R
  | .fieldAddr t x f => v1 σ x fun a => RunOk P w0 (Instr.fieldAt t a f) R
  | .nilCheck x => v1 σ x fun a => R = a ∧ (match a with | .pointer (some _) => True | .func (.func _) _ _ => True | .slice _ _ _ => True | _ => False)
  | .typeAssert x t u ok => v1 σ x fun a => RunOk P w0 (Instr.typeAssert a t u ok) R
  | .call c => match c.callee with
    | .builtin .min => vL σ c.args.toList fun l => RunOk P w0 (Builtin.min_ c.argTypes o.type l.toArray) R
    | .builtin .max => vL σ c.args.toList fun l => RunOk P w0 (Builtin.max_ c.argTypes o.type l.toArray) R
    | .builtin .cap => vL σ c.args.toList fun l => RunOk P w0 (Builtin.cap_ c.argTypes o.type l.toArray) R
    | .builtin .len => vL σ c.args.toList fun l => RunOk P w0 (Builtin.len_ c.argTypes o.type l.toArray) R
    | _ => False
  | _ => False
section
variable {P : Program} {w0 : World} {σ : St} {K : Out → Prop}
theorem v1_spec {x : Operand} {K : Value → Prop} (h : v1 σ x K) : ∃ v, K v ∧ ∀ r a w, See w0 σ r a w → a.eval x = v := by
  obtain ⟨s, h1, h⟩ := evK_spec h
  obtain ⟨h2, h⟩ := bif_spec h
  exact ⟨_, h, fun r a w hw => by rw [(evS_den hw h1).1, plain_den h2]⟩
theorem vO_spec {x : Option Operand} {K : Option Value → Prop} (h : vO σ x K) : ∃ v, K v ∧ ∀ r a w, See w0 σ r a w → x.map a.eval = v := by
  cases x with
  | none => exact ⟨none, h, fun _ _ _ _ => rfl⟩
  | some x =>
    obtain ⟨v, h1, h2⟩ := v1_spec (w0 := w0) (show v1 σ x (fun v => K (some v)) from h)
    exact ⟨_, h1, fun r a w hw => by rw [Option.map_some, h2 r a w hw]⟩
theorem vL_spec {l : List Operand} {K : List Value → Prop} (h : vL σ l K) : ∃ v, K v ∧ ∀ r a w, See w0 σ r a w → l.map a.eval = v := by
  obtain ⟨m, h, h1⟩ := evL_spec (w0 := w0) h
  obtain ⟨h2, h⟩ := bif_spec h
  exact ⟨_, h, fun r a w hw => by rw [(h1 r a w hw).1, plainL_den h2]⟩
theorem setS_ok {o : Oper} {R : Value} (h : setS P w0 σ o R) : ∀ r a w, See w0 σ r a w → (execOp a.eval o).run P w = .ok (.value R) w := by
  have ex : ∀ {op : Op}, o.op = op → ∀ ev, execOp ev o = execOp ev { o with op := op } := fun e ev => by rw [← e]
  unfold setS at h
  split at h
  case h_1 e =>
    obtain ⟨_, h, h1⟩ := v1_spec (w0 := w0) h
    obtain ⟨_, h, h2⟩ := v1_spec (w0 := w0) h
    intro r a w hw
    rw [ex e]; refine run_v ?_
    rw [h1 r a w hw, h2 r a w hw]; exact h w hw.low
  case h_2 e =>
    obtain ⟨_, h, h1⟩ := v1_spec (w0 := w0) h
    intro r a w hw
    rw [ex e]; refine run_v ?_
    rw [h1 r a w hw]; exact h w hw.low
  case h_3 e =>
    obtain ⟨_, h, h1⟩ := v1_spec (w0 := w0) h
    intro r a w hw
    rw [ex e]; refine run_v ?_
    rw [h1 r a w hw]; exact h w hw.low
  case h_4 e =>
    obtain ⟨_, h, h1⟩ := v1_spec (w0 := w0) h
    obtain ⟨_, h, h2⟩ := v1_spec (w0 := w0) h
    intro r a w hw
    rw [ex e]; refine run_v ?_
    rw [h1 r a w hw, h2 r a w hw]; exact h w hw.low
  case h_5 e =>
    obtain ⟨_, h, h1⟩ := v1_spec (w0 := w0) h
    obtain ⟨_, h, h2⟩ := v1_spec (w0 := w0) h
    intro r a w hw
    rw [ex e]; refine run_v ?_
    rw [h1 r a w hw, h2 r a w hw]; exact h w hw.low
  case h_6 e =>
    obtain ⟨_, h, h1⟩ := v1_spec (w0 := w0) h
    intro r a w hw
    rw [ex e]; refine run_v ?_
    rw [h1 r a w hw]; exact h w hw.low
  case h_7 e =>
    obtain ⟨_, h, h1⟩ := v1_spec (w0 := w0) h
    obtain ⟨_, h, h2⟩ := vO_spec (w0 := w0) h
    obtain ⟨_, h, h3⟩ := vO_spec (w0 := w0) h
    obtain ⟨_, h, h4⟩ := vO_spec (w0 := w0) h
    intro r a w hw
    rw [ex e]; refine run_v ?_
    rw [h1 r a w hw, h2 r a w hw, h3 r a w hw, h4 r a w hw]; exact h w hw.low
  case h_8 e =>
    obtain ⟨_, h, h1⟩ := v1_spec (w0 := w0) h
    intro r a w hw
    rw [ex e]; refine run_v ?_
    rw [h1 r a w hw]; exact h w hw.low
  case h_9 e =>
    obtain ⟨_, h, h1⟩ := v1_spec (w0 := w0) h
    intro r a w hw
    rw [ex e]; refine run_v ?_
    rw [h1 r a w hw]; exact h w hw.low
  case h_10 e =>
    obtain ⟨_, h, h1⟩ := v1_spec (w0 := w0) h
    intro r a w hw
    rw [ex e]; refine run_v ?_
    rw [h1 r a w hw]; exact h w hw.low
  case h_11 e =>
    obtain ⟨v, ⟨rfl, h⟩, h1⟩ := v1_spec (w0 := w0) h
    intro r a w hw
    rw [ex e]
    unfold execOp
    simp only [h1 r a w hw]
    split at h
    · rfl
    · rfl
    · rfl
    · exact h.elim
  case h_12 e =>
    obtain ⟨_, h, h1⟩ := v1_spec (w0 := w0) h
    intro r a w hw
    rw [ex e]; refine run_v ?_
    rw [h1 r a w hw]; exact h w hw.low
  case h_13 c e =>
    split at h
    case h_1 hc =>
      obtain ⟨l, h, h1⟩ := vL_spec (w0 := w0) h
      intro r a w hw
      rw [ex e]; unfold execOp
      simp [resolve, hc, invoke, builtin, arr_map _ _ _ (h1 r a w hw), h w hw.low]
    case h_2 hc =>
      obtain ⟨l, h, h1⟩ := vL_spec (w0 := w0) h
      intro r a w hw
      rw [ex e]; unfold execOp
      simp [resolve, hc, invoke, builtin, arr_map _ _ _ (h1 r a w hw), h w hw.low]
    case h_3 hc =>
      obtain ⟨l, h, h1⟩ := vL_spec (w0 := w0) h
      intro r a w hw
      rw [ex e]; unfold execOp
      simp [resolve, hc, invoke, builtin, arr_map _ _ _ (h1 r a w hw), h w hw.low]
    case h_4 hc =>
      obtain ⟨l, h, h1⟩ := vL_spec (w0 := w0) h
      intro r a w hw
      rw [ex e]; unfold execOp
      simp [resolve, hc, invoke, builtin, arr_map _ _ _ (h1 r a w hw), h w hw.low]
    case h_5 => exact h.elim
  case h_14 => exact h.elim
end
/-- A call of it is entered. -/
def Enters (P : Program) (f : FuncId) : Prop := ∀ (args : Array Value) (w : World), (callFunc f args).run P w = .ok (.enter f args) w
/-- **A contract**: in every later world it returns R, and turns nothing that was. -/
def RetAt (P : Program) (w0 : World) (f : FuncId) (args : Array Value) (R : Value) : Prop := Enters P f ∧ ∀ W, Below w0.heap.size w0 W → Calls P f args W fun e w' => e = .returned R ∧ Below W.heap.size W w'
def memB (i : Nat) : List Nat → Bool
  | [] => false
  | j :: l => Nat.beq i j || memB i l
theorem memB_mem {i : Nat} : ∀ {l : List Nat}, memB i l = true ↔ i ∈ l
  | [] => by simp [memB]
  | j :: l => by
    rw [List.mem_cons, ← memB_mem (l := l)]
    show (Nat.beq i j || memB i l) = true ↔ _
    rw [Bool.or_eq_true]
    exact ⟨fun h => h.imp Nat.eq_of_beq_eq_true id, fun h => h.imp (fun e => by subst e; exact Nat.beq_refl i) id⟩
def ifB' (b : Bool) (p : Prop) : Prop := match b with
  | true => p
  | false => False
theorem ifB'_spec {b : Bool} {p : Prop} (h : ifB' b p) : b = true ∧ p := by cases b <;> first | exact ⟨rfl, h⟩ | exact False.elim h
mutual
def SV.refs : SV → List Nat → List Nat
  | .val _, l => l
  | .ptr b _, l => bif memB b l then l else b :: l
  | .sli b _ _ _, l => bif memB b l then l else b :: l
  | .clo _ m n, l => refsL n (refsL m l)
  | .agg m, l => refsL m l
  | .tup m, l => refsL m l
  | .han _, l => l
def refsL : List SV → List Nat → List Nat
  | [], l => l
  | s :: m, l => refsL m (s.refs l)
end
/-- Whatever these blocks' places are. -/
def boxK (σ : St) (W : World) : List Nat → (Nat → Nat) → ((Nat → Nat) → Prop) → Prop
  | [], β, K => K β
  | b :: l, β, K => match nth σ.bs b with
    | some (t, cs) => bif okL (fun _ => false) (fun _ => false) cs then ∀ g, Bx W g t (denL e0 cs).toArray → boxK σ W l (upd β b g) K else False
    | none => False
def envB (β : Nat → Nat) : Env := ⟨β, fun _ => undef, fun _ _ => False⟩
/-- The same where the arguments or the answer point into blocks of the caller's. -/
def CallOk (P : Program) (w0 : World) (σ : St) (f : FuncId) (args : List SV) (R : SV) : Prop := Enters P f ∧ ∀ W, Below w0.heap.size w0 W → boxK σ W (refsL args []) (fun _ => 0) fun β =>
  ifB' (okL (fun b => memB b (refsL args [])) (fun _ => false) args && R.ok (fun b => memB b (refsL args [])) (fun _ => false)) (Calls P f (denL (envB β) args).toArray W fun e w' => e = .returned (R.den (envB β)) ∧ Below W.heap.size W w')
theorem boxK_spec {σ : St} {w0 : World} {r : Env} {a : Act} {W : World} (hw : See w0 σ r a W) : ∀ {l : List Nat} {β : Nat → Nat} {K : (Nat → Nat) → Prop}, boxK σ W l β K → ∃ β', K β' ∧ (∀ b, b ∈ l → β' b = r.b b) ∧ ∀ b, b ∉ l → β' b = β b
  | [], β, K, h => ⟨β, h, fun _ h => (nomatch h), fun _ _ => rfl⟩
  | c :: l, β, K, h => by
    unfold boxK at h
    split at h
    · rename_i t cs e
      obtain ⟨hp, h⟩ := bif_spec h
      have hb := (hw.bs c t cs e).1
      rw [plainL_den hp] at hb
      obtain ⟨β', h1, h2, h3⟩ := boxK_spec hw (h _ hb)
      refine ⟨β', h1, fun b hb => ?_, fun b hb => ?_⟩
      · by_cases hl : b ∈ l
        · exact h2 b hl
        · rcases List.mem_cons.1 hb with rfl | hb
          · rw [h3 b hl]; exact upd_at _ _ _
          · exact absurd hb hl
      · have h4 := h3 b fun hm => hb (List.mem_cons_of_mem _ hm)
        rw [h4]
        exact upd_ne _ _ fun e => hb (by rw [e]; simp)
    · exact h.elim
theorem CallOk.use {P : Program} {w0 : World} {σ : St} {f : FuncId} {args : List SV} {R : SV} (h : CallOk P w0 σ f args R) {r : Env} {a : Act} {W : World} (hw : See w0 σ r a W) : Calls P f (denL r args).toArray W fun e w' => e = .returned (R.den r) ∧ Below W.heap.size W w' := by
  obtain ⟨β, h1, h2, _⟩ := boxK_spec hw (h.2 W hw.low)
  obtain ⟨hc, h3⟩ := ifB'_spec h1
  obtain ⟨c1, c2⟩ := Bool.and_eq_true_iff.1 hc
  have e1 : denL (envB β) args = denL r args := denL_congr (β := fun b => memB b (refsL args [])) (ξ := fun _ => false) (fun b hb => h2 b (memB_mem.1 hb)) (fun _ h => nomatch h) args c1
  have e2 : R.den (envB β) = R.den r := den_congr (β := fun b => memB b (refsL args [])) (ξ := fun _ => false) (fun b hb => h2 b (memB_mem.1 hb)) (fun _ h => nomatch h) R c2
  rw [e1, e2] at h3
  exact h3
/-- The same where memory is handed over. -/
def CallNew (P : Program) (w0 : World) (σ : St) (f : FuncId) (args : List SV) (R : SV) (ρ : Res) : Prop := Enters P f ∧ ∀ r a W, See w0 σ r a W → Calls P f (denL r args).toArray W fun e w' => ∃ x S, e = .returned (R.den (r.add' σ ⟨0, x, S⟩)) ∧ ρ.φ x S w' ∧ (∀ b, S b → W.heap.size ≤ b ∧ b < w'.heap.size) ∧ Below W.heap.size W w'
def calleeK (σ : St) (c : Call) (K : FuncId → List SV → Prop) : Prop := match c.callee with
  | .value f => evK σ f fun s => match s with
    | .clo (.func g) l m => evL σ c.args.toList fun n => K g (l ++ n ++ m)
    | .val (.func (.func g) l m) => evL σ c.args.toList fun n => K g (l.toList.map SV.val ++ n ++ m.toList.map SV.val)
    | _ => False
  | _ => False
inductive DOp where
  | eq (R : SV)
  | set (R : Value)
  | ret (R : SV)
  | new (R : SV) (ρ : Res)
  | hook (out : Out)
  | pk (b : Bool)
  | byt (l : List UInt8)
def ifB (b : Bool) (p : Prop) : Prop := match b with
  | true => p
  | false => False
theorem ifB_spec {b : Bool} {p : Prop} (h : ifB b p) : b = true ∧ p := by cases b <;> first | exact ⟨rfl, h⟩ | exact False.elim h
def sameV (s R : SV) (p : Prop) : Prop := match s with
  | .val (.int k a) => (match R with
    | .val (.int k' b) => ifB (kindB k k') (a = b ∧ p)
    | _ => False)
  | .val (.bool a) => (match R with
    | .val (.bool b) => a = b ∧ p
    | _ => False)
  | .val a => (match R with
    | .val b => a = b ∧ p
    | _ => False)
  | _ => False
theorem sameV_spec {s R : SV} {p : Prop} (h : sameV s R p) : p ∧ ∃ a, s = .val a ∧ R = .val a := by
  unfold sameV at h
  split at h
  · split at h
    · obtain ⟨hk, h1, h2⟩ := ifB_spec h
      clear h
      obtain rfl := kindB_eq hk
      subst h1
      have h := h2
      exact ⟨h, _, rfl, rfl⟩
    · exact h.elim
  · split at h
    · obtain ⟨rfl, h⟩ := h
      exact ⟨h, _, rfl, rfl⟩
    · exact h.elim
  · split at h
    · obtain ⟨rfl, h⟩ := h
      exact ⟨h, _, rfl, rfl⟩
    · exact h.elim
  · exact h.elim
/-- These cells are these bytes. -/
def bytesN (v : Value) (c : UInt8) (p : Prop) : Prop := match v with
  | .int .u8 z => z = (c.toNat : Int) ∧ p
  | _ => False
def bytesS : List SV → List UInt8 → Prop → Prop
  | [], [], p => p
  | .val v :: m, c :: l, p => bytesN v c (bytesS m l p)
  | _, _, _ => False
theorem bytesS_spec {r : Env} : ∀ {m : List SV} {l : List UInt8} {p : Prop}, bytesS m l p → p ∧ m.length = l.length ∧ ∀ (j : Nat) (hj : j < l.length), (denL r m)[j]? = some (.int .u8 (l[j].toNat : Int))
  | [], [], _, h => ⟨h, rfl, fun j hj => absurd hj (Nat.not_lt_zero _)⟩
  | [], _ :: _, _, h => False.elim h
  | .val v :: m, [], _, h => False.elim h
  | .val v :: m, c :: l, p, h => by
    have h' : bytesN v c (bytesS m l p) := h
    unfold bytesN at h'
    split at h'
    · obtain ⟨rfl, h2⟩ := h'
      obtain ⟨h3, h4, h5⟩ := bytesS_spec (r := r) h2
      refine ⟨h3, congrArg Nat.succ h4, fun j hj => ?_⟩
      cases j with
      | zero => rfl
      | succ j => exact h5 j (Nat.lt_of_succ_lt_succ hj)
    · exact h'.elim
  | .ptr _ _ :: _, [], _, h => False.elim h
  | .ptr _ _ :: _, _ :: _, _, h => False.elim h
  | .sli _ _ _ _ :: _, [], _, h => False.elim h
  | .sli _ _ _ _ :: _, _ :: _, _, h => False.elim h
  | .clo _ _ _ :: _, [], _, h => False.elim h
  | .clo _ _ _ :: _, _ :: _, _, h => False.elim h
  | .agg _ :: _, [], _, h => False.elim h
  | .agg _ :: _, _ :: _, _, h => False.elim h
  | .tup _ :: _, [], _, h => False.elim h
  | .tup _ :: _, _ :: _, _, h => False.elim h
  | .han _ :: _, [], _, h => False.elim h
  | .han _ :: _, _ :: _, _, h => False.elim h
def bytT (tt : List (Nat × TI)) (src dst : TypeId) (p : Prop) : Prop := tiK tt src fun ti => tiK tt dst fun td => match ti.k with
  | .slice e _ _ => (match td.k with
    | .str => tiK tt e fun te => (match te.k with
      | .int .u8 => p
      | _ => False)
    | _ => False)
  | _ => False
theorem bytT_spec {tt : List (Nat × TI)} {P : Program} (hT : TTOk P tt) {src dst : TypeId} {p : Prop} (h : bytT tt src dst p) : p ∧ ∃ e, P.underlying src = some (.slice e) ∧ P.underlying e = some (.int .u8) ∧ P.underlying dst = some .string := by
  obtain ⟨ti, h1, h⟩ := tiK_spec hT h
  obtain ⟨td, h2, h⟩ := tiK_spec hT h
  split at h
  · rename_i e sz ag hk
    split at h
    · rename_i hk2
      obtain ⟨te, h3, h⟩ := tiK_spec hT h
      split at h
      · rename_i hk3
        exact ⟨h, e, (ti_slice h1 hk).1, ti_int h3 hk3, ti_str h2 hk2⟩
      · exact h.elim
    · exact h.elim
  · exact h.elim
def bytK (tt : List (Nat × TI)) (σ : St) (src dst : TypeId) (x : Operand) (l : List UInt8) (p : Prop) : Prop := bytT tt src dst (evK σ x fun s => match s with
  | .sli b o n _ => optK (nth σ.bs b) fun q => ifB (Nat.beq n l.length) (bytesS ((q.2.drop o).take n) l p)
  | _ => False)
def opD (P : Program) (tt : List (Nat × TI)) (w0 : World) (σ : St) (o : Oper) (x : DOp) (K : Out → Prop) : Prop := match x with
  | .eq R => opQ tt σ o.op fun out => sameV out.s R (K ⟨R, out.b, out.r⟩)
  | .set R => setS P w0 σ o R ∧ K (one (.val R))
  | .ret R => (match o.op with
    | .call c => calleeK σ c fun f l => bif okL (fun _ => false) (fun _ => false) l && R.plain then RetAt P w0 f (denL e0 l).toArray (R.den e0) ∧ K (one R) else CallOk P w0 σ f l R ∧ K (one R)
    | _ => False)
  | .new R ρ => (match o.op with
    | .call c => calleeK σ c fun f l => CallNew P w0 σ f l R ρ ∧ K ⟨R, none, some ρ⟩
    | _ => False)
  | .hook out => QStep P w0 o σ (fun u => u = out) ∧ K out
  | .pk b => (match o.op with
    | .pick c x y => evK σ c fun s => match s with
      | .val (.bool v) => v = b ∧ (match b with
        | true => evK σ x fun s => K (one s)
        | false => evK σ y fun s => K (one s))
      | _ => False
    | _ => False)
  | .byt l => (match o.op with
    | .convert src dst x => bytK tt σ src dst x l (K (one (.val (.string ⟨l.toArray⟩))))
    | _ => False)
section
variable {P : Program} {tt : List (Nat × TI)} {w0 : World} {σ : St} {K : Out → Prop}
theorem calleeK_spec {c : Call} {K : FuncId → List SV → Prop} (h : calleeK σ c K) : ∃ f l, K f l ∧ σ.ltL l = σ.ltL l ∧ ∀ (o : Oper), o.op = .call c → Enters P f → ∀ r a w, See w0 σ r a w → (execOp a.eval o).run P w = .ok (.enter f (denL r l).toArray) w := by
  unfold calleeK at h
  split at h
  · rename_i f hc
    obtain ⟨s, h1, h⟩ := evK_spec h
    split at h
    · rename_i g l m
      obtain ⟨n, h, h2⟩ := evL_spec (w0 := w0) h
      refine ⟨g, _, h, rfl, fun o ho he r a w hw => ?_⟩
      have h3 := (evS_den hw h1).1
      unfold execOp
      rw [ho]
      simp only [resolve, hc, h3, SV.den, Deferred.ofValue, Sem.run_bind, Sem.run_pure, Result.andThen_ok, invoke]
      rw [arr_map _ _ _ (h2 r a w hw).1]
      have h4 : (denL r l).toArray ++ (denL r n).toArray ++ (denL r m).toArray = (denL r (l ++ n ++ m)).toArray := by simp [denL_map]
      rw [h4, he]
    · rename_i g l m
      obtain ⟨n, h, h2⟩ := evL_spec (w0 := w0) h
      refine ⟨g, _, h, rfl, fun o ho he r a w hw => ?_⟩
      have h3 := (evS_den hw h1).1
      unfold execOp
      rw [ho]
      simp only [resolve, hc, h3, SV.den, Deferred.ofValue, Sem.run_bind, Sem.run_pure, Result.andThen_ok, invoke]
      rw [arr_map _ _ _ (h2 r a w hw).1]
      have h4 : l ++ (denL r n).toArray ++ m = (denL r (l.toList.map SV.val ++ n ++ m.toList.map SV.val)).toArray := by
        have e1 : ∀ x : Array Value, (denL r (x.toList.map SV.val)) = x.toList := fun x => denL_v r x.toList
        rw [denL_map r (_ ++ _ ++ _), List.map_append, List.map_append, ← denL_map, ← denL_map, ← denL_map, e1, e1]
        simp
      rw [h4, he]
    · exact h.elim
  · exact h.elim
theorem q_call {o : Oper} {f : FuncId} {l : List SV} {R : SV} (h : K (one R)) (hs : σ.lt R = true) (hr : ∀ r a w, See w0 σ r a w → (execOp a.eval o).run P w = .ok (.enter f (denL r l).toArray) w) (hc : ∀ r a W, See w0 σ r a W → Calls P f (denL r l).toArray W fun e w' => e = .returned (R.den r) ∧ Below W.heap.size W w') : QOk P w0 o σ K :=
  ⟨_, h, fun r a w hw Q next hn => by
    unfold Oper.wp
    rw [hr r a w hw]
    show Calls P f _ w _
    refine (hc r a w hw).mono ?_
    rintro e w' ⟨rfl, hb⟩
    have h1 := hn _ Gh.no w' rfl hb (by exact ⟨rfl, (fun _ _ h => nomatch h), (fun _ h => nomatch h), (fun _ _ h => nomatch h)⟩)
    rw [show (one R).s = R from rfl, den_add hs] at h1
    exact h1⟩
theorem opD_ok (hT : TTOk P tt) (hK : ∀ out, K out → σ.fits out = true) {o : Oper} {x : DOp} (h : opD P tt w0 σ o x K) : QOk P w0 o σ K := by
  unfold opD at h
  split at h
  · rename_i R
    obtain ⟨out, h1, h2⟩ := opQ_ok (w0 := w0) hT (K := fun out => sameV out.s R (K ⟨R, out.b, out.r⟩)) (fun out ho => by
      obtain ⟨h1, a, e1, rfl⟩ := sameV_spec ho
      have h2 := hK _ h1
      rw [← e1] at h2
      exact h2) h
    obtain ⟨h3, a, e1, rfl⟩ := sameV_spec h1
    refine ⟨_, h3, fun r A w hw Q next hn => h2 r A w hw Q next ?_⟩
    rintro u γ w' rfl hb hm
    have h4 := hn _ γ w' rfl hb ⟨hm.one, hm.b, hm.r, hm.apart⟩
    rw [e1]
    exact h4
  · exact q_one hK _ h.2 fun r a w hw => setS_ok h.1 r a w hw
  · rename_i R
    split at h
    · rename_i c ho
      obtain ⟨f, l, h, _, hr⟩ := calleeK_spec (P := P) (w0 := w0) h
      cases hp : okL (fun _ => false) (fun _ => false) l && R.plain with
      | true =>
        rw [hp] at h
        obtain ⟨⟨he, hc⟩, h⟩ := h
        obtain ⟨p1, p2⟩ := Bool.and_eq_true_iff.1 hp
        refine q_call h (lt_of hK h) (hr o ho he) fun r a W hw => ?_
        rw [plainL_den p1, plain_den p2]
        exact hc W hw.low
      | false =>
        rw [hp] at h
        obtain ⟨hc, h⟩ := h
        exact q_call h (lt_of hK h) (hr o ho hc.1) fun r a W hw => hc.use hw
    · exact h.elim
  · rename_i R ρ
    split at h
    · rename_i c ho
      obtain ⟨f, l, h, _, hr⟩ := calleeK_spec (P := P) (w0 := w0) h
      obtain ⟨⟨he, hc⟩, h⟩ := h
      refine ⟨_, h, fun r a w hw Q next hn => ?_⟩
      unfold Oper.wp
      rw [hr o ho he r a w hw]
      show Calls P f _ w _
      refine (hc r a w hw).mono ?_
      rintro e w' ⟨x, S, rfl, hφ, hS, hb⟩
      exact hn _ ⟨0, x, S⟩ w' rfl hb ⟨ρ.one x S w' hφ, (fun _ _ h => nomatch h), (fun R' h => by obtain rfl := Option.some.inj h; exact ⟨hφ, hS⟩), (fun _ _ h => nomatch h)⟩
    · exact h.elim
  · exact ⟨_, h.2, h.1⟩
  · split at h
    · rename_i b c x y e
      obtain ⟨s, h1, h⟩ := evK_spec h
      have hx : ∀ ev, execOp ev o = execOp ev { o with op := .pick c x y } := fun ev => by rw [← e]
      split at h
      · rename_i v
        obtain ⟨hv, h⟩ := h
        subst hv
        cases v with
        | true =>
          obtain ⟨u, h2, h⟩ := evK_spec h
          refine q_one hK _ h fun r A w hw => ?_
          rw [hx, ← (evS_den hw h2).1]
          have h3 := (evS_den hw h1).1
          unfold execOp
          simp only [h3, SV.den, asBool]
          rfl
        | false =>
          obtain ⟨u, h2, h⟩ := evK_spec h
          refine q_one hK _ h fun r A w hw => ?_
          rw [hx, ← (evS_den hw h2).1]
          have h3 := (evS_den hw h1).1
          unfold execOp
          simp only [h3, SV.den, asBool]
          rfl
      · exact h.elim
    · exact h.elim
  · rename_i l
    split at h
    · rename_i src dst x e
      obtain ⟨h, ety, ht1, ht2, ht3⟩ := bytT_spec hT h
      obtain ⟨s, h1, h⟩ := evK_spec h
      split at h
      · rename_i b off n c
        obtain ⟨q, h2, h⟩ := optK_spec h
        obtain ⟨hn, h⟩ := ifB_spec h
        have hn := Nat.eq_of_beq_eq_true hn
        have hk := (bytesS_spec (r := e0) h).1
        refine q_one hK _ hk fun r A w hw => ?_
        obtain ⟨_, hlen, hcs⟩ := bytesS_spec (r := r) h
        have hx : ∀ ev, execOp ev o = execOp ev { o with op := .convert src dst x } := fun ev => by rw [← e]
        have hv := (evS_den hw h1).1
        have hb := (hw.bs b q.1 q.2 h2).1
        have hrun := run_convert_bytes_back (P := P) w src dst ety ⟨r.b b, off, none⟩ c l ht1 ht2 ht3 (fun j hj => by
          rw [add_plain, hb.cel]
          have h3 := hcs j hj
          rw [cut_den] at h3
          rw [List.getElem?_take_of_lt (by omega), List.getElem?_drop] at h3
          simpa using h3)
        rw [hx]
        rw [← hn] at hrun
        unfold execOp
        simp only [hv, SV.den, Sem.run_bind, hrun]
        rfl
      · exact h.elim
    · exact h.elim
end
end Go.Proofs.YtibbhpgpleeglaaGreatDoor

namespace Go.Proofs.YtibbhpgpleeglaaGreatDoor
open Go Go.RowKit

/-- What is told of the way, in its order. -/
inductive Dir : Type 1 where
  | o (rid i : Nat) (x : DOp)
  | g (rid i : Nat) (b : Bool)
  | gb (rid i : Nat) (x y : List Dir)
  | reg (n : Nat) (late : List Nat)
  | br (b : Bool)
  | both (x y : List Dir)
  | loop {α : Type} (I : α → St) (C : α → Prop) (μ : α → Nat) (a0 : α) (nx : α → Nat → α) (bd : α → List Dir)
  | next (k : Nat)
  | seq (rid i : Nat) (σ' : St)
  | code (σ' : St)
def keyB (r j rid i : Nat) : Bool := Nat.beq r rid && Nat.beq j i
def quietK (P : Program) (tt : List (Nat × TI)) (w0 : World) (rid i : Nat) (o : Oper) (σ : St) (d : List Dir) (K : Out → List Dir → Prop) : Prop := match d with
  | .o r j x :: d' => bif keyB r j rid i then opD P tt w0 σ o x (fun out => K out d') else opQ tt σ o.op (fun out => K out d)
  | d => opQ tt σ o.op (fun out => K out d)
def boolS (σ : St) (ops : Array Oper) (g : Nat) : Option Bool := match ops[g]? with
  | some og => (match og.dst with
    | some t => (match look t σ.ts with
      | some (.val (.bool x)) => some x
      | _ => none)
    | none => none)
  | none => none
/-- The guard's operation was itself left out. -/
def undefS (σ : St) (ops : Array Oper) (g : Nat) : Bool := match ops[g]? with
  | some og => (match og.dst with
    | some t => (match look t σ.ts with
      | some (.val (.tuple _)) => true
      | _ => false)
    | none => false)
  | none => false
/-- A guard that is known outright. -/
def litK (x c : Bool) (K : Bool → Prop) : Prop := match x with
  | true => K c
  | false => K (!c)
def guardK (ops : Array Oper) (o : Oper) (rid i : Nat) (σ : St) (d : List Dir) (K : Bool → List Dir → Prop) : Prop := match o.guard with
  | none => K true d
  | some (g, c) => (match boolS σ ops g with
    | some x => (match d with
      | .g r j b :: d' => bif keyB r j rid i then x = (bif b then c else !c) ∧ K b d' else litK x c fun b => K b d
      | .gb r j dx dy :: _ => bif keyB r j rid i then (x = c → K true dx) ∧ (x = (!c) → K false dy) else litK x c fun b => K b d
      | d => litK x c fun b => K b d)
    | none => ifB (undefS σ ops g) (K false d))
def dstB (d : Option Tmp) (n : Nat) : Bool := match d with
  | none => true
  | some k => Nat.blt k n
def storeK (tt : List (Nat × TI)) (σ : St) (t : TypeId) (x y : Operand) (K : St → Prop) : Prop := evK σ x fun s => match s with
  | .ptr b o => optK (nth σ.bs b) fun p => evK σ y fun u => tiK tt t fun ti => ifB (Nat.beq u.cells.length ti.size && Nat.ble (o + ti.size) p.2.length && u.cells.all SV.okCell) (K { σ with bs := setNth σ.bs b (p.1, spl p.2 o u.cells) })
  | _ => False
/-- An operation of whatever kind: what is known behind it. -/
def SeqOk (P : Program) (w0 : World) (o : Oper) (σ σ' : St) : Prop := ∀ r a w, Sat w0 σ r a w → ∀ (Q : Exit → Act → World → Prop) (next : Act → World → Prop), (∀ r' a' w', Sat w0 σ' r' a' w' → next a' w') → o.wp P a w next Q
def step1 (P : Program) (tt : List (Nat × TI)) (w0 : World) (rid i : Nat) (o : Oper) (σ : St) (d : List Dir) (K : St → List Dir → Prop) : Prop :=
  match o.op with
  | .store t x y => (match d with
    | .seq r j σ' :: d' => bif keyB r j rid i then SeqOk P w0 o σ σ' ∧ K σ' d' else ifB (dstB o.dst σ.n) (storeK tt σ t x y fun σ' => K (σ'.push o.dst (.val undef)) d)
    | d => ifB (dstB o.dst σ.n) (storeK tt σ t x y fun σ' => K (σ'.push o.dst (.val undef)) d))
  | _ => (match d with
    | .seq r j σ' :: d' => ifB (keyB r j rid i) (SeqOk P w0 o σ σ' ∧ K σ' d')
    | d => ifB (dstB o.dst σ.n) (quietK P tt w0 rid i o σ d fun out d' => ifB (σ.fits out) (K ((σ.grow out).push o.dst out.s) d')))
def execL (P : Program) (tt : List (Nat × TI)) (w0 : World) (rid : Nat) (ops : Array Oper) : List Oper → Nat → St → List Dir → (St → List Dir → Prop) → Prop
  | [], _, σ, d, K => K σ d
  | o :: l, i, σ, d, K => guardK ops o rid i σ d fun b d => match b with
    | true => step1 P tt w0 rid i o σ d fun σ d => execL P tt w0 rid ops l (i + 1) σ d K
    | false => ifB (dstB o.dst σ.n) (execL P tt w0 rid ops l (i + 1) (σ.push o.dst (.val undef)) d K)
section
variable {P : Program} {tt : List (Nat × TI)} {w0 : World} {σ : St}
theorem quietK_ok (hT : TTOk P tt) {rid i : Nat} {o : Oper} {d : List Dir} {K : Out → List Dir → Prop} (hK : ∀ out d, K out d → σ.fits out = true) (h : quietK P tt w0 rid i o σ d K) : ∃ d', QOk P w0 o σ fun out => K out d' := by
  unfold quietK at h
  split at h
  · rename_i r j x d'
    cases hk : keyB r j rid i with
    | true => rw [hk] at h; exact ⟨d', opD_ok hT (fun out => hK out d') h⟩
    | false => rw [hk] at h; exact ⟨_, opQ_ok hT (fun out => hK out _) h⟩
  · exact ⟨_, opQ_ok hT (fun out => hK out _) h⟩
theorem boolS_spec {ops : Array Oper} {g : Nat} {x : Bool} (h : boolS σ ops g = some x) {r : Env} {a : Act} {w : World} (hw : See w0 σ r a w) : yielded ops a.tmps g = some x := by
  unfold boolS at h
  split at h
  · rename_i og h1
    split at h
    · rename_i t h2
      split at h
      · rename_i y h3
        obtain rfl := Option.some.inj h
        have h4 := (hw.ts _ _ h3).1
        unfold yielded
        rw [h1, Option.bind_some, h2, Option.bind_some]
        have h5 : a.tmps[t]? = some (.bool y) := by
          rcases Nat.lt_or_ge t a.tmps.size with hl | hl
          · simp [hl] at h4 ⊢; exact h4
          · simp [hl, SV.den, undef] at h4
        rw [h5]
      · cases h
    · cases h
  · cases h
theorem undefS_spec {ops : Array Oper} {g : Nat} (h : undefS σ ops g = true) {r : Env} {a : Act} {w : World} (hw : See w0 σ r a w) : yielded ops a.tmps g = none := by
  unfold undefS at h
  split at h
  · rename_i og h1
    split at h
    · rename_i t h2
      split at h
      · rename_i y h3
        have h4 := (hw.ts _ _ h3).1
        unfold yielded
        rw [h1, Option.bind_some, h2, Option.bind_some]
        rcases Nat.lt_or_ge t a.tmps.size with hl | hl
        · have h5 : a.tmps[t]? = some (.tuple y) := by simp [hl] at h4 ⊢; exact h4
          rw [h5]
        · have h5 : a.tmps[t]? = none := by simp [hl]
          rw [h5]
      · cases h
    · cases h
  · cases h
theorem guardK_spec {ops : Array Oper} {o : Oper} {rid i : Nat} {d : List Dir} {K : Bool → List Dir → Prop} (h : guardK ops o rid i σ d K) : ∃ b d', K b d' ∧ ∀ r a w, See w0 σ r a w → Region.wanted o (yielded ops a.tmps) = b := by
  unfold guardK at h
  split at h
  · rename_i hg
    exact ⟨true, d, h, fun r a w _ => by simp [Region.wanted, hg]⟩
  · rename_i g c hg
    split at h
    · rename_i x hx
      have key : ∀ r a w, See w0 σ r a w → Region.wanted o (yielded ops a.tmps) = (x == c) := fun r a w hw => by
        have h1 := boolS_spec hx hw
        unfold Region.wanted
        rw [hg]
        show (yielded ops a.tmps g == some c) = (x == c)
        rw [h1]; rfl
      have hlit : ∀ d, litK x c (fun b => K b d) → ∃ b d', K b d' ∧ ∀ r a w, See w0 σ r a w → Region.wanted o (yielded ops a.tmps) = b := fun d h => by
        cases x with
        | true => exact ⟨c, d, h, fun r a w hw => by rw [key r a w hw]; cases c <;> rfl⟩
        | false => exact ⟨!c, d, h, fun r a w hw => by rw [key r a w hw]; cases c <;> rfl⟩
      split at h
      · rename_i r' j b d'
        cases hk : keyB r' j rid i with
        | true =>
          rw [hk] at h
          refine ⟨b, d', h.2, fun r a w hw => ?_⟩
          rw [key r a w hw, h.1]
          cases b <;> cases c <;> rfl
        | false => rw [hk] at h; exact hlit _ h
      · rename_i r' j dx dy _
        cases hk : keyB r' j rid i with
        | true =>
          rw [hk] at h
          by_cases e : x = c
          · exact ⟨true, dx, h.1 e, fun r a w hw => by rw [key r a w hw, e]; simp⟩
          · exact ⟨false, dy, h.2 (by cases x <;> cases c <;> simp_all), fun r a w hw => by rw [key r a w hw]; simpa using e⟩
        | false => rw [hk] at h; exact hlit _ h
      · exact hlit _ h
    · obtain ⟨h1, h2⟩ := ifB_spec h
      refine ⟨false, d, h2, fun r a w hw => ?_⟩
      unfold Region.wanted
      rw [hg]
      show (yielded ops a.tmps g == some c) = false
      rw [undefS_spec h1 hw]; rfl
theorem dstB_lt {d : Option Tmp} {n : Nat} (h : dstB d n = true) : ∀ k, d = some k → k < n := by
  rintro k rfl; exact blt_lt h
theorem Sat.put {r : Env} {a : Act} {w : World} (h : Sat w0 σ r a w) {d : Option Tmp} {s : SV} (hd : dstB d σ.n = true) (hs : σ.lt s = true) : Sat w0 (σ.push d s) r (a.put d (s.den r)) w := by
  refine ⟨h.see.push (dstB_lt hd) hs, ?_, ?_⟩
  · obtain ⟨h1, h2, h3, h4, h5⟩ := h.sep
    cases d <;> exact ⟨h1, h2, h3, h4, h5⟩
  · have := h.defers
    cases d <;> exact this
theorem Sat.yield {r : Env} {a : Act} {w w' : World} (h : Sat w0 σ r a w) {o : Out} {γ : Gh} {d : Option Tmp} (hb : Below w.heap.size w w') (hf : σ.fits o = true) (hd : dstB d σ.n = true) (hm : Made (r.add' σ γ) o γ w w') :
    Sat w0 ((σ.grow o).push d o.s) (r.add' σ γ) (a.put d (o.s.den (r.add' σ γ))) w' := by
  have h1 := h.see.grow hb hf hm
  have h2 := h.sep.grow h.see hb hm
  exact Sat.put ⟨h1, h2, h.defers⟩ hd (fits_lt hf)
theorem setNth_same {α : Type} : ∀ {l : List (Option α)} {i : Nat} {p y : α}, nth l i = some p → nth (setNth l i y) i = some y
  | [], _, _, _, h => by cases h
  | _ :: _, 0, _, _, _ => rfl
  | _ :: l, n + 1, _, _, h => setNth_same (l := l) (i := n) h
theorem setNth_other {α : Type} : ∀ {l : List (Option α)} {i j : Nat} {y : α}, j ≠ i → nth (setNth l i y) j = nth l j
  | [], _, _, _, _ => rfl
  | _ :: _, 0, 0, _, h => absurd rfl h
  | _ :: _, 0, _ + 1, _, _ => rfl
  | _ :: _, _ + 1, 0, _, _ => rfl
  | _ :: l, i + 1, j + 1, _, h => setNth_other (l := l) (i := i) (j := j) (fun e => h (by rw [e]))
theorem setN_block : ∀ (vs : List Value) (k : Nat) (w : World) (g b : Nat), b ≠ g → (setN w g k vs).heap[b]? = w.heap[b]?
  | [], _, _, _, _, _ => rfl
  | v :: vs, k, w, g, b, h => (setN_block vs (k + 1) (w.setCell ⟨g, k, none⟩ v) g b h).trans (Below.heap_setCell w ⟨g, k, none⟩ v b h)
theorem storeK_ok (hT : TTOk P tt) {o : Oper} {t : TypeId} {x y : Operand} (ho : o.op = .store t x y) {K : St → Prop} (h : storeK tt σ t x y K) (hd : dstB o.dst σ.n = true) :
    ∃ σ', K σ' ∧ SeqOk P w0 o σ (σ'.push o.dst (.val undef)) := by
  obtain ⟨s, h1, h⟩ := evK_spec h
  split at h
  case h_2 => exact h.elim
  rename_i b p
  obtain ⟨⟨bt, cs⟩, h2, h⟩ := optK_spec h
  obtain ⟨u, h3, h⟩ := evK_spec h
  obtain ⟨ti, h4, h⟩ := tiK_spec hT h
  obtain ⟨hc, h⟩ := ifB_spec h
  obtain ⟨hc, c3⟩ := Bool.and_eq_true_iff.1 hc
  obtain ⟨c1, c2⟩ := Bool.and_eq_true_iff.1 hc
  have c1 := Nat.eq_of_beq_eq_true c1
  have c2 := Nat.le_of_ble_eq_true c2
  refine ⟨_, h, fun r a w hw Q next hn => ?_⟩
  obtain ⟨e1, l1⟩ := evS_den hw.see h1
  obtain ⟨e3, l3⟩ := evS_den hw.see h3
  obtain ⟨hb, hbl⟩ := hw.see.bs b bt cs h2
  have hcell := cells_den hw.see l3
  have hsz : (u.den r).cells.size = ti.size := by rw [← Array.length_toList, ← hcell, denL_len, c1]
  have hrun := store_run (P := P) (t := t) (o := p) h4 hb hsz (by rw [denL_len]; exact c2) (fun v hv => by
    rw [← hcell, denL_map] at hv
    obtain ⟨z, hz, rfl⟩ := List.mem_map.1 hv
    exact okCell_den hw.see (okL_all.1 (cells_lt l3) z hz) (List.all_eq_true.1 c3 z hz))
  unfold Oper.wp
  have hex : (execOp a.eval o).run P w = .ok .skip (setN w (r.b b) p (u.den r).cells.toList) := by
    unfold execOp
    rw [ho]
    simp only [e1, e3, SV.den, Sem.run_bind, hrun, Result.andThen_ok]
    rfl
  rw [hex]
  refine hn r _ _ (Sat.put (s := .val undef) ⟨?_, ?_, hw.defers⟩ hd rfl)
  · have hown := hw.sep.own b _ h2
    have hne : ∀ i q, nth σ.bs i = some q → i ≠ b → r.b i ≠ r.b b := fun i q hi hne => hw.sep.inj i b _ _ hi h2 hne
    refine ⟨stN hown _ _ hw.see.low, hw.see.size, fun k s hk => (by have h5 := hw.see.ts k s hk; simp only [St.lt, setNth_len] at h5 ⊢; exact h5), fun i t' cs' hi => ?_, fun i R hi => ?_, hw.see.one⟩
    · have hlt : ∀ l, ({ σ with bs := setNth σ.bs b (bt, spl cs p u.cells) } : St).ltL l = σ.ltL l := fun l => by simp only [St.ltL, setNth_len]
      rw [hlt]
      by_cases e : i = b
      · subst e
        rw [setNth_same h2] at hi
        simp only [Option.some.injEq, Prod.mk.injEq] at hi
        obtain ⟨rfl, rfl⟩ := hi
        have h5 := Bx.stores (u.den r).cells.toList p hb
        have hs : denL r (spl cs p u.cells) = spl (denL r cs) p (denL r u.cells) := by simp only [denL_map, spl_map]
        rw [putN_spl, ← hcell, ← hs] at h5
        rw [← hcell]
        exact ⟨h5, okL_spl hbl (cells_lt l3)⟩
      · rw [setNth_other e] at hi
        obtain ⟨h5, h6⟩ := hw.see.bs i t' cs' hi
        exact ⟨Bx.farN (hne i _ hi e) _ _ h5, h6⟩
    · obtain ⟨h5, h6⟩ := hw.see.rs i R hi
      refine ⟨R.loc _ _ _ _ (fun b' hb' => setN_block _ _ _ _ _ fun e => hw.sep.apart b i _ _ h2 hi (e ▸ hb')) h5, fun b' hb' => ?_⟩
      rw [setN_size]; exact h6 b' hb'
  · have hex : ∀ i q, nth (setNth σ.bs b (bt, spl cs p u.cells)) i = some q → ∃ q', nth σ.bs i = some q' := fun i q hi => by
      by_cases e : i = b
      · subst e; exact ⟨_, h2⟩
      · rw [setNth_other e] at hi; exact ⟨_, hi⟩
    obtain ⟨s1, s2, s3, s4, s5⟩ := hw.sep
    refine ⟨fun i q hi => ?_, fun i j q q' hi hj => ?_, s3, s4, fun i j q R hi hj => ?_⟩
    · obtain ⟨q', hi⟩ := hex i q hi; exact s1 i q' hi
    · obtain ⟨z, hi⟩ := hex i q hi; obtain ⟨z', hj⟩ := hex j q' hj; exact s2 i j z z' hi hj
    · obtain ⟨z, hi⟩ := hex i q hi; exact s5 i j z R hi hj
theorem step1_ok (hT : TTOk P tt) {rid i : Nat} {o : Oper} {d : List Dir} {K : St → List Dir → Prop} (h : step1 P tt w0 rid i o σ d K) : ∃ σ' d', K σ' d' ∧ SeqOk P w0 o σ σ' := by
  unfold step1 at h
  have hst : ∀ t x y (d : List Dir), o.op = .store t x y → ifB (dstB o.dst σ.n) (storeK tt σ t x y fun σ' => K (σ'.push o.dst (.val undef)) d) → ∃ σ' d', K σ' d' ∧ SeqOk P w0 o σ σ' := fun t x y d ho h => by
    obtain ⟨hd, h⟩ := ifB_spec h
    obtain ⟨σ', h1, h2⟩ := storeK_ok (w0 := w0) hT ho h hd
    exact ⟨_, d, h1, h2⟩
  split at h
  · rename_i t x y ho
    split at h
    · rename_i r j σ' d'
      cases hk : keyB r j rid i with
      | true => rw [hk] at h; exact ⟨σ', d', h.2, h.1⟩
      | false => rw [hk] at h; exact hst t x y _ ho h
    · exact hst t x y _ ho h
  · split at h
    · rename_i r j σ' d'
      obtain ⟨_, h1, h2⟩ := ifB_spec h
      exact ⟨σ', d', h2, h1⟩
    · obtain ⟨hd, h⟩ := ifB_spec h
      obtain ⟨d', out, h1, h2⟩ := quietK_ok hT (fun out d h => (ifB_spec h).1) h
      obtain ⟨hf, h3⟩ := ifB_spec h1
      exact ⟨_, d', h3, fun r a w hw Q next hn => h2 r a w hw.see Q next fun u γ w' hu hb hm => by
        subst hu
        exact hn _ _ _ (hw.yield hb hf hd hm)⟩
theorem execL_ok (hT : TTOk P tt) {rid : Nat} {ops : Array Oper} : ∀ (l : List Oper) (i : Nat) (σ : St) (d : List Dir) (K : St → List Dir → Prop), execL P tt w0 rid ops l i σ d K → ∃ σ' d', K σ' d' ∧
    ∀ r a w, Sat w0 σ r a w → ∀ (Q : Exit → Act → World → Prop), (∀ r' a' w', Sat w0 σ' r' a' w' → Q .normal a' w') → wpList P ops Q l a w
  | [], i, σ, d, K, h => ⟨σ, d, h, fun r a w hw Q hQ => hQ r a w hw⟩
  | o :: l, i, σ, d, K, h => by
    obtain ⟨b, d1, h1, hg⟩ := guardK_spec (w0 := w0) h
    cases b with
    | true =>
      obtain ⟨σ2, d2, h2, hs⟩ := step1_ok hT h1
      obtain ⟨σ', d', h3, hl⟩ := execL_ok hT l (i + 1) σ2 d2 K h2
      refine ⟨σ', d', h3, fun r a w hw Q hQ => ?_⟩
      unfold wpList
      rw [if_pos (hg r a w hw.see)]
      exact .inl (hs r a w hw Q _ fun r' a' w' hw' => hl r' a' w' hw' Q hQ)
    | false =>
      obtain ⟨hd, h2⟩ := ifB_spec h1
      obtain ⟨σ', d', h3, hl⟩ := execL_ok hT l (i + 1) _ d1 K h2
      refine ⟨σ', d', h3, fun r a w hw Q hQ => ?_⟩
      unfold wpList
      rw [if_neg (by rw [hg r a w hw.see]; simp)]
      exact hl r _ w (hw.put (s := .val undef) hd rfl) Q hQ
end
end Go.Proofs.YtibbhpgpleeglaaGreatDoor

namespace Go.Proofs.YtibbhpgpleeglaaGreatDoor
open Go Go.RowKit

/-- One of the first operations: its slot, what it yields, which ones it waits for. -/
structure Hd where
  d : Nat
  out : Out
  cl : List Nat
def hideT (ds : List Nat) : List (Nat × SV) → List (Nat × SV)
  | [] => []
  | (k, s) :: l => bif memB k ds then hideT ds l else (k, s) :: hideT ds l
def visT (cl : List Nat) : List Hd → Nat → List (Nat × SV) → List (Nat × SV)
  | [], _, t => t
  | h :: l, j, t => bif memB j cl then (h.d, h.out.s) :: visT cl l (j + 1) t else visT cl l (j + 1) t
def visB (cl : List Nat) : List Hd → Nat → List (Option (TypeId × List SV))
  | [], _ => []
  | h :: l, j => (bif memB j cl then h.out.b else none) :: visB cl l (j + 1)
def visR (cl : List Nat) : List Hd → Nat → List (Option Res)
  | [], _ => []
  | h :: l, j => (bif memB j cl then h.out.r else none) :: visR cl l (j + 1)
def app {α : Type} : List α → List α → List α
  | [], m => m
  | x :: l, m => x :: app l m
theorem app_eq {α : Type} : ∀ l m : List α, app l m = l ++ m
  | [], _ => rfl
  | x :: l, m => congrArg (x :: ·) (app_eq l m)
def visSt (σ : St) (base : List (Nat × SV)) (hs : List Hd) (cl : List Nat) : St := ⟨σ.n, visT cl hs 0 base, app σ.bs (visB cl hs 0), app σ.rs (visR cl hs 0)⟩
def tailT : List Hd → List (Nat × SV) → List (Nat × SV)
  | [], t => t
  | h :: l, t => (h.d, h.out.s) :: tailT l t
def tailB : List Hd → List (Option (TypeId × List SV))
  | [] => []
  | h :: l => h.out.b :: tailB l
def tailR : List Hd → List (Option Res)
  | [] => []
  | h :: l => h.out.r :: tailR l
def tailSt (σ : St) (hs : List Hd) : St := ⟨σ.n, tailT hs σ.ts, app σ.bs (tailB hs), app σ.rs (tailR hs)⟩
def clos1 : List Hd → Nat → List Nat
  | [], _ => []
  | h :: _, 0 => h.cl
  | _ :: l, n + 1 => clos1 l n
def uni : List Nat → List Nat → List Nat
  | [], m => m
  | j :: l, m => bif memB j m then uni l m else uni l (j :: m)
theorem uni_mem {x : Nat} : ∀ {l m : List Nat}, x ∈ uni l m → x ∈ l ∨ x ∈ m
  | [], _, h => .inr h
  | j :: l, m, h => by
    unfold uni at h
    cases e : memB j m with
    | true => rw [e] at h; exact (uni_mem h).imp (List.mem_cons_of_mem _) id
    | false =>
      rw [e] at h
      rcases uni_mem h with h | h
      · exact .inl (List.mem_cons_of_mem _ h)
      · rcases List.mem_cons.1 h with rfl | h
        · exact .inl (by simp)
        · exact .inr h
def clos (hs : List Hd) : List Nat → List Nat
  | [] => []
  | j :: l => uni (j :: clos1 hs j) (clos hs l)
/-- It points to what was, or to what these make. -/
def refB (n : Nat) (cl : List Nat) (b : Nat) : Bool := Nat.blt b n || (Nat.ble n b && memB (b - n) cl)
def refsB (σ : St) (i : Nat) (cl : List Nat) (o : Out) : Bool :=
  o.s.ok (refB σ.bs.length (i :: cl)) (refB σ.rs.length (i :: cl)) && (match o.b with | some (_, cs) => okL (refB σ.bs.length cl) (refB σ.rs.length cl) cs | none => true)
def lateS (σ : St) (o : Op) (K : Out → Prop) : Prop := match o with
  | .extract x i => evK σ x fun s => tupK s fun l => optK (nthL l i) fun c => K (one c)
  | _ => False
def headsK (P : Program) (tt : List (Nat × TI)) (w0 : World) (rid : Nat) (ops : Array Oper) (late : List Nat) (σ : St) (base : List (Nat × SV)) : List Oper → Nat → Nat → List Hd → List Dir → (List Hd → List Dir → Prop) → Prop
  | _, 0, _, hs, d, K => K hs d
  | [], _ + 1, _, _, _, _ => False
  | o :: l, n + 1, i, hs, d, K => (fun cl => (fun σi => guardK ops o rid i σi d fun b d => optK o.dst fun k => match b with
    | true => (match memB i late with
      | true => lateS σi o.op fun out => ifB (σi.fits out && refsB σ i cl out) (headsK P tt w0 rid ops late σ base l n (i + 1) (snoc hs ⟨k, out, cl⟩) d K)
      | false => quietK P tt w0 rid i o σi d fun out d => ifB (σi.fits out && refsB σ i cl out) (headsK P tt w0 rid ops late σ base l n (i + 1) (snoc hs ⟨k, out, cl⟩) d K))
    | false => ifB (!memB i late) (headsK P tt w0 rid ops late σ base l n (i + 1) (snoc hs ⟨k, one (.val undef), cl⟩) d K)) (visSt σ base hs cl)) (clos hs (waitsO o))
def dsOf : List Oper → Nat → List Nat
  | _, 0 => []
  | [], _ + 1 => []
  | o :: l, n + 1 => (match o.dst with | some d => d | none => 0) :: dsOf l n
def regionK (P : Program) (tt : List (Nat × TI)) (w0 : World) (id : Nat) (ops : Array Oper) (σ : St) (d : List Dir) (K : St → List Dir → Prop) : Prop := match d with
  | .reg n late :: d => ifB (okB ops.toList (dsOf ops.toList n) late σ.n) (headsK P tt w0 id ops late σ (hideT (dsOf ops.toList n) σ.ts) ops.toList n 0 [] d fun hs d =>
      execL P tt w0 id ops (ops.toList.drop n) n (tailSt σ hs) d K)
  | _ => False
/-! What the heads are. -/
def HOk (P : Program) (w0 : World) (ops : Array Oper) (late : List Nat) (σ : St) (base : List (Nat × SV)) (hs : List Hd) (i : Nat) (h : Hd) (o : Oper) : Prop :=
  o.dst = some h.d ∧ (∀ j, j ∈ h.cl → Rch ops i j) ∧ (visSt σ base (hs.take i) h.cl).fits h.out = true ∧ refsB σ i h.cl h.out = true ∧
  (((∀ r a w, See w0 (visSt σ base (hs.take i) h.cl) r a w → Region.wanted o (yielded ops a.tmps) = true) ∧
    ((memB i late = false ∧ QStep P w0 o (visSt σ base (hs.take i) h.cl) fun u => u = h.out) ∨
     (memB i late = true ∧ h.out.b = none ∧ h.out.r = none ∧ ∀ r a w, See w0 (visSt σ base (hs.take i) h.cl) r a w → ∀ w', (execOp a.eval o).run P w' = .ok (.value (h.out.s.den r)) w'))) ∨
   ((∀ r a w, See w0 (visSt σ base (hs.take i) h.cl) r a w → Region.wanted o (yielded ops a.tmps) = false) ∧ memB i late = false ∧ h.out = one (.val undef)))
section
variable {P : Program} {tt : List (Nat × TI)} {w0 : World} {σ : St}
theorem clos1_mem {ops : Array Oper} {hs : List Hd} (hcl : ∀ k h, hs[k]? = some h → ∀ j, j ∈ h.cl → Rch ops k j) : ∀ {k j : Nat}, j ∈ clos1 hs k → Rch ops k j := by
  have key : ∀ (l : List Hd) (k j : Nat), j ∈ clos1 l k → ∃ h, l[k]? = some h ∧ j ∈ h.cl := by
    intro l
    induction l with
    | nil => intro k j h; cases h
    | cons x l ih =>
      intro k j h
      cases k with
      | zero => exact ⟨x, rfl, h⟩
      | succ k => simpa using ih k j h
  intro k j h
  obtain ⟨x, h1, h2⟩ := key hs k j h
  exact hcl k x h1 j h2
theorem clos_mem {ops : Array Oper} {hs : List Hd} (hcl : ∀ k h, hs[k]? = some h → ∀ j, j ∈ h.cl → Rch ops k j) {i : Nat} : ∀ {l : List Nat}, (∀ j, j ∈ l → j ∈ waits ops i) → ∀ j, j ∈ clos hs l → Rch ops i j
  | [], _, _, h => by cases h
  | k :: l, hl, j, h => by
    unfold clos at h
    rcases uni_mem h with h | h
    · rcases List.mem_cons.1 h with rfl | h
      · exact .one (hl j (by simp))
      · exact .more (hl k (by simp)) (clos1_mem hcl h)
    · exact clos_mem hcl (fun m hm => hl m (by simp [hm])) j h
theorem lateS_ok {o : Oper} {K : Out → Prop} (h : lateS σ o.op K) : ∃ out, K out ∧ out.b = none ∧ out.r = none ∧ ∀ r a w, See w0 σ r a w → ∀ w', (execOp a.eval o).run P w' = .ok (.value (out.s.den r)) w' := by
  unfold lateS at h
  split at h
  · rename_i x i e
    obtain ⟨s, h1, h⟩ := evK_spec h
    obtain ⟨l, h, hl⟩ := tupK_spec h
    obtain ⟨c, hc, h⟩ := optK_spec h
    refine ⟨_, h, rfl, rfl, fun r A w hw w' => ?_⟩
    have e2 : execOp A.eval o = execOp A.eval { o with op := .extract x i } := by rw [← e]
    rw [e2]
    refine run_v ?_
    rw [(evS_den hw h1).1, hl]
    simp [Instr.extract, nthL_den hc, one]
  · exact h.elim
theorem headsK_ok (hT : TTOk P tt) {rid : Nat} {ops : Array Oper} {late : List Nat} {base : List (Nat × SV)} {K : List Hd → List Dir → Prop} : ∀ (n : Nat) (l : List Oper) (i : Nat) (acc : List Hd) (d : List Dir),
    (∀ j, l[j]? = ops[i + j]?) → acc.length = i → (∀ k h, acc[k]? = some h → ∀ j, j ∈ h.cl → Rch ops k j) → headsK P tt w0 rid ops late σ base l n i acc d K →
    ∃ hs d', K hs d' ∧ hs.length = i + n ∧ hs.take i = acc ∧ ∀ j, i ≤ j → j < i + n → ∃ h o, hs[j]? = some h ∧ ops[j]? = some o ∧ HOk P w0 ops late σ base hs j h o
  | 0, l, i, acc, d, _, ha, _, h => by
    refine ⟨acc, d, (by cases l <;> exact h), ha, by rw [← ha]; exact List.take_length, fun j h1 h2 => by omega⟩
  | n + 1, [], i, acc, d, _, _, _, h => False.elim h
  | n + 1, o :: l, i, acc, d, hl, ha, hcl, h => by
    have ho : ops[i]? = some o := by have := hl 0; simpa using this.symm
    have hl' : ∀ j, l[j]? = ops[i + 1 + j]? := fun j => by have := hl (j + 1); rw [show i + 1 + j = i + (j + 1) by omega]; simpa using this
    have hw : ∀ j, j ∈ clos acc (waitsO o) → Rch ops i j := clos_mem hcl fun j hj => by unfold waits; rw [ho]; exact hj
    have hnext : ∀ x : Hd, x.cl = clos acc (waitsO o) → ∀ d, headsK P tt w0 rid ops late σ base l n (i + 1) (snoc acc x) d K →
        (∀ hs : List Hd, hs.take i = acc → HOk P w0 ops late σ base hs i x o) → ∃ hs d', K hs d' ∧ hs.length = i + (n + 1) ∧ hs.take i = acc ∧ ∀ j, i ≤ j → j < i + (n + 1) → ∃ h o, hs[j]? = some h ∧ ops[j]? = some o ∧ HOk P w0 ops late σ base hs j h o := fun x hx d h hok => by
      rw [snoc_eq] at h
      obtain ⟨hs, d', h1, h2, h3, h4⟩ := headsK_ok hT n l (i + 1) (acc ++ [x]) d hl' (by simp [ha]) (fun k y hk j hj => by
        rcases Nat.lt_or_ge k acc.length with h5 | h5
        · rw [List.getElem?_append_left h5] at hk; exact hcl k y hk j hj
        · have h6 : k = i := by
            have h7 := (List.getElem?_eq_some_iff.1 hk).1
            simp at h7; omega
          subst h6
          rw [← ha] at hk
          simp at hk
          subst hk
          rw [hx] at hj
          exact hw j hj) h
      have h5 : hs.take i = acc := by
        have := congrArg (List.take i) h3
        rw [List.take_take, Nat.min_eq_left (by omega), List.take_append_of_le_length (by omega), ← ha, List.take_length] at this
        rw [← ha]; exact this
      refine ⟨hs, d', h1, by omega, h5, fun j h6 h7 => ?_⟩
      by_cases e : j = i
      · subst e
        refine ⟨x, o, ?_, ho, hok hs h5⟩
        have h8 : (hs.take (j + 1))[j]? = (acc ++ [x])[j]? := by rw [h3]
        rw [List.getElem?_take_of_lt (by omega)] at h8
        rw [h8, ← ha]
        simp
      · exact h4 j (by omega) (by omega)
    simp only [headsK] at h
    obtain ⟨b, d1, h1, hg⟩ := guardK_spec (w0 := w0) h
    obtain ⟨k, hk, h1⟩ := optK_spec h1
    cases b with
    | true =>
      cases hm : memB i late with
      | true =>
        rw [hm] at h1
        obtain ⟨out, h2, h3, h4, h5⟩ := lateS_ok (P := P) (w0 := w0) h1
        obtain ⟨hc, h6⟩ := ifB_spec h2
        obtain ⟨hf, hr⟩ := Bool.and_eq_true_iff.1 hc
        exact hnext _ rfl _ h6 fun hs e => ⟨hk, hw, by rw [e]; exact hf, hr, .inl ⟨by rw [e]; exact hg, .inr ⟨hm, h3, h4, by rw [e]; exact h5⟩⟩⟩
      | false =>
        rw [hm] at h1
        obtain ⟨d2, out, h2, h3⟩ := quietK_ok (w0 := w0) hT (fun out d h => (Bool.and_eq_true_iff.1 (ifB_spec h).1).1) h1
        obtain ⟨hc, h6⟩ := ifB_spec h2
        obtain ⟨hf, hr⟩ := Bool.and_eq_true_iff.1 hc
        exact hnext _ rfl _ h6 fun hs e => ⟨hk, hw, by rw [e]; exact hf, hr, .inl ⟨by rw [e]; exact hg, .inl ⟨hm, by rw [e]; exact h3⟩⟩⟩
    | false =>
      obtain ⟨hm, h6⟩ := ifB_spec h1
      have hm : memB i late = false := by simpa using hm
      exact hnext _ rfl _ h6 fun hs e => ⟨hk, hw, rfl, rfl, .inr ⟨by rw [e]; exact hg, hm, rfl⟩⟩
end
end Go.Proofs.YtibbhpgpleeglaaGreatDoor

namespace Go.Proofs.YtibbhpgpleeglaaGreatDoor
open Go Go.RowKit

def oneV (v : Value) : Value := if v.oneCell' then v else .bool false
theorem oneV_one (v : Value) : (oneV v).oneCell' = true := by
  unfold oneV; split
  · assumption
  · rfl
theorem oneV_eq {v : Value} (h : v.oneCell' = true) : oneV v = v := if_pos h
/-- Where what the heads make lies. -/
def rg (σ : St) (r : Env) (γ : Nat → Gh) : Env :=
  ⟨fun k => if k < σ.bs.length then r.b k else (γ (k - σ.bs.length)).b, fun k => if k < σ.rs.length then r.x k else oneV (γ (k - σ.rs.length)).x, fun k => if k < σ.rs.length then r.S k else (γ (k - σ.rs.length)).S⟩
theorem rg_upd {σ : St} {r : Env} {γ : Nat → Gh} {g : Gh} (hg : g.x.oneCell' = true) (i : Nat) : rg σ r (upd γ i g) = (rg σ r γ).add (σ.bs.length + i) (σ.rs.length + i) g := by
  unfold rg Env.add upd
  congr 1
  · funext k
    show (if k < σ.bs.length then r.b k else (if k - σ.bs.length = i then g else γ (k - σ.bs.length)).b) = if k = σ.bs.length + i then g.b else if k < σ.bs.length then r.b k else (γ (k - σ.bs.length)).b
    by_cases h : k < σ.bs.length
    · rw [if_pos h, if_neg (by omega), if_pos h]
    · by_cases e : k = σ.bs.length + i
      · rw [if_neg h, if_pos e, if_pos (by omega)]
      · rw [if_neg h, if_neg e, if_neg h, if_neg (by omega)]
  · funext k
    show (if k < σ.rs.length then r.x k else oneV (if k - σ.rs.length = i then g else γ (k - σ.rs.length)).x) = if k = σ.rs.length + i then g.x else if k < σ.rs.length then r.x k else oneV (γ (k - σ.rs.length)).x
    by_cases h : k < σ.rs.length
    · rw [if_pos h, if_neg (by omega), if_pos h]
    · by_cases e : k = σ.rs.length + i
      · rw [if_neg h, if_pos e, if_pos (by omega), oneV_eq hg]
      · rw [if_neg h, if_neg e, if_neg h, if_neg (by omega)]
  · funext k
    show (if k < σ.rs.length then r.S k else (if k - σ.rs.length = i then g else γ (k - σ.rs.length)).S) = if k = σ.rs.length + i then g.S else if k < σ.rs.length then r.S k else (γ (k - σ.rs.length)).S
    by_cases h : k < σ.rs.length
    · rw [if_pos h, if_neg (by omega), if_pos h]
    · by_cases e : k = σ.rs.length + i
      · rw [if_neg h, if_pos e, if_pos (by omega)]
      · rw [if_neg h, if_neg e, if_neg h, if_neg (by omega)]
theorem rg_old {σ : St} {r : Env} {γ : Nat → Gh} {s : SV} (h : σ.lt s = true) : s.den (rg σ r γ) = s.den r :=
  den_congr (fun _ hi => if_pos (blt_lt hi)) (fun _ hi => if_pos (blt_lt hi)) s h
theorem rgL_old {σ : St} {r : Env} {γ : Nat → Gh} {l : List SV} (h : σ.ltL l = true) : denL (rg σ r γ) l = denL r l :=
  denL_congr (fun _ hi => if_pos (blt_lt hi)) (fun _ hi => if_pos (blt_lt hi)) l h
theorem refB_spec {n : Nat} {cl : List Nat} {b : Nat} (h : refB n cl b = true) : b < n ∨ (n ≤ b ∧ b - n ∈ cl) := by
  rcases Bool.or_eq_true_iff.1 h with h | h
  · exact .inl (blt_lt h)
  · obtain ⟨h1, h2⟩ := Bool.and_eq_true_iff.1 h
    exact .inr ⟨Nat.le_of_ble_eq_true h1, memB_mem.1 h2⟩
theorem rg_b {σ : St} {r : Env} {γ γ' : Nat → Gh} {cl : List Nat} (h : ∀ j, j ∈ cl → γ j = γ' j) {i : Nat} (hi : refB σ.bs.length cl i = true) : (rg σ r γ).b i = (rg σ r γ').b i := by
  unfold rg
  rcases refB_spec hi with h1 | ⟨h1, h2⟩
  · simp only [if_pos h1]
  · have h3 : ¬ i < σ.bs.length := by omega
    simp only [if_neg h3, h _ h2]
theorem rg_x {σ : St} {r : Env} {γ γ' : Nat → Gh} {cl : List Nat} (h : ∀ j, j ∈ cl → γ j = γ' j) {i : Nat} (hi : refB σ.rs.length cl i = true) : (rg σ r γ).x i = (rg σ r γ').x i := by
  unfold rg
  rcases refB_spec hi with h1 | ⟨h1, h2⟩
  · simp only [if_pos h1]
  · have h3 : ¬ i < σ.rs.length := by omega
    simp only [if_neg h3, h _ h2]
/-! Lists. -/
theorem look_visT {cl : List Nat} {k : Nat} {s : SV} : ∀ {hs : List Hd} {j0 : Nat} {t : List (Nat × SV)}, look k (visT cl hs j0 t) = some s → (∃ j, ∃ h : Hd, hs[j]? = some h ∧ (j0 + j) ∈ cl ∧ h.d = k ∧ s = h.out.s) ∨ look k t = some s
  | [], _, _, h => .inr h
  | x :: hs, j0, t, h => by
    unfold visT at h
    cases e : memB j0 cl with
    | true =>
      rw [e] at h
      simp only [cond_true, look] at h
      cases e2 : Nat.beq x.d k with
      | true =>
        rw [e2] at h
        obtain rfl := Option.some.inj h
        exact .inl ⟨0, x, rfl, memB_mem.1 e, Nat.eq_of_beq_eq_true e2, rfl⟩
      | false =>
        rw [e2] at h
        rcases look_visT (hs := hs) h with ⟨j, y, h1, h2, h3⟩ | h1
        · exact .inl ⟨j + 1, y, by simpa using h1, by rw [show j0 + (j + 1) = j0 + 1 + j by omega]; exact h2, h3⟩
        · exact .inr h1
    | false =>
      rw [e] at h
      rcases look_visT (hs := hs) h with ⟨j, y, h1, h2, h3⟩ | h1
      · exact .inl ⟨j + 1, y, by simpa using h1, by rw [show j0 + (j + 1) = j0 + 1 + j by omega]; exact h2, h3⟩
      · exact .inr h1
theorem look_hide {ds : List Nat} {k : Nat} {s : SV} : ∀ {t : List (Nat × SV)}, look k (hideT ds t) = some s → k ∉ ds ∧ look k t = some s
  | [], h => by cases h
  | (j, u) :: t, h => by
    unfold hideT at h
    cases e : memB j ds with
    | true =>
      rw [e] at h
      obtain ⟨h1, h2⟩ := look_hide (t := t) h
      refine ⟨h1, ?_⟩
      unfold look
      cases e2 : Nat.beq j k with
      | true => exact absurd (memB_mem.1 e) (Nat.eq_of_beq_eq_true e2 ▸ h1)
      | false => exact h2
    | false =>
      rw [e] at h
      simp only [cond_false, look] at h
      unfold look
      cases e2 : Nat.beq j k with
      | true =>
        rw [e2] at h
        refine ⟨fun hm => ?_, h⟩
        rw [← Nat.eq_of_beq_eq_true e2] at hm
        rw [memB_mem.2 hm] at e; cases e
      | false => rw [e2] at h; exact look_hide (t := t) h
theorem look_tail {k : Nat} {s : SV} : ∀ {hs : List Hd} {t : List (Nat × SV)}, look k (tailT hs t) = some s → (∃ (j : Nat) (h : Hd), hs[j]? = some h ∧ h.d = k ∧ s = h.out.s) ∨ ((∀ (j : Nat) (h : Hd), hs[j]? = some h → h.d ≠ k) ∧ look k t = some s)
  | [], _, h => .inr ⟨fun _ _ h => by simp at h, h⟩
  | x :: hs, t, h => by
    simp only [tailT, look] at h
    cases e2 : Nat.beq x.d k with
    | true =>
      rw [e2] at h
      obtain rfl := Option.some.inj h
      exact .inl ⟨0, x, rfl, Nat.eq_of_beq_eq_true e2, rfl⟩
    | false =>
      rw [e2] at h
      rcases look_tail (hs := hs) h with ⟨j, y, h1, h2⟩ | ⟨h1, h2⟩
      · exact .inl ⟨j + 1, y, by simpa using h1, h2⟩
      · refine .inr ⟨fun j y hj => ?_, h2⟩
        cases j with
        | zero => simp at hj; subst hj; exact Nat.ne_of_beq_eq_false e2
        | succ j => exact h1 j y (by simpa using hj)
theorem nth_app2 {α : Type} : ∀ {l m : List (Option α)} {i : Nat} {y : α}, nth (app l m) i = some y → nth l i = some y ∨ (l.length ≤ i ∧ nth m (i - l.length) = some y)
  | [], _, _, _, h => .inr ⟨Nat.zero_le _, h⟩
  | _ :: _, _, 0, _, h => .inl h
  | _ :: l, m, i + 1, _, h => (nth_app2 (l := l) (m := m) (i := i) h).imp id fun ⟨h1, h2⟩ => ⟨Nat.succ_le_succ h1, by rw [List.length_cons, Nat.add_sub_add_right]; exact h2⟩
theorem nth_visB {cl : List Nat} {y : TypeId × List SV} : ∀ {hs : List Hd} {j0 j : Nat}, nth (visB cl hs j0) j = some y → ∃ h, hs[j]? = some h ∧ (j0 + j) ∈ cl ∧ h.out.b = some y
  | [], _, _, h => by cases h
  | x :: hs, j0, 0, h => by
    change (bif memB j0 cl then x.out.b else none) = some y at h
    cases e : memB j0 cl with
    | true => rw [e] at h; exact ⟨x, rfl, memB_mem.1 e, h⟩
    | false => rw [e] at h; cases h
  | x :: hs, j0, j + 1, h => by
    obtain ⟨z, h1, h2, h3⟩ := nth_visB (hs := hs) (j0 := j0 + 1) (j := j) h
    exact ⟨z, by simpa using h1, by rw [show j0 + (j + 1) = j0 + 1 + j by omega]; exact h2, h3⟩
theorem nth_visR {cl : List Nat} {y : Res} : ∀ {hs : List Hd} {j0 j : Nat}, nth (visR cl hs j0) j = some y → ∃ h, hs[j]? = some h ∧ (j0 + j) ∈ cl ∧ h.out.r = some y
  | [], _, _, h => by cases h
  | x :: hs, j0, 0, h => by
    change (bif memB j0 cl then x.out.r else none) = some y at h
    cases e : memB j0 cl with
    | true => rw [e] at h; exact ⟨x, rfl, memB_mem.1 e, h⟩
    | false => rw [e] at h; cases h
  | x :: hs, j0, j + 1, h => by
    obtain ⟨z, h1, h2, h3⟩ := nth_visR (hs := hs) (j0 := j0 + 1) (j := j) h
    exact ⟨z, by simpa using h1, by rw [show j0 + (j + 1) = j0 + 1 + j by omega]; exact h2, h3⟩
theorem nth_tailB {y : TypeId × List SV} : ∀ {hs : List Hd} {j : Nat}, nth (tailB hs) j = some y → ∃ h, hs[j]? = some h ∧ h.out.b = some y
  | [], _, h => by cases h
  | x :: hs, 0, h => ⟨x, rfl, h⟩
  | x :: hs, j + 1, h => by
    obtain ⟨z, h1, h2⟩ := nth_tailB (hs := hs) (j := j) h
    exact ⟨z, by simpa using h1, h2⟩
theorem nth_tailR {y : Res} : ∀ {hs : List Hd} {j : Nat}, nth (tailR hs) j = some y → ∃ h, hs[j]? = some h ∧ h.out.r = some y
  | [], _, h => by cases h
  | x :: hs, 0, h => ⟨x, rfl, h⟩
  | x :: hs, j + 1, h => by
    obtain ⟨z, h1, h2⟩ := nth_tailR (hs := hs) (j := j) h
    exact ⟨z, by simpa using h1, h2⟩
theorem visB_len (cl : List Nat) : ∀ (hs : List Hd) (j : Nat), (visB cl hs j).length = hs.length
  | [], _ => rfl
  | _ :: hs, j => congrArg Nat.succ (visB_len cl hs (j + 1))
theorem visR_len (cl : List Nat) : ∀ (hs : List Hd) (j : Nat), (visR cl hs j).length = hs.length
  | [], _ => rfl
  | _ :: hs, j => congrArg Nat.succ (visR_len cl hs (j + 1))
theorem tailB_len : ∀ (hs : List Hd), (tailB hs).length = hs.length
  | [] => rfl
  | _ :: hs => congrArg Nat.succ (tailB_len hs)
theorem tailR_len : ∀ (hs : List Hd), (tailR hs).length = hs.length
  | [] => rfl
  | _ :: hs => congrArg Nat.succ (tailR_len hs)
theorem vis_bs (σ : St) (base : List (Nat × SV)) (hs : List Hd) (cl : List Nat) : (visSt σ base hs cl).bs.length = σ.bs.length + hs.length := by simp [visSt, app_eq, visB_len]
theorem vis_rs (σ : St) (base : List (Nat × SV)) (hs : List Hd) (cl : List Nat) : (visSt σ base hs cl).rs.length = σ.rs.length + hs.length := by simp [visSt, app_eq, visR_len]
theorem tail_bs (σ : St) (hs : List Hd) : (tailSt σ hs).bs.length = σ.bs.length + hs.length := by simp [tailSt, app_eq, tailB_len]
theorem tail_rs (σ : St) (hs : List Hd) : (tailSt σ hs).rs.length = σ.rs.length + hs.length := by simp [tailSt, app_eq, tailR_len]
theorem dsOf_at : ∀ {l : List Oper} {n : Nat}, (∀ j, j < n → ∃ o d, l[j]? = some o ∧ o.dst = some d) → (dsOf l n).length = n ∧ ∀ j o d, j < n → l[j]? = some o → o.dst = some d → (dsOf l n)[j]? = some d
  | l, 0, _ => ⟨by cases l <;> rfl, fun _ _ _ h => by omega⟩
  | [], n + 1, h => by obtain ⟨o, d, h1, _⟩ := h 0 (by omega); simp at h1
  | x :: l, n + 1, h => by
    obtain ⟨h1, h2⟩ := dsOf_at (l := l) (n := n) fun j hj => by simpa using h (j + 1) (by omega)
    refine ⟨by simp [dsOf, h1], fun j o d hj ho hd => ?_⟩
    cases j with
    | zero => simp at ho; subst ho; simp [dsOf, hd]
    | succ j => simpa [dsOf] using h2 j o d (by omega) (by simpa using ho) hd
theorem idx_none {k : Nat} : ∀ {ds : List Nat} {i : Nat}, k ∉ ds → idx k ds i = none
  | [], _, _ => rfl
  | d :: ds, i, h => by
    unfold idx
    rw [if_neg fun e => h (by simp [e])]
    exact idx_none fun hm => h (by simp [hm])
end Go.Proofs.YtibbhpgpleeglaaGreatDoor

namespace Go.Proofs.YtibbhpgpleeglaaGreatDoor
open Go Go.RowKit

/-- What is known of a head that has come. -/
def PhiH (σ : St) (r : Env) (hs : List Hd) (j : Nat) (u : Nat → Value) (γ : Nat → Gh) (W : World) : Prop := ∀ h, hs[j]? = some h →
  u j = h.out.s.den (rg σ r γ) ∧ (∀ t cs, h.out.b = some (t, cs) → Bx W (γ j).b t (denL (rg σ r γ) cs).toArray) ∧ (∀ R, h.out.r = some R → (R.φ (γ j).x (γ j).S W ∧ ∀ b, (γ j).S b → b < W.heap.size) ∧ (γ j).x.oneCell' = true) ∧ (∀ p R, h.out.b = some p → h.out.r = some R → ¬ (γ j).S (γ j).b)
def FrH (hs : List Hd) (i : Nat) (g : Gh) (b : Nat) : Prop := ∃ h, hs[i]? = some h ∧ ((∃ p, h.out.b = some p ∧ b = g.b) ∨ (∃ R, h.out.r = some R ∧ g.S b))
section
variable {P : Program} {tt : List (Nat × TI)} {w0 : World} {σ : St} {r : Env} {a : Act} {w : World} {ops : Array Oper} {late : List Nat} {base : List (Nat × SV)} {hs : List Hd} {ds : List Nat} {n : Nat}
/-- What a head sees. -/
theorem see_vis (hS : See w0 σ r a w) (hbase : ∀ k s, look k base = some s → k ∉ ds ∧ look k σ.ts = some s) (hnd : ds.Nodup) (hlen : hs.length = n) (hds : ∀ (j : Nat) (h : Hd), hs[j]? = some h → ds[j]? = some h.d) (hdl : ds.length = n) (hlt : ∀ d, d ∈ ds → d < a.tmps.size)
    (hfit : ∀ (j : Nat) (h : Hd), hs[j]? = some h → ∃ cl, (visSt σ base (hs.take j) cl).fits h.out = true)
    {i : Nat} (hi : i < n) {cl : List Nat} (_hcl : ∀ j, j ∈ cl → j < i) {W : World} (hb : Below w.heap.size w W) {u : Nat → Value} {γ : Nat → Gh} (hΦ : ∀ j, j ∈ cl → PhiH σ r hs j u γ W) :
    See w0 (visSt σ base (hs.take i) cl) (rg σ r γ) (frm a ds u) W := by
  have h' := hS.later hb
  have hti : (hs.take i).length = i := by rw [List.length_take]; omega
  have hget : ∀ (j : Nat) (h : Hd), (hs.take i)[j]? = some h → hs[j]? = some h ∧ j < i := fun j h hj => by
    have h1 := (List.getElem?_eq_some_iff.1 hj).1
    rw [hti] at h1
    rw [List.getElem?_take_of_lt h1] at hj
    exact ⟨hj, h1⟩
  have hbl := vis_bs σ base (hs.take i) cl
  have hrl := vis_rs σ base (hs.take i) cl
  rw [hti] at hbl hrl
  have hold : ∀ s : SV, σ.lt s = true → (visSt σ base (hs.take i) cl).lt s = true := fun s h => ok_mono (fun k hk => lt_blt (by have := blt_lt hk; rw [hbl]; omega)) (fun k hk => lt_blt (by have := blt_lt hk; rw [hrl]; omega)) s h
  have holdL : ∀ s : List SV, σ.ltL s = true → (visSt σ base (hs.take i) cl).ltL s = true := fun s h => okL_mono (fun k hk => lt_blt (by have := blt_lt hk; rw [hbl]; omega)) (fun k hk => lt_blt (by have := blt_lt hk; rw [hrl]; omega)) s h
  have hfitj : ∀ (j : Nat) (h : Hd), hs[j]? = some h → j < i → (visSt σ base (hs.take i) cl).lt h.out.s = true ∧ ∀ t cs, h.out.b = some (t, cs) → (visSt σ base (hs.take i) cl).ltL cs = true := fun j h hj hji => by
    obtain ⟨cl', hf⟩ := hfit j h hj
    have hjl : (hs.take j).length = j := by rw [List.length_take]; omega
    have b1 := vis_bs σ base (hs.take j) cl'
    have b2 := vis_rs σ base (hs.take j) cl'
    rw [hjl] at b1 b2
    obtain ⟨f1, f2⟩ := Bool.and_eq_true_iff.1 hf
    refine ⟨ok_mono (fun k hk => lt_blt ?_) (fun k hk => lt_blt ?_) _ f1, fun t cs e => ?_⟩
    · have h5 := blt_lt hk
      cases e : h.out.b <;> rw [e] at h5 <;> simp only [b1] at h5 <;> rw [hbl] <;> omega
    · have h5 := blt_lt hk
      cases e : h.out.r <;> rw [e] at h5 <;> simp only [b2] at h5 <;> rw [hrl] <;> omega
    · rw [e] at f2
      exact okL_mono (fun k hk => lt_blt (by have h5 := blt_lt hk; rw [b1] at h5; rw [hbl]; omega)) (fun k hk => lt_blt (by have h5 := blt_lt hk; rw [b2] at h5; rw [hrl]; omega)) cs f2
  refine ⟨h'.low, by rw [frm_size]; exact h'.size, fun k s hk => ?_, fun k t cs hk => ?_, fun k R hk => ?_, fun k hk => ?_⟩
  · rcases look_visT hk with ⟨j, h, h1, h2, rfl, rfl⟩ | h1
    · obtain ⟨h3, h4⟩ := hget j h h1
      rw [Nat.zero_add] at h2
      have h5 := (hΦ j h2 h h3).1
      have h6 := hds j h h3
      have hd : h.d < a.tmps.size := hlt _ (List.mem_of_getElem? h6)
      refine ⟨?_, (hfitj j h h3 h4).1⟩
      have h7 := idx_at (i := 0) hnd h6
      rw [Nat.zero_add] at h7
      exact frm_head hd h7 h5
    · obtain ⟨h2, h3⟩ := hbase k s h1
      obtain ⟨h4, h5⟩ := h'.ts k s h3
      refine ⟨?_, hold s h5⟩
      rw [rg_old h5]
      rcases Nat.lt_or_ge k a.tmps.size with hk2 | hk2
      · exact frm_base hk2 (idx_none h2) h4
      · rw [← h4, Array.getD_eq_getD_getElem?, Array.getD_eq_getD_getElem?, Array.getElem?_eq_none (by rw [frm_size]; exact hk2), Array.getElem?_eq_none hk2]
  · rcases nth_app2 hk with h1 | ⟨h1, h2⟩
    · obtain ⟨h3, h4⟩ := h'.bs k t cs h1
      rw [rgL_old h4, show (rg σ r γ).b k = r.b k from if_pos (nth_lt h1)]
      exact ⟨h3, holdL cs h4⟩
    · obtain ⟨h, h3, h4, h5⟩ := nth_visB h2
      obtain ⟨h6, h7⟩ := hget _ h h3
      rw [Nat.zero_add] at h4
      rw [show (rg σ r γ).b k = (γ (k - σ.bs.length)).b from if_neg (by omega)]
      exact ⟨(hΦ _ h4 h h6).2.1 t cs h5, (hfitj _ h h6 h7).2 t cs h5⟩
  · rcases nth_app2 hk with h1 | ⟨h1, h2⟩
    · rw [show (rg σ r γ).x k = r.x k from if_pos (nth_lt h1), show (rg σ r γ).S k = r.S k from if_pos (nth_lt h1)]
      exact h'.rs k R h1
    · obtain ⟨h, h3, h4, h5⟩ := nth_visR h2
      obtain ⟨h6, h7⟩ := hget _ h h3
      rw [Nat.zero_add] at h4
      have h8 := hΦ _ h4 h h6
      rw [show (rg σ r γ).x k = oneV (γ (k - σ.rs.length)).x from if_neg (by omega), show (rg σ r γ).S k = (γ (k - σ.rs.length)).S from if_neg (by omega), oneV_eq (h8.2.2.1 R h5).2]
      exact (h8.2.2.1 R h5).1
  · rcases Nat.lt_or_ge k σ.rs.length with h1 | h1
    · rw [show (rg σ r γ).x k = r.x k from if_pos h1]; exact h'.one k h1
    · rw [show (rg σ r γ).x k = oneV (γ (k - σ.rs.length)).x from if_neg (by omega)]; exact oneV_one _
/-- What is known behind the heads. -/
theorem sat_tail (hS : Sat w0 σ r a w) (hnd : ds.Nodup) (hlen : hs.length = n) (hds : ∀ (j : Nat) (h : Hd), hs[j]? = some h → ds[j]? = some h.d) (hdl : ds.length = n) (hlt : ∀ d, d ∈ ds → d < a.tmps.size)
    (hfit : ∀ (j : Nat) (h : Hd), hs[j]? = some h → ∃ cl, (visSt σ base (hs.take j) cl).fits h.out = true) {W : World} (hb : Below w.heap.size w W) {u : Nat → Value} {γ : Nat → Gh} (hΦ : ∀ j, j < n → PhiH σ r hs j u γ W)
    (hF : ∀ i, i < n → ∀ b, FrH hs i (γ i) b → w.heap.size ≤ b ∧ b < W.heap.size) (hD : ∀ i j, i < n → j < n → i ≠ j → ∀ b, FrH hs i (γ i) b → ¬ FrH hs j (γ j) b) :
    Sat w0 (tailSt σ hs) (rg σ r γ) (frm a ds u) W := by
  have h' := hS.see.later hb
  have hbl := tail_bs σ hs
  have hrl := tail_rs σ hs
  rw [hlen] at hbl hrl
  have hjn : ∀ (j : Nat) (h : Hd), hs[j]? = some h → j < n := fun j h hj => by have := (List.getElem?_eq_some_iff.1 hj).1; omega
  have hold : ∀ s : SV, σ.lt s = true → (tailSt σ hs).lt s = true := fun s h => ok_mono (fun k hk => lt_blt (by have := blt_lt hk; rw [hbl]; omega)) (fun k hk => lt_blt (by have := blt_lt hk; rw [hrl]; omega)) s h
  have holdL : ∀ s : List SV, σ.ltL s = true → (tailSt σ hs).ltL s = true := fun s h => okL_mono (fun k hk => lt_blt (by have := blt_lt hk; rw [hbl]; omega)) (fun k hk => lt_blt (by have := blt_lt hk; rw [hrl]; omega)) s h
  have hfitj : ∀ (j : Nat) (h : Hd), hs[j]? = some h → (tailSt σ hs).lt h.out.s = true ∧ ∀ t cs, h.out.b = some (t, cs) → (tailSt σ hs).ltL cs = true := fun j h hj => by
    obtain ⟨cl', hf⟩ := hfit j h hj
    have hjn := hjn j h hj
    have hjl : (hs.take j).length = j := by rw [List.length_take]; omega
    have b1 := vis_bs σ base (hs.take j) cl'
    have b2 := vis_rs σ base (hs.take j) cl'
    rw [hjl] at b1 b2
    obtain ⟨f1, f2⟩ := Bool.and_eq_true_iff.1 hf
    refine ⟨ok_mono (fun k hk => lt_blt ?_) (fun k hk => lt_blt ?_) _ f1, fun t cs e => ?_⟩
    · have h5 := blt_lt hk
      cases e : h.out.b <;> rw [e] at h5 <;> simp only [b1] at h5 <;> rw [hbl] <;> omega
    · have h5 := blt_lt hk
      cases e : h.out.r <;> rw [e] at h5 <;> simp only [b2] at h5 <;> rw [hrl] <;> omega
    · rw [e] at f2
      exact okL_mono (fun k hk => lt_blt (by have h5 := blt_lt hk; rw [b1] at h5; rw [hbl]; omega)) (fun k hk => lt_blt (by have h5 := blt_lt hk; rw [b2] at h5; rw [hrl]; omega)) cs f2
  have hbx : ∀ i p, nth σ.bs i = some p → r.b i < w.heap.size := fun i p hi => (hS.see.bs i p.1 p.2 hi).1.lt
  have hlow := hS.see.low.size
  have nb : ∀ k p, nth (tailSt σ hs).bs k = some p → (nth σ.bs k = some p ∧ (rg σ r γ).b k = r.b k) ∨ ∃ (j : Nat) (h : Hd), k = σ.bs.length + j ∧ hs[j]? = some h ∧ h.out.b = some p ∧ (rg σ r γ).b k = (γ j).b := fun k p hk => by
    rcases nth_app2 hk with h1 | ⟨h1, h2⟩
    · exact .inl ⟨h1, if_pos (nth_lt h1)⟩
    · obtain ⟨h, h3, h4⟩ := nth_tailB h2
      exact .inr ⟨k - σ.bs.length, h, by omega, h3, h4, if_neg (by omega)⟩
  have nr : ∀ k R, nth (tailSt σ hs).rs k = some R → (nth σ.rs k = some R ∧ (rg σ r γ).S k = r.S k ∧ (rg σ r γ).x k = r.x k) ∨ ∃ (j : Nat) (h : Hd), k = σ.rs.length + j ∧ hs[j]? = some h ∧ h.out.r = some R ∧ (rg σ r γ).S k = (γ j).S ∧ (rg σ r γ).x k = (γ j).x := fun k R hk => by
    rcases nth_app2 hk with h1 | ⟨h1, h2⟩
    · exact .inl ⟨h1, if_pos (nth_lt h1), if_pos (nth_lt h1)⟩
    · obtain ⟨h, h3, h4⟩ := nth_tailR h2
      refine .inr ⟨k - σ.rs.length, h, by omega, h3, h4, if_neg (by omega), ?_⟩
      rw [show (rg σ r γ).x k = oneV (γ (k - σ.rs.length)).x from if_neg (by omega), oneV_eq ((hΦ _ (hjn _ h h3) h h3).2.2.1 R h4).2]
  refine ⟨⟨h'.low, by rw [frm_size]; exact h'.size, fun k s hk => ?_, fun k t cs hk => ?_, fun k R hk => ?_, fun k hk => ?_⟩, ⟨fun i p hi => ?_, fun i j p q hi hj hne => ?_, fun i R hi b hS' => ?_, fun i j R R' hi hj hne b hS1 hS2 => ?_, fun i j p R hi hj hS' => ?_⟩, hS.defers⟩
  · rcases look_tail hk with ⟨j, h, h1, rfl, rfl⟩ | ⟨h1, h2⟩
    · have h5 := (hΦ j (hjn j h h1) h h1).1
      have h6 := hds j h h1
      have h7 := idx_at (i := 0) hnd h6
      rw [Nat.zero_add] at h7
      exact ⟨frm_head (hlt _ (List.mem_of_getElem? h6)) h7 h5, (hfitj j h h1).1⟩
    · obtain ⟨h4, h5⟩ := h'.ts k s h2
      refine ⟨?_, hold s h5⟩
      rw [rg_old h5]
      have hnot : k ∉ ds := fun hm => by
        obtain ⟨j, hj, e⟩ := List.getElem_of_mem hm
        have h6 : j < hs.length := by omega
        have h7 := hds j hs[j] (by simp [h6])
        rw [List.getElem?_eq_getElem hj] at h7
        exact h1 j hs[j] (by simp [h6]) (by rw [← e]; exact (Option.some.inj h7).symm)
      rcases Nat.lt_or_ge k a.tmps.size with hk2 | hk2
      · exact frm_base hk2 (idx_none hnot) h4
      · rw [← h4, Array.getD_eq_getD_getElem?, Array.getD_eq_getD_getElem?, Array.getElem?_eq_none (by rw [frm_size]; exact hk2), Array.getElem?_eq_none hk2]
  · rcases nb k _ hk with ⟨h1, h2⟩ | ⟨j, h, rfl, h1, h2, h3⟩
    · obtain ⟨h3, h4⟩ := h'.bs k t cs h1
      rw [rgL_old h4, h2]
      exact ⟨h3, holdL cs h4⟩
    · rw [h3]
      exact ⟨(hΦ j (hjn j h h1) h h1).2.1 t cs h2, (hfitj j h h1).2 t cs h2⟩
  · rcases nr k R hk with ⟨h1, h2, h3⟩ | ⟨j, h, rfl, h1, h2, h3, h4⟩
    · rw [h2, h3]; exact h'.rs k R h1
    · rw [h3, h4]; exact ((hΦ j (hjn j h h1) h h1).2.2.1 R h2).1
  · rcases Nat.lt_or_ge k σ.rs.length with h1 | h1
    · rw [show (rg σ r γ).x k = r.x k from if_pos h1]; exact h'.one k h1
    · rw [show (rg σ r γ).x k = oneV (γ (k - σ.rs.length)).x from if_neg (by omega)]; exact oneV_one _
  · rcases nb i p hi with ⟨h1, h2⟩ | ⟨j, h, rfl, h1, h2, h3⟩
    · rw [h2]; exact hS.sep.own i p h1
    · rw [h3]; have := (hF j (hjn j h h1) _ ⟨h, h1, .inl ⟨p, h2, rfl⟩⟩).1; omega
  · rcases nb i p hi with ⟨h1, h2⟩ | ⟨k, h, rfl, h1, h2, h3⟩ <;> rcases nb j q hj with ⟨g1, g2⟩ | ⟨m, g, rfl, g1, g2, g3⟩
    · rw [h2, g2]; exact hS.sep.inj i j p q h1 g1 hne
    · rw [h2, g3]; have := (hF m (hjn m g g1) _ ⟨g, g1, .inl ⟨q, g2, rfl⟩⟩).1; have := hbx i p h1; omega
    · rw [h3, g2]; have := (hF k (hjn k h h1) _ ⟨h, h1, .inl ⟨p, h2, rfl⟩⟩).1; have := hbx j q g1; omega
    · rw [h3, g3]
      have hkm : k ≠ m := fun e => hne (by rw [e])
      intro e
      exact hD k m (hjn k h h1) (hjn m g g1) hkm _ ⟨h, h1, .inl ⟨p, h2, rfl⟩⟩ ⟨g, g1, .inl ⟨q, g2, e⟩⟩
  · rcases nr i R hi with ⟨h1, h2, h3⟩ | ⟨j, h, rfl, h1, h2, h3, h4⟩
    · rw [h2] at hS'; exact hS.sep.ownS i R h1 b hS'
    · rw [h3] at hS'; have := (hF j (hjn j h h1) _ ⟨h, h1, .inr ⟨R, h2, hS'⟩⟩).1; omega
  · rcases nr i R hi with ⟨h1, h2, _⟩ | ⟨k, h, rfl, h1, h2, h3, _⟩ <;> rcases nr j R' hj with ⟨g1, g2, _⟩ | ⟨m, g, rfl, g1, g2, g3, _⟩
    · rw [h2] at hS1; rw [g2] at hS2; exact hS.sep.disj i j R R' h1 g1 hne b hS1 hS2
    · rw [h2] at hS1; rw [g3] at hS2
      have := (hF m (hjn m g g1) _ ⟨g, g1, .inr ⟨R', g2, hS2⟩⟩).1; have := (hS.see.rs i R h1).2 b hS1; omega
    · rw [h3] at hS1; rw [g2] at hS2
      have := (hF k (hjn k h h1) _ ⟨h, h1, .inr ⟨R, h2, hS1⟩⟩).1; have := (hS.see.rs j R' g1).2 b hS2; omega
    · rw [h3] at hS1; rw [g3] at hS2
      have hkm : k ≠ m := fun e => hne (by rw [e])
      exact hD k m (hjn k h h1) (hjn m g g1) hkm _ ⟨h, h1, .inr ⟨R, h2, hS1⟩⟩ ⟨g, g1, .inr ⟨R', g2, hS2⟩⟩
  · rcases nb i p hi with ⟨h1, h2⟩ | ⟨k, h, rfl, h1, h2, h3⟩ <;> rcases nr j R hj with ⟨g1, g2, _⟩ | ⟨m, g, rfl, g1, g2, g3, _⟩
    · rw [h2, g2] at hS'; exact hS.sep.apart i j p R h1 g1 hS'
    · rw [h2, g3] at hS'
      have := (hF m (hjn m g g1) _ ⟨g, g1, .inr ⟨R, g2, hS'⟩⟩).1; have := hbx i p h1; omega
    · rw [h3, g2] at hS'
      have := (hF k (hjn k h h1) _ ⟨h, h1, .inl ⟨p, h2, rfl⟩⟩).1; have := (hS.see.rs j R g1).2 _ hS'; omega
    · rw [h3, g3] at hS'
      by_cases e : k = m
      · subst e
        obtain rfl := Option.some.inj (h1.symm.trans g1)
        exact (hΦ k (hjn k h h1) h h1).2.2.2 p R h2 g2 hS'
      · exact hD k m (hjn k h h1) (hjn m g g1) e _ ⟨h, h1, .inl ⟨p, h2, rfl⟩⟩ ⟨g, g1, .inr ⟨R, g2, hS'⟩⟩
theorem rch_lt {ops : Array Oper} {n : Nat} (hB : (List.range n).all (fun i => (waits ops i).all (· < i)) = true) {i j : Nat} (h : Rch ops i j) : i < n → j < i := by
  have hw : ∀ a k, a < n → k ∈ waits ops a → k < a := fun a k ha hk => by
    have h1 := List.all_eq_true.1 hB a (List.mem_range.2 ha)
    simpa using List.all_eq_true.1 h1 _ hk
  induction h with
  | one h => exact fun ha => hw _ _ ha h
  | more h _ ih =>
    intro ha
    have h1 := hw _ _ ha h
    have := ih (by omega)
    omega
theorem regionK_ok (hT : TTOk P tt) (hm : P.follows .mixedOrders = true) {id : Nat} {d : List Dir} {K : St → List Dir → Prop} (h : regionK P tt w0 id ops σ d K) : ∃ σ' d', K σ' d' ∧
    ∀ r a w, Sat w0 σ r a w → ∀ (Q : Exit → Act → World → Prop), (∀ (d : Tmp) (v : Value) c a w, Q (.panic c) (a.put (some d) v) w → Q (.panic c) a w) → (∀ r' a' w', Sat w0 σ' r' a' w' → Q .normal a' w') → (Code.region id ops true).wp P Q a w := by
  obtain ⟨l⟩ := ops
  unfold regionK at h
  split at h
  case h_2 => exact h.elim
  rename_i n late d0
  dsimp only at h
  obtain ⟨hc, h⟩ := ifB_spec h
  obtain ⟨hs, d1, hK, hlen, _, hok⟩ := headsK_ok hT n l 0 [] d0 (fun j => by rw [Nat.zero_add]; simp) rfl (fun k x hk => by simp at hk) h
  rw [Nat.zero_add] at hlen
  obtain ⟨σ', d', h3, hl⟩ := execL_ok hT (l.drop n) n (tailSt σ hs) d1 K hK
  refine ⟨σ', d', h3, fun r a w hS Q hQ hend => ?_⟩
  have hok' : ∀ j, j < n → ∃ (x : Hd) (o : Oper), hs[j]? = some x ∧ l[j]? = some o ∧ HOk P w0 l.toArray late σ (hideT (dsOf l n) σ.ts) hs j x o := fun j hj => by
    obtain ⟨x, o, h1, h2, h4⟩ := hok j (Nat.zero_le _) (by omega)
    exact ⟨x, o, h1, by simpa using h2, h4⟩
  have hokx : ∀ (j : Nat) (x : Hd), hs[j]? = some x → j < n ∧ ∃ o, l[j]? = some o ∧ HOk P w0 l.toArray late σ (hideT (dsOf l n) σ.ts) hs j x o := fun j x hx => by
    have hj : j < n := by have := (List.getElem?_eq_some_iff.1 hx).1; omega
    obtain ⟨y, o, h1, h2, h4⟩ := hok' j hj
    obtain rfl := Option.some.inj (hx.symm.trans h1)
    exact ⟨hj, o, h2, h4⟩
  simp only [okB, Bool.and_eq_true] at hc
  obtain ⟨⟨⟨⟨c1, c2⟩, c3⟩, c4⟩, c5⟩ := hc
  obtain ⟨hdl, hda⟩ := dsOf_at (l := l) (n := n) fun j hj => by
    obtain ⟨x, o, _, h2, h4⟩ := hok' j hj
    exact ⟨o, x.d, h2, h4.1⟩
  have hnd := nodup_of c3
  have hds : ∀ (j : Nat) (x : Hd), hs[j]? = some x → (dsOf l n)[j]? = some x.d := fun j x hx => by
    obtain ⟨hj, o, h2, h4⟩ := hokx j x hx
    exact hda j o x.d hj h2 h4.1
  have hlt : ∀ d, d ∈ dsOf l n → d < a.tmps.size := fun d hd => by
    rw [hS.see.size]; simpa using List.all_eq_true.1 c4 d hd
  have hfit : ∀ (j : Nat) (x : Hd), hs[j]? = some x → ∃ cl, (visSt σ (hideT (dsOf l n) σ.ts) (hs.take j) cl).fits x.out = true := fun j x hx => by
    obtain ⟨_, o, _, h4⟩ := hokx j x hx
    exact ⟨x.cl, h4.2.2.1⟩
  have hback : (List.range n).all (fun i => (waits l.toArray i).all (· < i)) = true := by
    have c1' := c1
    simp only [growB, Bool.and_eq_true] at c1'
    rw [hdl] at c1'
    exact c1'.1.2
  have hsee : ∀ i x, hs[i]? = some x → (∀ j, j ∈ x.cl → Rch l.toArray i j) → ∀ u γ W, Below w.heap.size w W → (∀ j, Rch l.toArray i j → PhiH σ r hs j u γ W) → See w0 (visSt σ (hideT (dsOf l n) σ.ts) (hs.take i) x.cl) (rg σ r γ) (frm a (dsOf l n) u) W := fun i x hx hcl u γ W hb hΦ =>
    see_vis hS.see (fun k s hk => look_hide hk) hnd hlen hds hdl hlt hfit (hokx i x hx).1 (fun j hj => rch_lt hback (hcl j hj) (hokx i x hx).1) hb (fun j hj => hΦ j (hcl j hj))
  have hlenv : ∀ i x, hs[i]? = some x → (visSt σ (hideT (dsOf l n) σ.ts) (hs.take i) x.cl).bs.length = σ.bs.length + i ∧ (visSt σ (hideT (dsOf l n) σ.ts) (hs.take i) x.cl).rs.length = σ.rs.length + i := fun i x hx => by
    have hi := (hokx i x hx).1
    have hti : (hs.take i).length = i := by rw [List.length_take]; omega
    rw [vis_bs, vis_rs, hti]; exact ⟨rfl, rfl⟩
  refine wp_region_gh (Γ := Gh) (l := l) (dsOf l n) (fun W => Below w.heap.size w W) (PhiH σ r hs) (FrH hs) (fun _ => Gh.no) (fun i => !late.contains i) hm c1 hQ c2 c3 (List.all_eq_true.2 fun d hd => by simpa using hlt d hd) (Below.refl _ _).drew ?hst ?hcg ?hop ?hlate ?htail
  case hst =>
    intro i u γ W W' _ hb hΦ x hx
    obtain ⟨p1, p2, p3, p4⟩ := hΦ x hx
    exact ⟨p1, fun t cs e => (p2 t cs e).later hb, fun R e => ⟨⟨R.loc _ _ _ _ (fun b hb' => hb.block b ((p3 R e).1.2 b hb')) (p3 R e).1.1, fun b hb' => Nat.lt_of_lt_of_le ((p3 R e).1.2 b hb') hb.size⟩, (p3 R e).2⟩, p4⟩
  case hcg =>
    intro i u u' γ γ' W hi hu hΦ x hx
    obtain ⟨_, o, _, ok⟩ := hokx i x hx
    obtain ⟨p1, p2, p3, p4⟩ := hΦ x hx
    have hγ : ∀ j, j ∈ i :: x.cl → γ j = γ' j := fun j hj => by
      rcases List.mem_cons.1 hj with rfl | hj
      · exact (hu j (.inl rfl)).2
      · exact (hu j (.inr (ok.2.1 j hj))).2
    have hi' := hu i (.inl rfl)
    obtain ⟨f1, f2⟩ := Bool.and_eq_true_iff.1 ok.2.2.2.1
    rw [← hi'.1, ← hi'.2]
    refine ⟨by rw [p1]; exact den_congr (fun k hk => rg_b hγ hk) (fun k hk => rg_x hγ hk) _ f1, fun t cs e => ?_, p3, p4⟩
    rw [e] at f2
    rw [← denL_congr (r := rg σ r γ) (fun k hk => rg_b (fun j hj => hγ j (List.mem_cons_of_mem _ hj)) hk) (fun k hk => rg_x (fun j hj => hγ j (List.mem_cons_of_mem _ hj)) hk) cs f2]
    exact p2 t cs e
  case hop =>
    intro i hi o ho u γ W hG hΦ Q' K' hK'
    obtain ⟨x, o', hx, ho', ok⟩ := hok' i (by omega)
    have eo : o' = o := Option.some.inj (ho'.symm.trans (by simpa using ho))
    subst eo
    obtain ⟨k1, k2, k3, k4, k5⟩ := ok
    have see := hsee i x hx k2 u γ W hG hΦ
    obtain ⟨l1, l2⟩ := hlenv i x hx
    have hadd : ∀ g : Gh, g.x.oneCell' = true → rg σ r (upd γ i g) = (rg σ r γ).add' (visSt σ (hideT (dsOf l n) σ.ts) (hs.take i) x.cl) g := fun g hg => by
      unfold Env.add'
      rw [rg_upd hg, l1, l2]
    have hno : ∀ v w', x.out.b = none → x.out.r = none → v = x.out.s.den (rg σ r γ) → Below W.heap.size W w' → K' ((frm a (dsOf l n) u).put o'.dst v) w' := fun v w' e1 e2 hv hb => by
      refine hK' v (γ i) w' hb (nxt hG hb) ?_ ?_
      · intro y hy
        obtain rfl := Option.some.inj (hx.symm.trans hy)
        have eγ : upd γ i (γ i) = γ := by funext k; unfold upd; split <;> simp_all
        rw [eγ, upd_at]
        exact ⟨hv, fun t cs e => (by rw [e1] at e; cases e), fun R e => (by rw [e2] at e; cases e), fun p R e => (by rw [e1] at e; cases e)⟩
      · rintro b ⟨y, hy, hc⟩
        obtain rfl := Option.some.inj (hx.symm.trans hy)
        rcases hc with ⟨p, e, _⟩ | ⟨R, e, _⟩
        · rw [e1] at e; cases e
        · rw [e2] at e; cases e
    rcases k5 with ⟨kw, ⟨_, kq⟩ | ⟨_, e1, e2, kr⟩⟩ | ⟨kw, _, ke⟩
    · rw [if_pos (kw _ _ _ see)]
      refine kq _ _ _ see Q' K' ?_
      rintro out g w' rfl hb hmade
      refine hK' _ g w' hb (nxt hG hb) ?_ ?_
      · intro y hy
        obtain rfl := Option.some.inj (hx.symm.trans hy)
        rw [upd_at, upd_at, hadd g hmade.one]
        exact ⟨rfl, fun t cs e => (hmade.b t cs e).1, fun R e => ⟨⟨(hmade.r R e).1, fun b hb' => ((hmade.r R e).2 b hb').2⟩, hmade.one⟩, hmade.apart⟩
      · rintro b ⟨y, hy, hc⟩
        obtain rfl := Option.some.inj (hx.symm.trans hy)
        rcases hc with ⟨p, e, rfl⟩ | ⟨R, e, hb'⟩
        · exact ⟨(hmade.b p.1 p.2 e).2, (hmade.b p.1 p.2 e).1.lt⟩
        · exact (hmade.r R e).2 b hb'
    · rw [if_pos (kw _ _ _ see)]
      unfold Oper.wp
      rw [kr _ _ _ see]
      exact hno _ _ e1 e2 rfl (Below.refl _ _)
    · rw [if_neg (by rw [kw _ _ _ see]; simp)]
      exact hno undef W (by rw [ke]; rfl) (by rw [ke]; rfl) (by rw [ke]; rfl) (Below.refl _ _)
  case hlate =>
    intro i hi hst
    obtain ⟨x, o', hx, ho', ok⟩ := hok' i (by omega)
    obtain ⟨k1, k2, k3, k4, k5⟩ := ok
    have hml : memB i late = true := by
      refine memB_mem.2 ?_
      simpa using hst
    rcases k5 with ⟨kw, ⟨e, _⟩ | ⟨_, e1, e2, kr⟩⟩ | ⟨_, e, _⟩
    · rw [hml] at e; cases e
    · refine ⟨?_, fun o ho u γ W hG hΦ => ?_⟩
      · rintro g b ⟨y, hy, hc⟩
        obtain rfl := Option.some.inj (hx.symm.trans hy)
        rcases hc with ⟨p, e, _⟩ | ⟨R, e, _⟩
        · rw [e1] at e; cases e
        · rw [e2] at e; cases e
      · have eo : o' = o := Option.some.inj (ho'.symm.trans (by simpa using ho))
        subst eo
        have see := hsee i x hx k2 u γ W hG hΦ
        refine ⟨_, .inl ⟨kw _ _ _ see, fun w' => kr _ _ _ see w'⟩, ?_⟩
        intro y hy
        obtain rfl := Option.some.inj (hx.symm.trans hy)
        rw [upd_at]
        exact ⟨rfl, fun t cs e => (by rw [e1] at e; cases e), fun R e => (by rw [e2] at e; cases e), fun p R e => (by rw [e1] at e; cases e)⟩
    · rw [hml] at e; cases e
  case htail =>
    intro u γ W hG hΦ hF hD
    rw [hdl] at hΦ hF hD ⊢
    exact hl _ _ _ (sat_tail hS hnd hlen hds hdl hlt hfit hG hΦ hF hD) Q hend
end
end Go.Proofs.YtibbhpgpleeglaaGreatDoor

namespace Go.Proofs.YtibbhpgpleeglaaGreatDoor
open Go Go.RowKit

inductive Ex where
  | normal
  | exit (id : Nat)
  | ret
def Ex.to : Ex → Exit
  | .normal => .normal
  | .exit id => .exit id
  | .ret => .ret
/-- Two values are the same. -/
def sameN (a b : Value) (p : Prop) : Prop := match a with
  | .int k x => (match b with
    | .int k' y => ifB (kindB k k') (x = y ∧ p)
    | _ => False)
  | .bool x => (match b with
    | .bool y => x = y ∧ p
    | _ => False)
  | .string x => (match b with
    | .string y => x = y ∧ p
    | _ => False)
  | a => a = b ∧ p
theorem sameN_spec {a b : Value} {p : Prop} (h : sameN a b p) : a = b ∧ p := by
  unfold sameN at h
  split at h
  · split at h
    · obtain ⟨hk, e, h2⟩ := ifB_spec h
      rw [kindB_eq hk, e]; exact ⟨rfl, h2⟩
    · exact h.elim
  · split at h
    · obtain ⟨rfl, h⟩ := h; exact ⟨rfl, h⟩
    · exact h.elim
  · split at h
    · obtain ⟨rfl, h⟩ := h; exact ⟨rfl, h⟩
    · exact h.elim
  · exact h
mutual
def sameS (s u : SV) (p : Prop) : Prop := match s with
  | .val a => (match u with
    | .val b => sameN a b p
    | _ => False)
  | .ptr b o => (match u with
    | .ptr b' o' => ifB (Nat.beq b b' && Nat.beq o o') p
    | _ => False)
  | .sli b o n c => (match u with
    | .sli b' o' n' c' => ifB (Nat.beq b b' && Nat.beq o o' && Nat.beq n n' && Nat.beq c c') p
    | _ => False)
  | .clo f l m => (match u with
    | .clo f' l' m' => f = f' ∧ sameL l l' (sameL m m' p)
    | _ => False)
  | .agg l => (match u with
    | .agg m => sameL l m p
    | _ => False)
  | .tup l => (match u with
    | .tup m => sameL l m p
    | _ => False)
  | .han i => (match u with
    | .han j => ifB (Nat.beq i j) p
    | _ => False)
def sameL (l m : List SV) (p : Prop) : Prop := match l with
  | [] => (match m with
    | [] => p
    | _ => False)
  | s :: l => (match m with
    | u :: m => sameS s u (sameL l m p)
    | _ => False)
end
mutual
theorem sameS_spec : ∀ (s u : SV) (p : Prop), sameS s u p → s = u ∧ p
  | .val a, u, p, h => by
    cases u <;> first | exact False.elim h | skip
    obtain ⟨e, h2⟩ := sameN_spec (show sameN a _ p from h)
    rw [e]; exact ⟨rfl, h2⟩
  | .ptr b o, u, p, h => by
    cases u <;> first | exact False.elim h | skip
    obtain ⟨hk, h⟩ := ifB_spec (show ifB _ p from h)
    obtain ⟨h1, h2⟩ := Bool.and_eq_true_iff.1 hk
    rw [Nat.eq_of_beq_eq_true h1, Nat.eq_of_beq_eq_true h2]; exact ⟨rfl, h⟩
  | .sli b o n c, u, p, h => by
    cases u <;> first | exact False.elim h | skip
    obtain ⟨hk, h⟩ := ifB_spec (show ifB _ p from h)
    obtain ⟨hk, h4⟩ := Bool.and_eq_true_iff.1 hk
    obtain ⟨hk, h3⟩ := Bool.and_eq_true_iff.1 hk
    obtain ⟨h1, h2⟩ := Bool.and_eq_true_iff.1 hk
    rw [Nat.eq_of_beq_eq_true h1, Nat.eq_of_beq_eq_true h2, Nat.eq_of_beq_eq_true h3, Nat.eq_of_beq_eq_true h4]; exact ⟨rfl, h⟩
  | .clo f l m, u, p, h => by
    cases u <;> first | exact False.elim h | skip
    obtain ⟨e1, h2⟩ := (show _ = _ ∧ sameL l _ (sameL m _ p) from h)
    obtain ⟨e2, h3⟩ := sameL_spec l _ _ h2
    obtain ⟨e3, h4⟩ := sameL_spec m _ _ h3
    rw [e1, e2, e3]; exact ⟨rfl, h4⟩
  | .agg l, u, p, h => by
    cases u <;> first | exact False.elim h | skip
    obtain ⟨e, h2⟩ := sameL_spec l _ p h
    rw [e]; exact ⟨rfl, h2⟩
  | .tup l, u, p, h => by
    cases u <;> first | exact False.elim h | skip
    obtain ⟨e, h2⟩ := sameL_spec l _ p h
    rw [e]; exact ⟨rfl, h2⟩
  | .han i, u, p, h => by
    cases u <;> first | exact False.elim h | skip
    obtain ⟨hk, h⟩ := ifB_spec (show ifB _ p from h)
    rw [Nat.eq_of_beq_eq_true hk]; exact ⟨rfl, h⟩
theorem sameL_spec : ∀ (l m : List SV) (p : Prop), sameL l m p → l = m ∧ p
  | [], m, p, h => by
    cases m <;> first | exact ⟨rfl, h⟩ | exact False.elim h
  | s :: l, m, p, h => by
    cases m with
    | nil => exact False.elim h
    | cons u m =>
      obtain ⟨e1, h2⟩ := sameS_spec s u _ h
      obtain ⟨e2, h3⟩ := sameL_spec l m p h2
      rw [e1, e2]; exact ⟨rfl, h3⟩
end
def subT (σ τ : St) : List (Nat × SV) → Prop → Prop
  | [], p => p
  | (k, s) :: l, p => match look k σ.ts with
    | some u => ifB (τ.lt s) (sameS u s (subT σ τ l p))
    | none => False
def subB (τ : St) : List (Option (TypeId × List SV)) → List (Option (TypeId × List SV)) → Prop → Prop
  | _, [], p => p
  | [], _ :: _, _ => False
  | _ :: l, none :: m, p => subB τ l m p
  | x :: l, some (t, cs) :: m, p => match x with
    | some (u, ds) => ifB (Nat.beq u t && τ.ltL cs) (sameL ds cs (subB τ l m p))
    | none => False
def subR : List (Option Res) → List (Option Res) → Prop → Prop
  | _, [], p => p
  | [], _ :: _, _ => False
  | _ :: l, none :: m, p => subR l m p
  | x :: l, some R :: m, p => match x with
    | some R' => (∀ v S w, R'.φ v S w → R.φ v S w) ∧ subR l m p
    | none => False
/-- What is known in τ is known in σ. -/
def subK (σ τ : St) (p : Prop) : Prop := ifB (Nat.beq σ.n τ.n) (subT σ τ τ.ts (subB τ σ.bs τ.bs (subR σ.rs τ.rs p)))
def CodeOk (P : Program) (w0 : World) (c : Code) (σ σ' : St) : Prop := ∀ r a w, Sat w0 σ r a w → c.wp P (fun e a' w' => (match e with | .normal => True | _ => False) ∧ ∃ r', Sat w0 σ' r' a' w') a w
def exec (P : Program) (tt : List (Nat × TI)) (w0 : World) : Code → St → List Dir → (Ex → St → List Dir → Prop) → Prop
  | .skip, σ, d, K => K .normal σ d
  | .region id ops dr, σ, d, K => (match dr with
    | true => regionK P tt w0 id ops σ d fun σ d => K .normal σ d
    | false => execL P tt w0 id ops ops.toList 0 σ d fun σ d => K .normal σ d)
  | .seq a b, σ, d, K => exec P tt w0 a σ d fun e σ d => match e with
    | .normal => exec P tt w0 b σ d K
    | .exit id => K (.exit id) σ d
    | .ret => K .ret σ d
  | .cond c x y, σ, d, K => evK σ c fun s => match s with
    | .val (.bool v) => (match d with
      | .br b :: d => v = b ∧ (match b with
        | true => exec P tt w0 x σ d K
        | false => exec P tt w0 y σ d K)
      | .both dx dy :: _ => (v = true → exec P tt w0 x σ dx K) ∧ (v = false → exec P tt w0 y σ dy K)
      | d => (match v with
        | true => exec P tt w0 x σ d K
        | false => exec P tt w0 y σ d K))
    | _ => False
  | .block id b, σ, d, K => exec P tt w0 b σ d fun e σ d => match e with
    | .normal => K .normal σ d
    | .exit i => (match Nat.beq i id with
      | true => K .normal σ d
      | false => K (.exit i) σ d)
    | .ret => K .ret σ d
  | .loop b, σ, d, K => (match d with
    | .loop I C μ a0 nx bd :: _ => subK σ (I a0) (C a0 ∧ ∀ a, C a → exec P tt w0 b (I a) (bd a) fun e σ' d' => match e with
      | .normal => (match d' with
        | .next k :: _ => subK σ' (I (nx a k)) (C (nx a k) ∧ μ (nx a k) < μ a)
        | _ => False)
      | .exit id => K (.exit id) σ' d'
      | .ret => K .ret σ' d')
    | .code σ' :: d => CodeOk P w0 (.loop b) σ σ' ∧ K .normal σ' d
    | _ => False)
  | .exit id, σ, d, K => K (.exit id) σ d
  | .ret, σ, d, K => K .ret σ d
  | .label _, σ, d, K => K .normal σ d
  | _, _, _, _ => False
section
variable {P : Program} {tt : List (Nat × TI)} {w0 : World}
theorem subT_spec {σ τ : St} : ∀ {l : List (Nat × SV)} {p : Prop}, subT σ τ l p → p ∧ ∀ k s, look k l = some s → look k σ.ts = some s ∧ τ.lt s = true
  | [], p, h => ⟨h, fun _ _ h => by cases h⟩
  | (j, u) :: l, p, h => by
    unfold subT at h
    split at h
    · rename_i y hy
      obtain ⟨h1, h2⟩ := ifB_spec h
      obtain ⟨rfl, h3⟩ := sameS_spec _ _ _ h2
      obtain ⟨h4, h5⟩ := subT_spec (l := l) h3
      refine ⟨h4, fun k s hk => ?_⟩
      unfold look at hk
      cases e : Nat.beq j k with
      | true =>
        rw [e] at hk
        obtain rfl := Option.some.inj hk
        rw [← Nat.eq_of_beq_eq_true e]
        exact ⟨hy, h1⟩
      | false => rw [e] at hk; exact h5 k s hk
    · exact h.elim
theorem subB_spec {τ : St} : ∀ {l m : List (Option (TypeId × List SV))} {p : Prop}, subB τ l m p → p ∧ m.length ≤ l.length ∧ ∀ i t cs, nth m i = some (t, cs) → nth l i = some (t, cs) ∧ τ.ltL cs = true
  | l, [], p, h => ⟨(by cases l <;> exact h), Nat.zero_le _, fun _ _ _ h => by cases h⟩
  | [], _ :: _, p, h => False.elim h
  | x :: l, none :: m, p, h => by
    obtain ⟨h1, h2, h3⟩ := subB_spec (l := l) (m := m) h
    refine ⟨h1, Nat.succ_le_succ h2, fun i t cs hi => ?_⟩
    cases i with
    | zero => cases hi
    | succ i => exact h3 i t cs hi
  | x :: l, some (t, cs) :: m, p, h => by
    unfold subB at h
    split at h
    · rename_i u ds
      obtain ⟨hk, h⟩ := ifB_spec h
      obtain ⟨k1, k2⟩ := Bool.and_eq_true_iff.1 hk
      obtain ⟨e1, h4⟩ := sameL_spec _ _ _ h
      have e2 := Nat.eq_of_beq_eq_true k1
      obtain ⟨h1, h2, h3⟩ := subB_spec (l := l) (m := m) h4
      refine ⟨h1, Nat.succ_le_succ h2, fun i t' cs' hi => ?_⟩
      cases i with
      | zero =>
        have e : (t, cs) = (t', cs') := Option.some.inj hi
        obtain ⟨rfl, rfl⟩ := Prod.mk.inj e
        rw [e1, e2]
        exact ⟨rfl, k2⟩
      | succ i => exact h3 i t' cs' hi
    · exact h.elim
theorem subR_spec : ∀ {l m : List (Option Res)} {p : Prop}, subR l m p → p ∧ m.length ≤ l.length ∧ ∀ i R, nth m i = some R → ∃ R', nth l i = some R' ∧ ∀ v S w, R'.φ v S w → R.φ v S w
  | l, [], p, h => ⟨(by cases l <;> exact h), Nat.zero_le _, fun _ _ h => by cases h⟩
  | [], _ :: _, p, h => False.elim h
  | x :: l, none :: m, p, h => by
    obtain ⟨h1, h2, h3⟩ := subR_spec (l := l) (m := m) h
    refine ⟨h1, Nat.succ_le_succ h2, fun i R hi => ?_⟩
    cases i with
    | zero => cases hi
    | succ i => exact h3 i R hi
  | x :: l, some R :: m, p, h => by
    unfold subR at h
    split at h
    · rename_i R'
      obtain ⟨h1, h2, h3⟩ := subR_spec (l := l) (m := m) h.2
      refine ⟨h1, Nat.succ_le_succ h2, fun i R2 hi => ?_⟩
      cases i with
      | zero =>
        obtain rfl := Option.some.inj hi
        exact ⟨R', rfl, h.1⟩
      | succ i => exact h3 i R2 hi
    · exact h.elim
theorem subK_spec {σ τ : St} {p : Prop} (h : subK σ τ p) : p ∧ ∀ r a w, Sat w0 σ r a w → Sat w0 τ r a w := by
  obtain ⟨hn, h⟩ := ifB_spec h
  obtain ⟨h, ht⟩ := subT_spec h
  obtain ⟨h, bl, hb⟩ := subB_spec h
  obtain ⟨h, rl, hr⟩ := subR_spec h
  refine ⟨h, fun r a w hS => ⟨⟨hS.see.low, hS.see.size.trans (Nat.eq_of_beq_eq_true hn), fun k s hk => ?_, fun i t cs hi => ?_, fun i R hi => ?_, fun i hi => hS.see.one i (Nat.lt_of_lt_of_le hi rl)⟩, ⟨fun i p hi => ?_, fun i j p q hi hj => ?_, fun i R hi => ?_, fun i j R R' hi hj => ?_, fun i j p R hi hj => ?_⟩, hS.defers⟩⟩
  · obtain ⟨h1, h2⟩ := ht k s hk
    exact ⟨(hS.see.ts k s h1).1, h2⟩
  · obtain ⟨h1, h2⟩ := hb i t cs hi
    exact ⟨(hS.see.bs i t cs h1).1, h2⟩
  · obtain ⟨R', h1, h2⟩ := hr i R hi
    obtain ⟨h3, h4⟩ := hS.see.rs i R' h1
    exact ⟨h2 _ _ _ h3, h4⟩
  · exact hS.sep.own i p (hb i p.1 p.2 hi).1
  · exact hS.sep.inj i j p q (hb i p.1 p.2 hi).1 (hb j q.1 q.2 hj).1
  · obtain ⟨R', h1, _⟩ := hr i R hi
    exact hS.sep.ownS i R' h1
  · obtain ⟨_, h1, _⟩ := hr i R hi
    obtain ⟨_, h2, _⟩ := hr j R' hj
    exact hS.sep.disj i j _ _ h1 h2
  · obtain ⟨_, h2, _⟩ := hr j R hj
    exact hS.sep.apart i j p _ (hb i p.1 p.2 hi).1 h2
/-- A loop, by what holds at each round's head. -/
theorem wp_loop_gen {α : Type} {c : Code} {Q : Exit → Act → World → Prop} (J : α → Act → World → Prop) (μ : α → Nat) (round : ∀ x a w, J x a w → c.wp P (Exit.then (fun a' w' => ∃ y, J y a' w' ∧ μ y < μ x) Q) a w) (x0 : α) {a : Act} {w : World} (h0 : J x0 a w) : (Code.loop c).wp P Q a w := by
  intro b k cs
  have key : ∀ n x a w, μ x = n → J x a w → ∃ e a' w', Q e a' w' ∧ Arrives P (lone (b.at a (.code c :: .inLoop c :: k)) cs w) b k cs e a' w' := by
    intro n
    induction n using Nat.strongRecOn with
    | _ n ih =>
      intro x a w hn hI
      obtain ⟨e, a₁, w₁, hq, harr⟩ := round x a w hI b (.inLoop c :: k) cs
      cases e with
      | normal =>
        obtain ⟨y, hI₁, hlt⟩ := hq
        obtain ⟨e₂, a₂, w₂, hq₂, harr₂⟩ := ih (μ y) (hn ▸ hlt) y a₁ w₁ rfl hI₁
        exact ⟨e₂, a₂, w₂, hq₂, .of_steps (Steps.trans harr (.one step_inLoop)) harr₂⟩
      | exit id => exact ⟨_, a₁, w₁, hq, .pass (x := .inLoop c) rfl (fun _ _ => .inl (by simp)) harr⟩
      | goto l => exact ⟨_, a₁, w₁, hq, .pass (x := .inLoop c) rfl (fun _ _ => .inl (by simp)) harr⟩
      | ret => exact ⟨_, a₁, w₁, hq, .pass (x := .inLoop c) rfl (fun _ _ => .inl (by simp)) harr⟩
      | panic ch => exact ⟨_, a₁, w₁, hq, .pass (x := .inLoop c) rfl (fun _ _ => .inl (by simp)) harr⟩
      | outgrown => exact ⟨_, a₁, w₁, hq, .pass (x := .inLoop c) rfl (fun _ _ => .inl (by simp)) harr⟩
  obtain ⟨e, a', w', hq, harr⟩ := key _ x0 a w rfl h0
  exact ⟨e, a', w', hq, .of_steps (.one step_loop) harr⟩
def PanicOk (Q : Exit → Act → World → Prop) : Prop := ∀ (d : Tmp) (v : Value) c a w, Q (.panic c) (a.put (some d) v) w → Q (.panic c) a w
theorem exec_ok (hT : TTOk P tt) (hm : P.follows .mixedOrders = true) : ∀ (c : Code) (σ : St) (d : List Dir) (K : Ex → St → List Dir → Prop), exec P tt w0 c σ d K → ∀ r a w, Sat w0 σ r a w → ∀ (Q : Exit → Act → World → Prop), PanicOk Q →
    (∀ e σ' d' r' a' w', K e σ' d' → Sat w0 σ' r' a' w' → Q e.to a' w') → c.wp P Q a w := by
  intro c
  induction c with
  | skip => exact fun σ d K h r a w hS Q _ hK => wp_skip (hK _ _ _ _ _ _ h hS)
  | region id ops dr =>
    intro σ d K h r a w hS Q hQ hK
    cases dr with
    | true =>
      obtain ⟨σ', d', h1, h2⟩ := regionK_ok hT hm (show regionK P tt w0 id ops σ d _ from h)
      exact h2 r a w hS Q hQ fun r' a' w' hS' => hK _ _ _ _ _ _ h1 hS'
    | false =>
      obtain ⟨σ', d', h1, h2⟩ := execL_ok hT ops.toList 0 σ d _ (show execL P tt w0 id ops ops.toList 0 σ d _ from h)
      exact wp_region_list (h2 r a w hS Q fun r' a' w' hS' => hK _ _ _ _ _ _ h1 hS')
  | seq x y ihx ihy =>
    intro σ d K h r a w hS Q hQ hK
    refine wp_seq (ihx σ d _ h r a w hS _ (fun d v c a w hq => hQ d v c a w hq) fun e σ' d' r' a' w' hk hS' => ?_)
    cases e with
    | normal => exact ihy σ' d' K hk r' a' w' hS' Q hQ hK
    | exit id => exact hK _ _ _ _ _ _ hk hS'
    | ret => exact hK _ _ _ _ _ _ hk hS'
  | cond c x y ihx ihy =>
    intro σ d K h r a w hS Q hQ hK
    obtain ⟨s, h1, h⟩ := evK_spec (show evK σ c _ from h)
    split at h
    · rename_i v
      have he := (evS_den hS.see h1).1
      split at h
      · rename_i b d' _
        obtain ⟨rfl, h⟩ := h
        cases v with
        | true => exact wp_cond_true he (ihx σ d' K h r a w hS Q hQ hK)
        | false => exact wp_cond_false he (ihy σ d' K h r a w hS Q hQ hK)
      · rename_i dx dy _ _
        cases v with
        | true => exact wp_cond_true he (ihx σ dx K (h.1 rfl) r a w hS Q hQ hK)
        | false => exact wp_cond_false he (ihy σ dy K (h.2 rfl) r a w hS Q hQ hK)
      · cases v with
        | true => exact wp_cond_true he (ihx σ _ K h r a w hS Q hQ hK)
        | false => exact wp_cond_false he (ihy σ _ K h r a w hS Q hQ hK)
    · exact h.elim
  | block id b ih =>
    intro σ d K h r a w hS Q hQ hK
    refine wp_block (ih σ d _ h r a w hS _ (fun d v c a w hq => hQ d v c a w hq) fun e σ' d' r' a' w' hk hS' => ?_)
    cases e with
    | normal => exact hK .normal _ _ _ _ _ hk hS'
    | exit i =>
      show (if i = id then Q .normal a' w' else Q (.exit i) a' w')
      dsimp only at hk
      cases e2 : Nat.beq i id with
      | true => rw [e2] at hk; rw [if_pos (Nat.eq_of_beq_eq_true e2)]; exact hK .normal _ _ _ _ _ hk hS'
      | false => rw [e2] at hk; rw [if_neg (Nat.ne_of_beq_eq_false e2)]; exact hK (.exit i) _ _ _ _ _ hk hS'
    | ret => exact hK .ret _ _ _ _ _ hk hS'
  | loop b ih =>
    intro σ d K h r a w hS Q hQ hK
    unfold exec at h
    split at h
    · rename_i α I C μ a0 nx bd _
      obtain ⟨⟨h1, h2⟩, h3⟩ := subK_spec (w0 := w0) h
      refine wp_loop_gen (fun x a w => C x ∧ ∃ r, Sat w0 (I x) r a w) μ (fun x a w hJ => ?_) a0 ⟨h1, r, h3 r a w hS⟩
      obtain ⟨hc, r, hS⟩ := hJ
      refine ih (I x) (bd x) _ (h2 x hc) r a w hS _ (fun d v c a w hq => hQ d v c a w hq) fun e σ' d' r' a' w' hk hS' => ?_
      cases e with
      | normal =>
        dsimp only at hk
        split at hk
        · obtain ⟨⟨k1, k2⟩, k3⟩ := subK_spec (w0 := w0) hk
          exact ⟨_, ⟨k1, r', k3 _ _ _ hS'⟩, k2⟩
        · exact hk.elim
      | exit id => exact hK _ _ _ _ _ _ hk hS'
      | ret => exact hK _ _ _ _ _ _ hk hS'
    · rename_i σ' d' 
      obtain ⟨h1, h2⟩ := h
      refine wp_mono (h1 r a w hS) fun e a' w' hq => ?_
      obtain ⟨hn, r', hS'⟩ := hq
      cases e <;> first | exact hK .normal _ _ _ _ _ h2 hS' | exact hn.elim
    · exact h.elim
  | exit id => exact fun σ d K h r a w hS Q _ hK => wp_exit (hK (.exit id) _ _ _ _ _ h hS)
  | ret => exact fun σ d K h r a w hS Q _ hK => wp_ret (hK .ret _ _ _ _ _ h hS)
  | label l => exact fun σ d K h r a w hS Q _ hK => wp_label (hK .normal _ _ _ _ _ h hS)
  | _ => intro σ d K h; exact False.elim h
end
end Go.Proofs.YtibbhpgpleeglaaGreatDoor

namespace Go.Proofs.YtibbhpgpleeglaaGreatDoor
open Go Go.RowKit

def ldS (tt : List (Nat × TI)) (σ : St) (t : TypeId) (s : SV) (K : SV → Prop) : Prop := match s with
  | .ptr b o => optK (nth σ.bs b) fun p => tiK tt t fun ti => match ti.k.agg with
    | true => ifB (Nat.ble (o + ti.size) p.2.length) (K (.agg ((p.2.drop o).take ti.size)))
    | false => optK (nthL p.2 o) K
  | _ => False
def resS (tt : List (Nat × TI)) (σ : St) (v : ResultVar) (K : SV → Prop) : Prop := match v with
  | .tmp t => evK σ (.tmp t) K
  | .cell a t => evK σ (.tmp a) fun s => ldS tt σ t s K
def resL (tt : List (Nat × TI)) (σ : St) : List ResultVar → (List SV → Prop) → Prop
  | [], K => K []
  | v :: l, K => resS tt σ v fun s => resL tt σ l fun m => K (s :: m)
def fin1 (l : List SV) (K : SV → Prop) : Prop := match l with
  | [s] => K s
  | l => K (.tup l)
def finK (tt : List (Nat × TI)) (rs : List ResultVar) (e : Ex) (σ : St) (K : SV → Prop) : Prop := match e with
  | .exit _ => False
  | _ => resL tt σ rs fun l => fin1 l K
def enumV : List Value → Nat → List (Nat × SV)
  | [], _ => []
  | v :: l, k => (k, .val v) :: enumV l (k + 1)
def st0 (N : Nat) (args : List Value) : St := ⟨N, enumV args 0, [], []⟩
def resF (tmps : Array Value) : ResultVar → Sem Value
  | .tmp t => pure (tmps.getD t undef)
  | .cell a t => do loadVar t (← asAddr (tmps.getD a undef))
theorem results_eq (fn : Func) (tmps : Array Value) : results fn tmps = (do
    let vs ← fn.results.mapM (resF tmps)
    pure (if h : vs.size = 1 then vs[0] else .tuple vs)) := rfl
section
variable {P : Program} {tt : List (Nat × TI)} {w0 : World} {σ : St}
theorem resS_spec (hT : TTOk P tt) {v : ResultVar} {K : SV → Prop} (h : resS tt σ v K) : ∃ s, K s ∧ ∀ r a w, Sat w0 σ r a w →
    (resF a.tmps v).run P w = .ok (s.den r) w := by
  unfold resS at h
  split at h
  · rename_i t
    obtain ⟨s, h1, h⟩ := evK_spec h
    exact ⟨s, h, fun r a w hS => by rw [← (evS_den hS.see h1).1]; rfl⟩
  · rename_i x t
    obtain ⟨s, h1, h⟩ := evK_spec h
    unfold ldS at h
    split at h
    · rename_i b o
      obtain ⟨p, h2, h⟩ := optK_spec h
      obtain ⟨ti, h3, h⟩ := tiK_spec hT h
      have hx : ∀ r a w, Sat w0 σ r a w → a.tmps.getD x undef = .pointer (some ⟨r.b b, o, none⟩) := fun r a w hS => (evS_den hS.see h1).1
      have hl : ∀ (r : Env) (w : World), (do loadVar t (← asAddr (.pointer (some ⟨r.b b, o, none⟩))) : Sem Value).run P w = (Instr.loadAt t (.pointer (some ⟨r.b b, o, none⟩))).run P w := fun r w => rfl
      split at h
      · rename_i ha
        obtain ⟨hb, h⟩ := ifB_spec h
        refine ⟨_, h, fun r a w hS => ?_⟩
        show (do loadVar t (← asAddr (a.tmps.getD x undef)) : Sem Value).run P w = _
        rw [hx r a w hS, hl]
        simp only [SV.den, cut_den]
        exact load_agg h3 ha (hS.see.bs _ p.1 p.2 h2).1 (by rw [denL_len]; exact Nat.le_of_ble_eq_true hb)
      · rename_i ha
        obtain ⟨c, hc, h⟩ := optK_spec h
        refine ⟨_, h, fun r a w hS => ?_⟩
        show (do loadVar t (← asAddr (a.tmps.getD x undef)) : Sem Value).run P w = _
        rw [hx r a w hS, hl]
        exact load_one h3 ha (hS.see.bs _ p.1 p.2 h2).1 (nthL_den hc)
    · exact h.elim
theorem resL_spec (hT : TTOk P tt) : ∀ {l : List ResultVar} {K : List SV → Prop}, resL tt σ l K → ∃ m, K m ∧ ∀ r a w, Sat w0 σ r a w →
    (l.mapM (resF a.tmps)).run P w = .ok (denL r m) w
  | [], K, h => ⟨[], h, fun _ _ _ _ => rfl⟩
  | v :: l, K, h => by
    obtain ⟨s, h, h1⟩ := resS_spec (w0 := w0) hT h
    obtain ⟨m, h, h2⟩ := resL_spec hT (l := l) h
    refine ⟨s :: m, h, fun r a w hS => ?_⟩
    rw [List.mapM_cons, Sem.run_bind, h1 r a w hS, Result.andThen_ok, Sem.run_bind, h2 r a w hS]
    rfl
theorem finK_spec (hT : TTOk P tt) {fn : Func} {rs : List ResultVar} (hr : fn.results = rs.toArray) {e : Ex} {K : SV → Prop} (h : finK tt rs e σ K) : (e = .normal ∨ e = .ret) ∧ ∃ s, K s ∧ ∀ r a w, Sat w0 σ r a w → (results fn a.tmps).run P w = .ok (s.den r) w := by
  have key : resL tt σ rs (fun l => fin1 l K) → ∃ s, K s ∧ ∀ r a w, Sat w0 σ r a w → (results fn a.tmps).run P w = .ok (s.den r) w := fun h => by
    obtain ⟨m, h, h1⟩ := resL_spec (w0 := w0) hT h
    have h2 : ∀ r a w, Sat w0 σ r a w → (results fn a.tmps).run P w = .ok (if h : (denL r m).toArray.size = 1 then (denL r m).toArray[0] else .tuple (denL r m).toArray) w := fun r a w hS => by
      rw [results_eq, hr, Array.mapM_eq_mapM_toList, Sem.run_bind, Sem.run_map, h1 r a w hS]
      rfl
    unfold fin1 at h
    split at h
    · exact ⟨_, h, fun r a w hS => by rw [h2 r a w hS]; rfl⟩
    · rename_i hne
      refine ⟨_, h, fun r a w hS => ?_⟩
      rw [h2 r a w hS, dif_neg ?_]
      · rfl
      · intro e
        have e2 : m.length = 1 := by rw [← denL_len r m]; simpa using e
        obtain ⟨s, rfl⟩ := List.length_eq_one_iff.1 e2
        exact hne s rfl
  unfold finK at h
  cases e with
  | exit id => exact h.elim
  | normal => exact ⟨.inl rfl, key h⟩
  | ret => exact ⟨.inr rfl, key h⟩
theorem look_enum {k : Nat} {s : SV} : ∀ {l : List Value} {j : Nat}, look k (enumV l j) = some s → ∃ i v, l[i]? = some v ∧ k = j + i ∧ s = .val v
  | [], _, h => by cases h
  | v :: l, j, h => by
    simp only [enumV, look] at h
    cases e : Nat.beq j k with
    | true =>
      rw [e] at h
      obtain rfl := Option.some.inj h
      exact ⟨0, v, rfl, (Nat.eq_of_beq_eq_true e).symm, rfl⟩
    | false =>
      rw [e] at h
      obtain ⟨i, u, h1, h2, h3⟩ := look_enum (l := l) h
      exact ⟨i + 1, u, by simpa using h1, by omega, h3⟩
theorem sat0 {N : Nat} {args : List Value} (hl : args.length ≤ N) (w : World) : Sat w (st0 N args) e0 { tmps := args.toArray ++ Array.replicate (N - args.toArray.size) undef, defers := [] } w := by
  refine ⟨⟨Below.refl _ _, ?_, fun k s hk => ?_, fun i t cs hi => ?_, fun i R hi => ?_, fun i hi => ?_⟩, ⟨fun i p hi => ?_, fun i j p q hi => ?_, fun i R hi => ?_, fun i j R R' hi => ?_, fun i j p R hi => ?_⟩, rfl⟩
  · simp [st0]; omega
  · obtain ⟨i, v, h1, rfl, rfl⟩ := look_enum hk
    refine ⟨?_, rfl⟩
    have h2 : i < args.length := (List.getElem?_eq_some_iff.1 h1).1
    rw [Nat.zero_add, Array.getD_eq_getD_getElem?, Array.getElem?_append_left (by simpa using h2)]
    simp [h1, SV.den]
  · cases hi
  · cases hi
  · exact absurd hi (Nat.not_lt_zero _)
  · cases hi
  · cases hi
  · cases hi
  · cases hi
  · cases hi
/-- **A function's call**, by what is reckoned of its code. -/
theorem call_sx (hT : TTOk P tt) (hm : P.follows .mixedOrders = true) {f : FuncId} {fn : Func} {c : Code} {N : Nat} {rs : List ResultVar} (hf : P.funcs[f]? = some fn) (hb : fn.body = some c) (hn : fn.ntmps = N) (hr : fn.results = rs.toArray)
    {args : List Value} (hl : Nat.ble args.length N = true) {d : List Dir} {K : SV → St → Prop} (h : exec P tt w0 c (st0 N args) d fun e σ _ => finK tt rs e σ fun s => K s σ) :
    Calls P f args.toArray w0 fun e w' => ∃ s σ r a, e = .returned (s.den r) ∧ K s σ ∧ Sat w0 σ r a w' := by
  refine calls_of_wp hf hb ?_
  rw [hn]
  refine exec_ok hT hm c _ d _ h e0 _ w0 (sat0 (Nat.le_of_ble_eq_true hl) w0) _ (fun d v ch a w hq => ?_) fun e σ' d' r' a' w' hk hS => ?_
  · exact ⟨hq.1, hq.2⟩
  · obtain ⟨he, s, hK, hres⟩ := finK_spec (w0 := w0) hT hr hk
    rcases he with rfl | rfl
    · exact ⟨hS.defers, _, hres _ _ _ hS, s, σ', r', a', rfl, hK, hS⟩
    · exact ⟨hS.defers, _, hres _ _ _ hS, s, σ', r', a', rfl, hK, hS⟩
theorem ret_sx (hT : TTOk P tt) (hm : P.follows .mixedOrders = true) {f : FuncId} {fn : Func} {c : Code} {N : Nat} {rs : List ResultVar} (he : Enters P f) (hf : P.funcs[f]? = some fn) (hb : fn.body = some c) (hn : fn.ntmps = N) (hr : fn.results = rs.toArray)
    {args : List Value} (hl : Nat.ble args.length N = true) {R : Value} {d : World → List Dir} (h : ∀ W, Below w0.heap.size w0 W → exec P tt W c (st0 N args) (d W) fun e σ _ => finK tt rs e σ fun s => ifB s.plain (s.den e0 = R)) :
    RetAt P w0 f args.toArray R := by
  refine ⟨he, fun W hW => (call_sx (w0 := W) (K := fun s σ => ifB s.plain (s.den e0 = R)) hT hm hf hb hn hr hl (h W hW)).mono ?_⟩
  rintro e w' ⟨s, σ, r, a, rfl, hK, hS⟩
  obtain ⟨h1, h2⟩ := ifB_spec hK
  rw [plain_den h1, h2]
  exact ⟨rfl, hS.see.low⟩
def bodyX (P : Program) (tt : List (Nat × TI)) (W : World) (fn : Func) (σ : St) (d : List Dir) (K : Ex → St → List Dir → Prop) : Prop := match fn.body with
  | some c => exec P tt W c σ d K
  | none => False
/-- The same, the kernel reckoning: what is asked is what T says. -/
theorem ret_sk (hT : TTOk P tt) (hm : P.follows .mixedOrders = true) {f : FuncId} {fn : Func} (he : Enters P f) (hf : P.funcs[f]? = some fn) {N : Nat} (hn : fn.ntmps = N) {rs : Array ResultVar} (hr : fn.results = rs) (args : List Value) (hl : Nat.ble args.length N = true) (R : Value) (d : List Dir) {T : World → Prop}
    (h : ∀ W, Below w0.heap.size w0 W → R = R → T W) (hk : ∀ W, T W = bodyX P tt W fn (st0 N args) d fun e σ _ => finK tt rs.toList e σ fun s => ifB s.plain (s.den e0 = R)) :
    RetAt P w0 f args.toArray R := by
  have key : ∀ W, Below w0.heap.size w0 W → bodyX P tt W fn (st0 N args) d fun e σ _ => finK tt rs.toList e σ fun s => ifB s.plain (s.den e0 = R) := fun W hW => hk W ▸ h W hW rfl
  unfold bodyX at key
  cases hb : fn.body with
  | none =>
    rw [hb] at key
    exact (key w0 (Below.refl _ _)).elim
  | some c =>
    rw [hb] at key
    exact ret_sx hT hm he hf hb hn (rs := rs.toList) hr hl (d := fun _ => d) key
end
theorem ai {a b : Prop} (h : a) (k : b) : a ∧ b := ⟨h, k⟩
/-- A contract, off one that is told of each world. -/
theorem rc {P : Program} (w0 : World) {f : FuncId} {args : Array Value} {R : Value} (he : Enters P f) (h : ∀ W, Calls P f args W fun e w' => e = .returned R ∧ Below W.heap.size W w') : RetAt P w0 f args R := ⟨he, fun W _ => h W⟩
theorem RetAt.at {P : Program} {w0 : World} {f : FuncId} {args : Array Value} {R : Value} (h : RetAt P w0 f args R) : Calls P f args w0 fun e w' => e = .returned R ∧ Below w0.heap.size w0 w' := h.2 w0 (Below.refl _ _)
/-! Which way. -/
theorem lt_y {a b : Int} (h : a < b) : decide (a < b) = true := decide_eq_true h
theorem lt_n {a b : Int} (h : ¬ a < b) : decide (a < b) = false := decide_eq_false h
theorem eq_y {a b : Int} (h : a = b) : (a == b) = true := by subst h; simp
theorem eq_n {a b : Int} (h : ¬ a = b) : (a == b) = false := by simpa using h
theorem wz {k : Int} (x : Int) (h : IntKind.i64.wrap 0 = k) : IntKind.i64.wrap (x - x) = k := by rw [Int.sub_self]; exact h
theorem wn {p n : Int} (h : IntKind.i64.wrap (-p) = n) : IntKind.i64.wrap (0 - p) = n := by rw [Int.zero_sub]; exact h
end Go.Proofs.YtibbhpgpleeglaaGreatDoor

