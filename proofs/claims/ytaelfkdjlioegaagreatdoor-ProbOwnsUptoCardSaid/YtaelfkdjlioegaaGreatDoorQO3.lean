/- The walks and plain laws beneath the statements. -/
import Derived.Test.YtaelfkdjlioegaaGreatDoorQO2
import Derived.Laws.IdiomStrings
namespace Go.Proofs.YtaelfkdjlioegaaGreatDoor
open Go Go.RowKit
def e0:Env:=⟨fun _=>0,fun _=>undef,fun _ _=>False⟩
def SV.plain(s:SV): Bool:=s.ok (fun _=>false) (fun _=>false)
theorem plain_den{s:SV}(h:s.plain=true)(r:Env): s.den r=s.den e0:=den_congr (β:=fun _=>false) (ξ:=fun _=>false) (fun _ h=>nomatch h) (fun _ h=>nomatch h) s h
theorem plainL_den{l:List SV}(h:okL (fun _=>false) (fun _=>false) l=true)(r:Env): denL r l=denL e0 l:=denL_congr (β:=fun _=>false) (ξ:=fun _=>false) (fun _ h=>nomatch h) (fun _ h=>nomatch h) l h
def v1(σ:St)(x:Operand)(K:Value→Prop): Prop:=evK σ x fun s=>bif s.plain then K (s.den e0)else False
def vO(σ:St)(x:Option Operand)(K:Option Value→Prop): Prop:=match x with
 | none=>K none
 | some x=>v1 σ x fun v=>K (some v)
def vL(σ:St)(l:List Operand)(K:List Value→Prop): Prop:=evL σ l fun m=>bif okL (fun _=>false) (fun _=>false) m then K (denL e0 m)else False
def RunOk(P:Program)(w0:World)(m:Sem Value)(R:Value): Prop:=∀W,Below w0.heap.size w0 W→m.run P W=.ok R W
def setG(RO:Sem Value→Value→Prop)(σ:St)(o:Oper)(R:Value): Prop:=match o.op with
 | .binOp op t x y _=>v1 σ x fun a=>v1 σ y fun b=>RO (do eqGuard op t x y a b;binOp op t a b) R
 | .unOp op _ x=>v1 σ x fun a=>RO (Op.unary op a) R
 | .convert s d x=>v1 σ x fun a=>RO (Go.convert s d a) R
 | .index t x i=>v1 σ x fun a=>v1 σ i fun b=>RO (Instr.index t a b) R
 | .indexAddr t x i=>v1 σ x fun a=>v1 σ i fun b=>RO (Instr.indexAt t a b) R
 | .load t x=>v1 σ x fun a=>RO (Instr.loadAt t a) R
 | .slice t x lo hi mx=>v1 σ x fun a=>vO σ lo fun b=>vO σ hi fun c=>vO σ mx fun d=>RO (Instr.sliceAt t a b c d) R
 | .makeInterface t x=>v1 σ x fun a=>RO (Instr.makeInterface t a) R
 | .field t x f=>v1 σ x fun a=>RO (Instr.field t a f) R
 | .fieldAddr t x f=>v1 σ x fun a=>RO (Instr.fieldAt t a f) R
 | .nilCheck x=>v1 σ x fun a=>R=a∧(match a with | .pointer (some _)=>True | .func (.func _) _ _=>True | .slice _ _ _=>True|_=>False)
 | .typeAssert x t u ok=>v1 σ x fun a=>RO (Instr.typeAssert a t u ok) R
 | .call c=>match c.callee with
  | .builtin .min=>vL σ c.args.toList fun l=>RO (Builtin.min_ c.argTypes o.type l.toArray) R
  | .builtin .max=>vL σ c.args.toList fun l=>RO (Builtin.max_ c.argTypes o.type l.toArray) R
  | .builtin .cap=>vL σ c.args.toList fun l=>RO (Builtin.cap_ c.argTypes o.type l.toArray) R
  | .builtin .len=>vL σ c.args.toList fun l=>RO (Builtin.len_ c.argTypes o.type l.toArray) R
  | _=>False
 | _=>False
def setS(P:Program)(w0:World)(σ:St)(o:Oper)(R:Value): Prop:=setG (RunOk P w0) σ o R
def resK(σ:St): List Nat→(List Res→Prop)→Prop
 | [],K=>K []
 | i::l,K=>match nth σ.rs i with
  | some ρ=>resK σ l fun m=>K (ρ::m)
  | none=>False
def resW(W:World): List Res→Prop→Prop
 | [],p=>p
 | ρ::l,p=>∀x S,ρ.φ x S W→resW W l p
def RunIn(P:Program)(w0:World)(l:List Res)(m:Sem Value)(R:Value): Prop:=∀W,Below w0.heap.size w0 W→resW W l (m.run P W=.ok R W)
section
variable {P:Program} {w0:World} {σ:St} {K:Out→Prop}
theorem v1_spec{x:Operand}{K:Value→Prop}(h:v1 σ x K): ∃v,K v∧∀r a w,See w0 σ r a w→a.eval x=v:=by
 obtain⟨s,h1,h⟩:=evK_spec h
 obtain⟨h2,h⟩:=bif_spec h
 exact⟨_,h,fun r a w hw=>by rw[(evS_den hw h1).1,plain_den h2]⟩
theorem vO_spec{x:Option Operand}{K:Option Value→Prop}(h:vO σ x K): ∃v,K v∧∀r a w,See w0 σ r a w→x.map a.eval=v:=by
 cases x with
 | none=>exact⟨none,h,fun _ _ _ _=>rfl⟩
 | some x =>
  obtain⟨v,h1,h2⟩:=v1_spec (w0:=w0) (show v1 σ x (fun v=>K (some v))from h)
  exact⟨_,h1,fun r a w hw=>by rw[Option.map_some,h2 r a w hw]⟩
theorem vL_spec{l:List Operand}{K:List Value→Prop}(h:vL σ l K): ∃v,K v∧∀r a w,See w0 σ r a w→l.map a.eval=v:=by
 obtain⟨m,h,h1⟩:=evL_spec (w0:=w0) h
 obtain⟨h2,h⟩:=bif_spec h
 exact⟨_,h,fun r a w hw=>by rw[(h1 r a w hw).1,plainL_den h2]⟩
theorem setG_ok{RO:Sem Value→Value→Prop}(hRO:∀m R,RO m R→∀r a w,See w0 σ r a w→m.run P w=.ok R w){o:Oper}{R:Value}(h:setG RO σ o R): ∀r a w,See w0 σ r a w→(execOp a.eval o).run P w=.ok (.value R) w:=by
 have ex:∀ {op:Op},o.op=op→∀ev,execOp ev o=execOp ev { o with op:=op }:=fun e ev=>by rw[← e]
 unfold setG at h
 split at h
 case h_1 e =>
  obtain⟨_,h,h1⟩:=v1_spec (w0:=w0) h
  obtain⟨_,h,h2⟩:=v1_spec (w0:=w0) h
  intro r a w hw
  rw[ex e];refine run_v ?_
  rw[h1 r a w hw,h2 r a w hw];exact hRO _ _ h r a w hw
 case h_2 e =>
  obtain⟨_,h,h1⟩:=v1_spec (w0:=w0) h
  intro r a w hw
  rw[ex e];refine run_v ?_
  rw[h1 r a w hw];exact hRO _ _ h r a w hw
 case h_3 e =>
  obtain⟨_,h,h1⟩:=v1_spec (w0:=w0) h
  intro r a w hw
  rw[ex e];refine run_v ?_
  rw[h1 r a w hw];exact hRO _ _ h r a w hw
 case h_4 e =>
  obtain⟨_,h,h1⟩:=v1_spec (w0:=w0) h
  obtain⟨_,h,h2⟩:=v1_spec (w0:=w0) h
  intro r a w hw
  rw[ex e];refine run_v ?_
  rw[h1 r a w hw,h2 r a w hw];exact hRO _ _ h r a w hw
 case h_5 e =>
  obtain⟨_,h,h1⟩:=v1_spec (w0:=w0) h
  obtain⟨_,h,h2⟩:=v1_spec (w0:=w0) h
  intro r a w hw
  rw[ex e];refine run_v ?_
  rw[h1 r a w hw,h2 r a w hw];exact hRO _ _ h r a w hw
 case h_6 e =>
  obtain⟨_,h,h1⟩:=v1_spec (w0:=w0) h
  intro r a w hw
  rw[ex e];refine run_v ?_
  rw[h1 r a w hw];exact hRO _ _ h r a w hw
 case h_7 e =>
  obtain⟨_,h,h1⟩:=v1_spec (w0:=w0) h
  obtain⟨_,h,h2⟩:=vO_spec (w0:=w0) h
  obtain⟨_,h,h3⟩:=vO_spec (w0:=w0) h
  obtain⟨_,h,h4⟩:=vO_spec (w0:=w0) h
  intro r a w hw
  rw[ex e];refine run_v ?_
  rw[h1 r a w hw,h2 r a w hw,h3 r a w hw,h4 r a w hw];exact hRO _ _ h r a w hw
 case h_8 e =>
  obtain⟨_,h,h1⟩:=v1_spec (w0:=w0) h
  intro r a w hw
  rw[ex e];refine run_v ?_
  rw[h1 r a w hw];exact hRO _ _ h r a w hw
 case h_9 e =>
  obtain⟨_,h,h1⟩:=v1_spec (w0:=w0) h
  intro r a w hw
  rw[ex e];refine run_v ?_
  rw[h1 r a w hw];exact hRO _ _ h r a w hw
 case h_10 e =>
  obtain⟨_,h,h1⟩:=v1_spec (w0:=w0) h
  intro r a w hw
  rw[ex e];refine run_v ?_
  rw[h1 r a w hw];exact hRO _ _ h r a w hw
 case h_11 e =>
  obtain⟨v,⟨rfl,h⟩,h1⟩:=v1_spec (w0:=w0) h
  intro r a w hw
  rw[ex e]
  unfold execOp
  simp only[h1 r a w hw]
  split at h
  ·rfl
  ·rfl
  ·rfl
  ·exact h.elim
 case h_12 e =>
  obtain⟨_,h,h1⟩:=v1_spec (w0:=w0) h
  intro r a w hw
  rw[ex e];refine run_v ?_
  rw[h1 r a w hw];exact hRO _ _ h r a w hw
 case h_13 c e =>
  split at h
  case h_1 hc =>
   obtain⟨l,h,h1⟩:=vL_spec (w0:=w0) h
   intro r a w hw
   rw[ex e];unfold execOp
   simp[resolve,hc,invoke,builtin,arr_map _ _ _ (h1 r a w hw),hRO _ _ h r a w hw]
  case h_2 hc =>
   obtain⟨l,h,h1⟩:=vL_spec (w0:=w0) h
   intro r a w hw
   rw[ex e];unfold execOp
   simp[resolve,hc,invoke,builtin,arr_map _ _ _ (h1 r a w hw),hRO _ _ h r a w hw]
  case h_3 hc =>
   obtain⟨l,h,h1⟩:=vL_spec (w0:=w0) h
   intro r a w hw
   rw[ex e];unfold execOp
   simp[resolve,hc,invoke,builtin,arr_map _ _ _ (h1 r a w hw),hRO _ _ h r a w hw]
  case h_4 hc =>
   obtain⟨l,h,h1⟩:=vL_spec (w0:=w0) h
   intro r a w hw
   rw[ex e];unfold execOp
   simp[resolve,hc,invoke,builtin,arr_map _ _ _ (h1 r a w hw),hRO _ _ h r a w hw]
  case h_5=>exact h.elim
 case h_14=>exact h.elim
theorem setS_ok{o:Oper}{R:Value}(h:setS P w0 σ o R): ∀r a w,See w0 σ r a w→(execOp a.eval o).run P w=.ok (.value R) w :=
 setG_ok (fun _ _ h _ _ w hw=>h w hw.low) h
theorem resK_spec:∀ {is:List Nat} {K:List Res→Prop},resK σ is K→∃l,K l∧∀r a w p,See w0 σ r a w→resW w l p→p
 | [],_,h=>⟨[],h,fun _ _ _ _ _ h=>h⟩
 | i::is,K,h=>by
  unfold resK at h
  split at h
  ·rename_i ρ e
   obtain⟨l,h1,h2⟩:=resK_spec (is:=is) h
   exact⟨ρ::l,h1,fun r a w p hw hp=>h2 r a w p hw (hp _ _ (hw.rs i ρ e).1)⟩
  ·exact h.elim
end
def Enters(P:Program)(f:FuncId): Prop:=∀(args:Array Value) (w:World),(callFunc f args).run P w=.ok (.enter f args) w
def RetAt(P:Program)(w0:World)(f:FuncId)(args:Array Value)(R:Value): Prop:=Enters P f∧∀W,Below w0.heap.size w0 W→Calls P f args W fun e w'=>e=.returned R∧Below W.heap.size W w'
def RetIn(P:Program)(w0:World)(l:List Res)(f:FuncId)(args:Array Value)(R:Value): Prop:=Enters P f∧∀W,Below w0.heap.size w0 W→resW W l (Calls P f args W fun e w'=>e=.returned R∧Below W.heap.size W w')
def memB(i:Nat): List Nat→Bool
 | []=>false
 | j::l=>Nat.beq i j||memB i l
theorem memB_mem{i:Nat}: ∀ {l:List Nat},memB i l=true↔i∈l
 | []=>by simp[memB]
 | j::l=>by
  rw[List.mem_cons,← memB_mem (l:=l)]
  show(Nat.beq i j||memB i l)=true↔_
  rw[Bool.or_eq_true]
  exact⟨fun h=>h.imp Nat.eq_of_beq_eq_true id,fun h=>h.imp (fun e=>by subst e;exact Nat.beq_refl i) id⟩
def ifB'(b:Bool)(p:Prop): Prop:=match b with
 | true=>p
 | false=>False
theorem ifB'_spec{b:Bool}{p:Prop}(h:ifB' b p): b=true∧p:=by cases b<;>first|exact⟨rfl,h⟩|exact False.elim h
mutual
def SV.refs:SV→List Nat→List Nat
 | .val _,l=>l
 | .ptr b _,l=>bif memB b l then l else b::l
 | .sli b _ _ _,l=>bif memB b l then l else b::l
 | .clo _ m n,l=>refsL n (refsL m l)
 | .agg m,l=>refsL m l
 | .tup m,l=>refsL m l
 | .han _,l=>l
def refsL:List SV→List Nat→List Nat
 | [],l=>l
 | s::m,l=>refsL m (s.refs l)
end
def boxK(σ:St)(W:World): List Nat→(Nat→Nat)→((Nat→Nat)→Prop)→Prop
 | [],β,K=>K β
 | b::l,β,K=>match nth σ.bs b with
  | some (t,cs)=>bif okL (fun _=>false) (fun _=>false) cs then ∀g,Bx W g t (denL e0 cs).toArray→boxK σ W l (upd β b g) K else False
  | none=>False
def envB(β:Nat→Nat): Env:=⟨β,fun _=>undef,fun _ _=>False⟩
def CallOk(P:Program)(w0:World)(σ:St)(f:FuncId)(args:List SV)(R:SV): Prop:=Enters P f∧∀W,Below w0.heap.size w0 W→boxK σ W (refsL args []) (fun _=>0) fun β =>
 ifB' (okL (fun b=>memB b (refsL args [])) (fun _=>false) args&&R.ok (fun b=>memB b (refsL args [])) (fun _=>false)) (Calls P f (denL (envB β) args).toArray W fun e w'=>e=.returned (R.den (envB β))∧Below W.heap.size W w')
theorem boxK_spec{σ:St}{w0:World}{r:Env}{a:Act}{W:World}(hw:See w0 σ r a W): ∀ {l:List Nat} {β:Nat→Nat} {K:(Nat→Nat)→Prop},boxK σ W l β K→∃β',K β'∧(∀b,b∈l→β' b=r.b b)∧∀b,b ∉ l→β' b=β b
 | [],β,K,h=>⟨β,h,fun _ h=>(nomatch h),fun _ _=>rfl⟩
 | c::l,β,K,h=>by
  unfold boxK at h
  split at h
  ·rename_i t cs e
   obtain⟨hp,h⟩:=bif_spec h
   have hb:=(hw.bs c t cs e).1
   rw[plainL_den hp]at hb
   obtain⟨β',h1,h2,h3⟩:=boxK_spec hw (h _ hb)
   refine⟨β',h1,fun b hb=>?_,fun b hb=>?_⟩
   ·by_cases hl:b∈l
    ·exact h2 b hl
    ·rcases List.mem_cons.1 hb with rfl|hb
     ·rw[h3 b hl];exact upd_at _ _ _
     ·exact absurd hb hl
   ·have h4:=h3 b fun hm=>hb (List.mem_cons_of_mem _ hm)
    rw[h4]
    exact upd_ne _ _ fun e=>hb (by rw[e];simp)
  ·exact h.elim
theorem CallOk.use{P:Program}{w0:World}{σ:St}{f:FuncId}{args:List SV}{R:SV}(h:CallOk P w0 σ f args R){r:Env}{a:Act}{W:World}(hw:See w0 σ r a W): Calls P f (denL r args).toArray W fun e w'=>e=.returned (R.den r)∧Below W.heap.size W w':=by
 obtain⟨β,h1,h2,_⟩:=boxK_spec hw (h.2 W hw.low)
 obtain⟨hc,h3⟩:=ifB'_spec h1
 obtain⟨c1,c2⟩:=Bool.and_eq_true_iff.1 hc
 have e1:denL (envB β) args=denL r args:=denL_congr (β:=fun b=>memB b (refsL args [])) (ξ:=fun _=>false) (fun b hb=>h2 b (memB_mem.1 hb)) (fun _ h=>nomatch h) args c1
 have e2:R.den (envB β)=R.den r:=den_congr (β:=fun b=>memB b (refsL args [])) (ξ:=fun _=>false) (fun b hb=>h2 b (memB_mem.1 hb)) (fun _ h=>nomatch h) R c2
 rw[e1,e2]at h3
 exact h3
def CallNew(P:Program)(w0:World)(σ:St)(f:FuncId)(args:List SV)(R:SV)(ρ:Res): Prop:=Enters P f∧∀r a W,See w0 σ r a W→Calls P f (denL r args).toArray W fun e w'=>∃x S,e=.returned (R.den (r.add' σ ⟨0,x,S⟩))∧ρ.φ x S w'∧(∀b,S b→W.heap.size≤b∧b<w'.heap.size)∧Below W.heap.size W w'
def calleeK(σ:St)(c:Call)(K:FuncId→List SV→Prop): Prop:=match c.callee with
 | .value f=>evK σ f fun s=>match s with
  | .clo (.func g) l m=>evL σ c.args.toList fun n=>K g (l++n++m)
  | .val (.func (.func g) l m)=>evL σ c.args.toList fun n=>K g (l.toList.map SV.val++n++m.toList.map SV.val)
  | _=>False
 | _=>False
def NewIn{β:Type}(P:Program)(w0:World)(l:List Res)(f:FuncId)(args:Array Value)(val:β→Value)(R:β→Res): Prop:=Enters P f∧∀W,Below w0.heap.size w0 W→resW W l (Calls P f args W fun e w'=>∃y x S,e=.returned (val y)∧(R y).φ x S w'∧(∀b,S b→W.heap.size≤b∧b<w'.heap.size)∧Below W.heap.size W w')
def valR{β:Type}(val:β→Value)(R:β→Res): Res where
 φ x S w:=x.oneCell'=true∧∃y x0,x=val y∧(R y).φ x0 S w
 one _ _ _ h:=h.1
 loc x S w w' h hφ:=by
  obtain⟨h1,y,x0,h2,h3⟩:=hφ
  exact⟨h1,y,x0,h2,(R y).loc x0 S w w' h h3⟩
def envX(v:Value): Env:=⟨fun _=>0,fun _=>v,fun _ _=>False⟩
theorem valR_opn{β:Type}{val:β→Value}{R R':β→Res}(h:∀y x x' S w,x'.oneCell'=true→(R y).φ x S w→(R' y).φ x' S w): ∀x S w,(valR val R).φ x S w→∃y,x=val y∧(R' y).φ x S w:=fun x S w hφ=>by
 obtain⟨h1,y,x0,h2,h3⟩:=(show _∧_ from hφ)
 exact⟨y,h2,h y x0 x S w h1 h3⟩
def bsem(b:Builtin)(ts:Array TypeId)(t:TypeId)(l:List Value): Sem Value:=match b with
 | .append=>Builtin.append_ ts t l.toArray
 | .clear=>Builtin.clear_ ts t l.toArray
 | .copy=>Builtin.copy_ ts t l.toArray
 | _=>stuck ""
def NewR{β:Type}(P:Program)(W:World)(val:β→Value)(R:β→Res)(m:Sem Value): Prop:=∃y x S w',m.run P W=.ok (val y) w'∧Below W.heap.size W w'∧(R y).φ x S w'∧∀b,S b→W.heap.size≤b∧b<w'.heap.size
def NewB{β:Type}(P:Program)(w0:World)(σ:St)(l:List SV)(m:List Value→Sem Value)(val:β→Value)(R:β→Res): Prop:=∀W,Below w0.heap.size w0 W→boxK σ W (refsL l []) (fun _=>0) fun β' =>
 ifB' (okL (fun b=>memB b (refsL l [])) (fun _=>false) l) (NewR P W val R (m (denL (envB β') l)))
theorem NewB.use{β:Type}{P:Program}{w0:World}{σ:St}{l:List SV}{m:List Value→Sem Value}{val:β→Value}{R:β→Res}(h:NewB P w0 σ l m val R){r:Env}{a:Act}{w:World}(hw:See w0 σ r a w): NewR P w val R (m (denL r l)):=by
 obtain⟨β',h1,h2,_⟩:=boxK_spec hw (h w hw.low)
 obtain⟨hc,h3⟩:=ifB'_spec h1
 have e1:denL (envB β') l=denL r l:=denL_congr (β:=fun b=>memB b (refsL l [])) (ξ:=fun _=>false) (fun b hb=>h2 b (memB_mem.1 hb)) (fun _ h=>nomatch h) l hc
 rw[e1]at h3
 exact h3
def envBX(β:Nat→Nat)(ξ:Nat→Value): Env:=⟨β,ξ,fun _ _=>False⟩
def hanK(σ:St)(W:World): List Nat→(Nat→Value)→((Nat→Value)→Prop)→Prop
 | [],ξ,K=>K ξ
 | i::l,ξ,K=>match nth σ.rs i with
  | some ρ=>∀x S,ρ.φ x S W→hanK σ W l (upd ξ i x) K
  | none=>False
theorem hanK_spec{σ:St}{w0:World}{r:Env}{a:Act}{W:World}(hw:See w0 σ r a W): ∀ {l:List Nat} {ξ:Nat→Value} {K:(Nat→Value)→Prop},hanK σ W l ξ K→∃ξ',K ξ'∧(∀i,i∈l→ξ' i=r.x i)∧∀i,i ∉ l→ξ' i=ξ i
 | [],ξ,K,h=>⟨ξ,h,fun _ h=>(nomatch h),fun _ _=>rfl⟩
 | c::l,ξ,K,h=>by
  unfold hanK at h
  split at h
  ·rename_i ρ e
   obtain⟨ξ',h1,h2,h3⟩:=hanK_spec hw (h _ _ (hw.rs c ρ e).1)
   refine⟨ξ',h1,fun b hb=>?_,fun b hb=>?_⟩
   ·by_cases hl:b∈l
    ·exact h2 b hl
    ·rcases List.mem_cons.1 hb with rfl|hb
     ·rw[h3 b hl];exact upd_at _ _ _
     ·exact absurd hb hl
   ·have h4:=h3 b fun hm=>hb (List.mem_cons_of_mem _ hm)
    rw[h4]
    exact upd_ne _ _ fun e=>hb (by rw[e];simp)
  ·exact h.elim
def RetH(P:Program)(w0:World)(σ:St)(is:List Nat)(f:FuncId)(args:List SV)(R:Value): Prop:=Enters P f∧∀W,Below w0.heap.size w0 W→boxK σ W (refsL args []) (fun _=>0) fun β=>hanK σ W is (fun _=>undef) fun ξ =>
 ifB' (okL (fun b=>memB b (refsL args [])) (fun i=>memB i is) args) (Calls P f (denL (envBX β ξ) args).toArray W fun e w'=>e=.returned R∧Below W.heap.size W w')
theorem RetH.use{P:Program}{w0:World}{σ:St}{is:List Nat}{f:FuncId}{args:List SV}{R:Value}(h:RetH P w0 σ is f args R){r:Env}{a:Act}{W:World}(hw:See w0 σ r a W): Calls P f (denL r args).toArray W fun e w'=>e=.returned R∧Below W.heap.size W w':=by
 obtain⟨β,h1,h2,_⟩:=boxK_spec hw (h.2 W hw.low)
 obtain⟨ξ,h3,h4,_⟩:=hanK_spec hw h1
 obtain⟨hc,h5⟩:=ifB'_spec h3
 have e1:denL (envBX β ξ) args=denL r args:=denL_congr (β:=fun b=>memB b (refsL args [])) (ξ:=fun i=>memB i is) (fun b hb=>h2 b (memB_mem.1 hb)) (fun i hi=>h4 i (memB_mem.1 hi)) args hc
 rw[e1]at h5
 exact h5
def NewH{β:Type}(P:Program)(w0:World)(σ:St)(is:List Nat)(f:FuncId)(args:List SV)(val:β→Value)(R:β→Res): Prop:=Enters P f∧∀W,Below w0.heap.size w0 W→boxK σ W (refsL args []) (fun _=>0) fun β'=>hanK σ W is (fun _=>undef) fun ξ =>
 ifB' (okL (fun b=>memB b (refsL args [])) (fun i=>memB i is) args) (Calls P f (denL (envBX β' ξ) args).toArray W fun e w'=>∃y x S,e=.returned (val y)∧(R y).φ x S w'∧(∀b,S b→W.heap.size≤b∧b<w'.heap.size)∧Below W.heap.size W w')
theorem NewH.use{β:Type}{P:Program}{w0:World}{σ:St}{is:List Nat}{f:FuncId}{args:List SV}{val:β→Value}{R:β→Res}(h:NewH P w0 σ is f args val R){r:Env}{a:Act}{W:World}(hw:See w0 σ r a W): Calls P f (denL r args).toArray W fun e w'=>∃y x S,e=.returned (val y)∧(R y).φ x S w'∧(∀b,S b→W.heap.size≤b∧b<w'.heap.size)∧Below W.heap.size W w':=by
 obtain⟨β',h1,h2,_⟩:=boxK_spec hw (h.2 W hw.low)
 obtain⟨ξ,h3,h4,_⟩:=hanK_spec hw h1
 obtain⟨hc,h5⟩:=ifB'_spec h3
 have e1:denL (envBX β' ξ) args=denL r args:=denL_congr (β:=fun b=>memB b (refsL args [])) (ξ:=fun i=>memB i is) (fun b hb=>h2 b (memB_mem.1 hb)) (fun i hi=>h4 i (memB_mem.1 hi)) args hc
 rw[e1]at h5
 exact h5
def NewBIn{β:Type}(P:Program)(w0:World)(f:FuncId)(args:Array Value)(val:β→Value)(blk:β→Nat)(t:TypeId)(cs:Array Value)(R:β→Res): Prop:=Enters P f∧∀W,Below w0.heap.size w0 W→Calls P f args W fun e w'=>∃y x S,e=.returned (val y)∧Bx w' (blk y) t cs∧W.heap.size≤blk y∧(R y).φ x S w'∧(∀b,S b→W.heap.size≤b∧b<w'.heap.size)∧¬ S (blk y)∧Below W.heap.size W w'
inductive DOp:Type 1 where
 | eq (R:SV)
 | set (R:Value)
 | ret (R:SV)
 | new (R:SV) (ρ:Res)
 | hook (out:Out)
 | pk (b:Bool)
 | byt (l:List UInt8)
 | rd (is:List Nat) (R:Value)
 | retr (is:List Nat) (R:Value)
 | nw {β:Type} (R:SV) (is:List Nat) (val:β→Value) (ρ:β→Res)
 | nb {β:Type} (R:SV) (val:β→Value) (ρ:β→Res)
 | nwb {β:Type} (R:SV) (t:TypeId) (cs:List SV) (val:β→Value) (blk:β→Nat) (ρ:β→Res)
 | rth (is:List Nat) (R:Value)
 | nwc {β:Type} (is:List Nat) (R:SV) (val:β→Value) (ρ:β→Res)
def ifB(b:Bool)(p:Prop): Prop:=match b with
 | true=>p
 | false=>False
theorem ifB_spec{b:Bool}{p:Prop}(h:ifB b p): b=true∧p:=by cases b<;>first|exact⟨rfl,h⟩|exact False.elim h
def sameV(s R:SV)(p:Prop): Prop:=match s with
 | .val (.int k a)=>(match R with
  | .val (.int k' b)=>ifB (kindB k k') (a=b∧p)
  | _=>False)
 | .val (.bool a)=>(match R with
  | .val (.bool b)=>a=b∧p
  | _=>False)
 | .val a=>(match R with
  | .val b=>a=b∧p
  | _=>False)
 | _=>False
theorem sameV_spec{s R:SV}{p:Prop}(h:sameV s R p): p∧∃a,s=.val a∧R=.val a:=by
 unfold sameV at h
 split at h
 ·split at h
  ·obtain⟨hk,h1,h2⟩:=ifB_spec h
   clear h
   obtain rfl:=kindB_eq hk
   subst h1
   have h:=h2
   exact⟨h,_,rfl,rfl⟩
  ·exact h.elim
 ·split at h
  ·obtain⟨rfl,h⟩:=h
   exact⟨h,_,rfl,rfl⟩
  ·exact h.elim
 ·split at h
  ·obtain⟨rfl,h⟩:=h
   exact⟨h,_,rfl,rfl⟩
  ·exact h.elim
 ·exact h.elim
def bytesN(v:Value)(c:UInt8)(p:Prop): Prop:=match v with
 | .int .u8 z=>z=(c.toNat:Int)∧p
 | _=>False
def bytesS:List SV→List UInt8→Prop→Prop
 | [],[],p=>p
 | .val v::m,c::l,p=>bytesN v c (bytesS m l p)
 | _,_,_=>False
theorem bytesS_spec{r:Env}: ∀ {m:List SV} {l:List UInt8} {p:Prop},bytesS m l p→p∧m.length=l.length∧∀(j:Nat) (hj:j<l.length),(denL r m)[j]?=some (.int .u8 (l[j].toNat:Int))
 | [],[],_,h=>⟨h,rfl,fun j hj=>absurd hj (Nat.not_lt_zero _)⟩
 | [],_::_,_,h=>False.elim h
 | .val v::m,[],_,h=>False.elim h
 | .val v::m,c::l,p,h=>by
  have h':bytesN v c (bytesS m l p):=h
  unfold bytesN at h'
  split at h'
  ·obtain⟨rfl,h2⟩:=h'
   obtain⟨h3,h4,h5⟩:=bytesS_spec (r:=r) h2
   refine⟨h3,congrArg Nat.succ h4,fun j hj=>?_⟩
   cases j with
   | zero=>rfl
   | succ j=>exact h5 j (Nat.lt_of_succ_lt_succ hj)
  ·exact h'.elim
 | .ptr _ _::_,[],_,h=>False.elim h
 | .ptr _ _::_,_::_,_,h=>False.elim h
 | .sli _ _ _ _::_,[],_,h=>False.elim h
 | .sli _ _ _ _::_,_::_,_,h=>False.elim h
 | .clo _ _ _::_,[],_,h=>False.elim h
 | .clo _ _ _::_,_::_,_,h=>False.elim h
 | .agg _::_,[],_,h=>False.elim h
 | .agg _::_,_::_,_,h=>False.elim h
 | .tup _::_,[],_,h=>False.elim h
 | .tup _::_,_::_,_,h=>False.elim h
 | .han _::_,[],_,h=>False.elim h
 | .han _::_,_::_,_,h=>False.elim h
def bytT(tt:List (Nat×TI))(src dst:TypeId)(p:Prop): Prop:=tiK tt src fun ti=>tiK tt dst fun td=>match ti.k with
 | .slice e _ _=>(match td.k with
  | .str=>tiK tt e fun te=>(match te.k with
   | .int .u8=>p
   | _=>False)
  | _=>False)
 | _=>False
theorem bytT_spec{tt:List (Nat×TI)}{P:Program}(hT:TTOk P tt){src dst:TypeId}{p:Prop}(h:bytT tt src dst p): p∧∃e,P.underlying src=some (.slice e)∧P.underlying e=some (.int .u8)∧P.underlying dst=some .string:=by
 obtain⟨ti,h1,h⟩:=tiK_spec hT h
 obtain⟨td,h2,h⟩:=tiK_spec hT h
 split at h
 ·rename_i e sz ag hk
  split at h
  ·rename_i hk2
   obtain⟨te,h3,h⟩:=tiK_spec hT h
   split at h
   ·rename_i hk3
    exact⟨h,e,(ti_slice h1 hk).1,ti_int h3 hk3,ti_str h2 hk2⟩
   ·exact h.elim
  ·exact h.elim
 ·exact h.elim
def bytK(tt:List (Nat×TI))(σ:St)(src dst:TypeId)(x:Operand)(l:List UInt8)(p:Prop): Prop:=bytT tt src dst (evK σ x fun s=>match s with
 | .sli b o n _=>optK (nth σ.bs b) fun q=>ifB (Nat.beq n l.length) (bytesS ((q.2.drop o).take n) l p)
 | _=>False)
def opD(P:Program)(tt:List (Nat×TI))(w0:World)(σ:St)(o:Oper)(x:DOp)(K:Out→Prop): Prop:=match x with
 | .eq R=>opQ tt σ o.op fun out=>sameV out.s R (K ⟨R,out.b,out.r⟩)
 | .set R=>setS P w0 σ o R∧K (one (.val R))
 | .ret R=>(match o.op with
  | .call c=>calleeK σ c fun f l=>bif okL (fun _=>false) (fun _=>false) l&&R.plain then RetAt P w0 f (denL e0 l).toArray (R.den e0)∧K (one R)else CallOk P w0 σ f l R∧K (one R)
  | _=>False)
 | .new R ρ=>(match o.op with
  | .call c=>calleeK σ c fun f l=>CallNew P w0 σ f l R ρ∧K ⟨R,none,some ρ⟩
  | _=>False)
 | .hook out=>QStep P w0 o σ (fun u=>u=out)∧K out
 | .pk b=>(match o.op with
  | .pick c x y=>evK σ c fun s=>match s with
   | .val (.bool v)=>v=b∧(match b with
    | true=>evK σ x fun s=>K (one s)
    | false=>evK σ y fun s=>K (one s))
   | _=>False
  | _=>False)
 | .byt l=>(match o.op with
  | .convert src dst x=>bytK tt σ src dst x l (K (one (.val (.string ⟨l.toArray⟩))))
  | _=>False)
 | .rd is R=>resK σ is fun m=>setG (RunIn P w0 m) σ o R∧K (one (.val R))
 | .nw R is val ρ=>(match o.op with
  | .call c=>calleeK σ c fun f l=>ifB (okL (fun _=>false) (fun _=>false) l&&R.ok (fun _=>false) (fun i=>Nat.beq i σ.rs.length)) (resK σ is fun m=>NewIn P w0 m f (denL e0 l).toArray (fun y=>R.den (envX (val y))) ρ∧(∀y,(val y).oneCell'=true)∧K ⟨R,none,some (valR val ρ)⟩)
  | _=>False)
 | .nb R val ρ=>(match o.op with
  | .call c=>(match c.callee with
   | .builtin b=>evL σ c.args.toList fun l=>ifB (R.ok (fun _=>false) (fun i=>Nat.beq i σ.rs.length)) (NewB P w0 σ l (bsem b c.argTypes o.type) (fun y=>R.den (envX (val y))) ρ∧(∀y,(val y).oneCell'=true)∧K ⟨R,none,some (valR val ρ)⟩)
   | _=>False)
  | _=>False)
 | .nwb R t cs val blk ρ=>(match o.op with
  | .call c=>calleeK σ c fun f l=>ifB (okL (fun _=>false) (fun _=>false) l&&(R.ok (fun b=>Nat.beq b σ.bs.length) (fun i=>Nat.beq i σ.rs.length)&&okL (fun _=>false) (fun _=>false) cs)) (NewBIn P w0 f (denL e0 l).toArray (fun y=>R.den (envBX (fun _=>blk y) (fun _=>val y))) blk t (denL e0 cs).toArray ρ∧(∀y,(val y).oneCell'=true)∧K ⟨R,some (t,cs),some (valR val ρ)⟩)
  | _=>False)
 | .rth is R=>(match o.op with
  | .call c=>calleeK σ c fun f l=>RetH P w0 σ is f l R∧K (one (.val R))
  | _=>False)
 | .nwc is R val ρ=>(match o.op with
  | .call c=>calleeK σ c fun f l=>ifB (R.ok (fun _=>false) (fun i=>Nat.beq i σ.rs.length)) (NewH P w0 σ is f l (fun y=>R.den (envX (val y))) ρ∧(∀y,(val y).oneCell'=true)∧K ⟨R,none,some (valR val ρ)⟩)
  | _=>False)
 | .retr is R=>(match o.op with
  | .call c=>calleeK σ c fun f l=>ifB (okL (fun _=>false) (fun _=>false) l) (resK σ is fun m=>RetIn P w0 m f (denL e0 l).toArray R∧K (one (.val R)))
  | _=>False)
section
variable {P:Program} {tt:List (Nat×TI)} {w0:World} {σ:St} {K:Out→Prop}
theorem calleeK_spec{c:Call}{K:FuncId→List SV→Prop}(h:calleeK σ c K): ∃f l,K f l∧σ.ltL l=σ.ltL l∧∀(o:Oper),o.op=.call c→Enters P f→∀r a w,See w0 σ r a w→(execOp a.eval o).run P w=.ok (.enter f (denL r l).toArray) w:=by
 unfold calleeK at h
 split at h
 ·rename_i f hc
  obtain⟨s,h1,h⟩:=evK_spec h
  split at h
  ·rename_i g l m
   obtain⟨n,h,h2⟩:=evL_spec (w0:=w0) h
   refine⟨g,_,h,rfl,fun o ho he r a w hw=>?_⟩
   have h3:=(evS_den hw h1).1
   unfold execOp
   rw[ho]
   simp only[resolve,hc,h3,SV.den,Deferred.ofValue,Sem.run_bind,Sem.run_pure,Result.andThen_ok,invoke]
   rw[arr_map _ _ _ (h2 r a w hw).1]
   have h4:(denL r l).toArray++(denL r n).toArray++(denL r m).toArray=(denL r (l++n++m)).toArray:=by simp[denL_map]
   rw[h4,he]
  ·rename_i g l m
   obtain⟨n,h,h2⟩:=evL_spec (w0:=w0) h
   refine⟨g,_,h,rfl,fun o ho he r a w hw=>?_⟩
   have h3:=(evS_den hw h1).1
   unfold execOp
   rw[ho]
   simp only[resolve,hc,h3,SV.den,Deferred.ofValue,Sem.run_bind,Sem.run_pure,Result.andThen_ok,invoke]
   rw[arr_map _ _ _ (h2 r a w hw).1]
   have h4:l++(denL r n).toArray++m=(denL r (l.toList.map SV.val++n++m.toList.map SV.val)).toArray:=by
    have e1:∀x:Array Value,(denL r (x.toList.map SV.val))=x.toList:=fun x=>denL_v r x.toList
    rw[denL_map r (_++_++_),List.map_append,List.map_append,← denL_map,← denL_map,← denL_map,e1,e1]
    simp
   rw[h4,he]
  ·exact h.elim
 ·exact h.elim
theorem q_call{o:Oper}{f:FuncId}{l:List SV}{R:SV}(h:K (one R))(hs:σ.lt R=true)(hr:∀r a w,See w0 σ r a w→(execOp a.eval o).run P w=.ok (.enter f (denL r l).toArray) w)(hc:∀r a W,See w0 σ r a W→Calls P f (denL r l).toArray W fun e w'=>e=.returned (R.den r)∧Below W.heap.size W w'): QOk P w0 o σ K :=
 ⟨_,h,fun r a w hw Q next hn=>by
  unfold Oper.wp
  rw[hr r a w hw]
  show Calls P f _ w _
  refine(hc r a w hw).mono ?_
  rintro e w' ⟨rfl,hb⟩
  have h1:=hn _ Gh.no w' rfl hb (by exact⟨rfl,(fun _ _ h=>nomatch h),(fun _ h=>nomatch h),(fun _ _ h=>nomatch h)⟩)
  rw[show(one R).s=R from rfl,den_add hs]at h1
  exact h1⟩
theorem opD_ok(hT:TTOk P tt)(hK:∀out,K out→σ.fits out=true){o:Oper}{x:DOp}(h:opD P tt w0 σ o x K): QOk P w0 o σ K:=by
 unfold opD at h
 split at h
 ·rename_i R
  obtain⟨out,h1,h2⟩:=opQ_ok (w0:=w0) hT (K:=fun out=>sameV out.s R (K ⟨R,out.b,out.r⟩)) (fun out ho=>by
   obtain⟨h1,a,e1,rfl⟩:=sameV_spec ho
   have h2:=hK _ h1
   rw[← e1]at h2
   exact h2) h
  obtain⟨h3,a,e1,rfl⟩:=sameV_spec h1
  refine⟨_,h3,fun r A w hw Q next hn=>h2 r A w hw Q next ?_⟩
  rintro u γ w' rfl hb hm
  have h4:=hn _ γ w' rfl hb ⟨hm.one,hm.b,hm.r,hm.apart⟩
  rw[e1]
  exact h4
 ·exact q_one hK _ h.2 fun r a w hw=>setS_ok h.1 r a w hw
 ·rename_i R
  split at h
  ·rename_i c ho
   obtain⟨f,l,h,_,hr⟩:=calleeK_spec (P:=P) (w0:=w0) h
   cases hp:okL (fun _=>false) (fun _=>false) l&&R.plain with
   | true =>
    rw[hp]at h
    obtain⟨⟨he,hc⟩,h⟩:=h
    obtain⟨p1,p2⟩:=Bool.and_eq_true_iff.1 hp
    refine q_call h (lt_of hK h) (hr o ho he) fun r a W hw=>?_
    rw[plainL_den p1,plain_den p2]
    exact hc W hw.low
   | false =>
    rw[hp]at h
    obtain⟨hc,h⟩:=h
    exact q_call h (lt_of hK h) (hr o ho hc.1) fun r a W hw=>hc.use hw
  ·exact h.elim
 ·rename_i R ρ
  split at h
  ·rename_i c ho
   obtain⟨f,l,h,_,hr⟩:=calleeK_spec (P:=P) (w0:=w0) h
   obtain⟨⟨he,hc⟩,h⟩:=h
   refine⟨_,h,fun r a w hw Q next hn=>?_⟩
   unfold Oper.wp
   rw[hr o ho he r a w hw]
   show Calls P f _ w _
   refine(hc r a w hw).mono ?_
   rintro e w' ⟨x,S,rfl,hφ,hS,hb⟩
   exact hn _ ⟨0,x,S⟩ w' rfl hb ⟨ρ.one x S w' hφ,(fun _ _ h=>nomatch h),(fun R' h=>by obtain rfl:=Option.some.inj h;exact⟨hφ,hS⟩),(fun _ _ h=>nomatch h)⟩
  ·exact h.elim
 ·exact⟨_,h.2,h.1⟩
 ·split at h
  ·rename_i b c x y e
   obtain⟨s,h1,h⟩:=evK_spec h
   have hx:∀ev,execOp ev o=execOp ev { o with op:=.pick c x y }:=fun ev=>by rw[← e]
   split at h
   ·rename_i v
    obtain⟨hv,h⟩:=h
    subst hv
    cases v with
    | true =>
     obtain⟨u,h2,h⟩:=evK_spec h
     refine q_one hK _ h fun r A w hw=>?_
     rw[hx,← (evS_den hw h2).1]
     have h3:=(evS_den hw h1).1
     unfold execOp
     simp only[h3,SV.den,asBool]
     rfl
    | false =>
     obtain⟨u,h2,h⟩:=evK_spec h
     refine q_one hK _ h fun r A w hw=>?_
     rw[hx,← (evS_den hw h2).1]
     have h3:=(evS_den hw h1).1
     unfold execOp
     simp only[h3,SV.den,asBool]
     rfl
   ·exact h.elim
  ·exact h.elim
 ·rename_i l
  split at h
  ·rename_i src dst x e
   obtain⟨h,ety,ht1,ht2,ht3⟩:=bytT_spec hT h
   obtain⟨s,h1,h⟩:=evK_spec h
   split at h
   ·rename_i b off n c
    obtain⟨q,h2,h⟩:=optK_spec h
    obtain⟨hn,h⟩:=ifB_spec h
    have hn:=Nat.eq_of_beq_eq_true hn
    have hk:=(bytesS_spec (r:=e0) h).1
    refine q_one hK _ hk fun r A w hw=>?_
    obtain⟨_,hlen,hcs⟩:=bytesS_spec (r:=r) h
    have hx:∀ev,execOp ev o=execOp ev { o with op:=.convert src dst x }:=fun ev=>by rw[← e]
    have hv:=(evS_den hw h1).1
    have hb:=(hw.bs b q.1 q.2 h2).1
    have hrun:=run_convert_bytes_back (P:=P) w src dst ety ⟨r.b b,off,none⟩ c l ht1 ht2 ht3 (fun j hj=>by
     rw[add_plain,hb.cel]
     have h3:=hcs j hj
     rw[cut_den]at h3
     rw[List.getElem?_take_of_lt (by omega),List.getElem?_drop]at h3
     simpa using h3)
    rw[hx]
    rw[← hn]at hrun
    unfold execOp
    simp only[hv,SV.den,Sem.run_bind,hrun]
    rfl
   ·exact h.elim
  ·exact h.elim
 ·obtain⟨l,h,hl⟩:=resK_spec (w0:=w0) h
  exact q_one hK _ h.2 fun r a w hw=>setG_ok (fun _ _ h r a w hw=>hl r a w _ hw (h w hw.low)) h.1 r a w hw
 ·rename_i β R is val ρ
  split at h
  ·rename_i c ho
   obtain⟨f,l,h,_,hr⟩:=calleeK_spec (P:=P) (w0:=w0) h
   obtain⟨hp,h⟩:=ifB_spec h
   obtain⟨p1,p2⟩:=Bool.and_eq_true_iff.1 hp
   obtain⟨m,⟨⟨he,hc⟩,hone,h⟩,hm⟩:=resK_spec (w0:=w0) h
   refine⟨_,h,fun r a w hw Q next hn=>?_⟩
   unfold Oper.wp
   rw[hr o ho he r a w hw,plainL_den p1]
   show Calls P f _ w _
   refine(hm r a w _ hw (hc w hw.low)).mono ?_
   rintro e w' ⟨y,x0,S,rfl,hφ,hS,hb⟩
   have e2:R.den (envX (val y))=R.den (r.add' σ ⟨0,val y,S⟩):=den_congr (β:=fun _=>false) (ξ:=fun i=>Nat.beq i σ.rs.length) (fun _ h=>nomatch h) (fun i hi=>by rw[Nat.eq_of_beq_eq_true hi];exact(upd_at _ _ _).symm) R p2
   dsimp only
   rw[e2]
   exact hn _ ⟨0,val y,S⟩ w' rfl hb ⟨hone y,(fun _ _ h=>nomatch h),(fun R' h=>by obtain rfl:=Option.some.inj h;exact⟨⟨hone y,y,x0,rfl,hφ⟩,hS⟩),(fun _ _ h=>nomatch h)⟩
  ·exact h.elim
 ·rename_i β R val ρ
  split at h
  ·rename_i c ho
   split at h
   ·rename_i b hc
    obtain⟨l,h,h1⟩:=evL_spec (w0:=w0) h
    obtain⟨p2,h,hone,hk⟩:=ifB_spec h
    refine⟨_,hk,fun r a w hw Q next hn=>?_⟩
    obtain⟨y,x0,S,w',h2,hb,hφ,hS⟩:=h.use hw
    have h5:(execOp a.eval o).run P w=.ok (.value (R.den (envX (val y)))) w':=by
     rw[show execOp a.eval o=execOp a.eval { o with op:=.call c } by rw[← ho]]
     unfold execOp
     unfold bsem at h2
     split at h2
     all_goals first|(simp[resolve,hc,invoke,builtin,arr_map _ _ _ (h1 r a w hw).1,h2];done)|(cases h2;done)
    have e2:R.den (envX (val y))=R.den (r.add' σ ⟨0,val y,S⟩):=den_congr (β:=fun _=>false) (ξ:=fun i=>Nat.beq i σ.rs.length) (fun _ h=>nomatch h) (fun i hi=>by rw[Nat.eq_of_beq_eq_true hi];exact(upd_at _ _ _).symm) R p2
    unfold Oper.wp
    rw[h5,e2]
    exact hn _ ⟨0,val y,S⟩ w' rfl hb ⟨hone y,(fun _ _ h=>nomatch h),(fun R' h=>by obtain rfl:=Option.some.inj h;exact⟨⟨hone y,y,x0,rfl,hφ⟩,hS⟩),(fun _ _ h=>nomatch h)⟩
   ·exact h.elim
  ·exact h.elim
 ·rename_i β R t cs val blk ρ
  split at h
  ·rename_i c ho
   obtain⟨f,l,h,_,hr⟩:=calleeK_spec (P:=P) (w0:=w0) h
   obtain⟨hp,⟨he,hc⟩,hone,hk⟩:=ifB_spec h
   obtain⟨p1,hp⟩:=Bool.and_eq_true_iff.1 hp
   obtain⟨p2,p3⟩:=Bool.and_eq_true_iff.1 hp
   refine⟨_,hk,fun r a w hw Q next hn=>?_⟩
   unfold Oper.wp
   rw[hr o ho he r a w hw,plainL_den p1]
   show Calls P f _ w _
   refine(hc w hw.low).mono ?_
   rintro e w' ⟨y,x0,S,rfl,hB,hge,hφ,hS,hap,hb⟩
   have e2:R.den (envBX (fun _=>blk y) (fun _=>val y))=R.den (r.add' σ ⟨blk y,val y,S⟩):=den_congr (β:=fun b=>Nat.beq b σ.bs.length) (ξ:=fun i=>Nat.beq i σ.rs.length) (fun i hi=>by rw[Nat.eq_of_beq_eq_true hi];exact(upd_at _ _ _).symm) (fun i hi=>by rw[Nat.eq_of_beq_eq_true hi];exact(upd_at _ _ _).symm) R p2
   dsimp only
   rw[e2]
   exact hn _ ⟨blk y,val y,S⟩ w' rfl hb ⟨hone y,(fun t' cs' h=>by obtain⟨rfl,rfl⟩:=Prod.mk.inj (Option.some.inj h);exact⟨by rw[plainL_den p3];exact hB,hge⟩),(fun R' h=>by obtain rfl:=Option.some.inj h;exact⟨⟨hone y,y,x0,rfl,hφ⟩,hS⟩),(fun _ _ _ _=>hap)⟩
  ·exact h.elim
 ·rename_i is R
  split at h
  ·rename_i c ho
   obtain⟨f,l,⟨h,hk⟩,_,hr⟩:=calleeK_spec (P:=P) (w0:=w0) h
   refine⟨_,hk,fun r a w hw Q next hn=>?_⟩
   unfold Oper.wp
   rw[hr o ho h.1 r a w hw]
   show Calls P f _ w _
   refine(h.use hw).mono ?_
   rintro e w' ⟨rfl,hb⟩
   exact hn _ Gh.no w' rfl hb ⟨rfl,(fun _ _ h=>nomatch h),(fun _ h=>nomatch h),(fun _ _ h=>nomatch h)⟩
  ·exact h.elim
 ·rename_i β is R val ρ
  split at h
  ·rename_i c ho
   obtain⟨f,l,h,_,hr⟩:=calleeK_spec (P:=P) (w0:=w0) h
   obtain⟨p2,h,hone,hk⟩:=ifB_spec h
   refine⟨_,hk,fun r a w hw Q next hn=>?_⟩
   unfold Oper.wp
   rw[hr o ho h.1 r a w hw]
   show Calls P f _ w _
   refine(h.use hw).mono ?_
   rintro e w' ⟨y,x0,S,rfl,hφ,hS,hb⟩
   have e2:R.den (envX (val y))=R.den (r.add' σ ⟨0,val y,S⟩):=den_congr (β:=fun _=>false) (ξ:=fun i=>Nat.beq i σ.rs.length) (fun _ h=>nomatch h) (fun i hi=>by rw[Nat.eq_of_beq_eq_true hi];exact(upd_at _ _ _).symm) R p2
   dsimp only
   rw[e2]
   exact hn _ ⟨0,val y,S⟩ w' rfl hb ⟨hone y,(fun _ _ h=>nomatch h),(fun R' h=>by obtain rfl:=Option.some.inj h;exact⟨⟨hone y,y,x0,rfl,hφ⟩,hS⟩),(fun _ _ h=>nomatch h)⟩
  ·exact h.elim
 ·rename_i is R
  split at h
  ·rename_i c ho
   obtain⟨f,l,h,_,hr⟩:=calleeK_spec (P:=P) (w0:=w0) h
   obtain⟨p1,h⟩:=ifB_spec h
   obtain⟨m,⟨⟨he,hc⟩,h⟩,hm⟩:=resK_spec (w0:=w0) h
   refine q_call h (lt_of hK h) (hr o ho he) fun r a W hw=>?_
   rw[plainL_den p1]
   exact hm r a W _ hw (hc W hw.low)
  ·exact h.elim
end
open Go Go.RowKit
abbrev Hp:Type:=Option Addr×Nat
def Ag(σ:St)(r r':Env): Prop:=(∀i,i<σ.bs.length→r'.b i=r.b i)∧∀i,i<σ.rs.length→r'.x i=r.x i
def St.le(σ σ':St): Prop:=σ.bs.length≤σ'.bs.length∧σ.rs.length≤σ'.rs.length
def leB(σ σ':St): Bool:=Nat.ble σ.bs.length σ'.bs.length&&Nat.ble σ.rs.length σ'.rs.length
structure Trn (S:Nat→Prop) (w w':World):Prop where
 os:w'.os=w.os
 tape:w'.tape=w.tape
 output:w'.output=w.output
 size:w.heap.size≤w'.heap.size
 block:∀k,k<w.heap.size→¬ S k→w'.heap[k]?=w.heap[k]?
theorem Trn.of_grown{S:Nat→Prop}{w w':World}{row:Option Nat}(h:w.grownBy w' row)(hr:∀k,row=some k→S k): Trn S w w' :=
 ⟨h.os,h.tape,h.output,h.size,fun k hk hn=>h.block k hk fun e=>hn (hr k e.symm)⟩
theorem Trn.refl(S:Nat→Prop)(w:World): Trn S w w:=⟨rfl,rfl,rfl,Nat.le_refl _,fun _ _ _=>rfl⟩
theorem Trn.trans{S:Nat→Prop}{a b c:World}(h:Trn S a b)(k:Trn S b c): Trn S a c :=
 ⟨k.os.trans h.os,k.tape.trans h.tape,k.output.trans h.output,Nat.le_trans h.size k.size,fun i hi hn=>(k.block i (Nat.lt_of_lt_of_le hi h.size) hn).trans (h.block i hi hn)⟩
theorem Trn.setCell{S:Nat→Prop}{w:World}{p:Addr}(hp:S p.block)(u:Value): Trn S w (w.setCell p u) :=
 ⟨rfl,rfl,rfl,by simp[World.setCell],fun k _ hn=>Below.heap_setCell w p u k fun e=>hn (e▸hp)⟩
def outX(i:Nat)(R:Res)(σ:St): St:={ σ with rs:=setNth σ.rs i R }
def outN(R:Res)(σ:St): St:={ σ with rs:=snoc σ.rs (some R) }
def rowX(e:TypeId)(k:Nat)(v:Value)(n:Nat)(xs:List Value): Res where
 φ x S w:=x.oneCell'=true∧w.ownsRow 0 e k v n xs∧∀b,S b↔v.ownBlock=some b
 one _ _ _ h:=h.1
 loc x S w w' h hφ:=by
  obtain⟨h1,h2,h3⟩:=hφ
  refine⟨h1,⟨h2.1,?_⟩,h3⟩
  rcases h2.2 with h4|⟨g,cap,cur,e1,hb,hg,rest⟩
  ·exact .inl h4
  ·exact .inr ⟨g,cap,cur,e1,hb,(h g ((h3 g).2 (by rw[e1];rfl))).trans hg,rest⟩
def rowR{α:Type}(e:TypeId)(k:Nat)(c:α→List Value)(l:List α)(A:Option Addr)(cp:Nat): Res:=rowX e k (.slice A l.length cp) l.length (l.flatMap c)
theorem rowR_congr{α β:Type}{e:TypeId}{k:Nat}{c:α→List Value}{c':β→List Value}{l:List α}{l':List β}{A:Option Addr}{cp:Nat}(hn:l.length=l'.length)(h:l.flatMap c=l'.flatMap c'){x:Value}{S:Nat→Prop}{w:World}(hφ:(rowR e k c l A cp).φ x S w): (rowR e k c' l' A cp).φ x S w:=by
 unfold rowR at hφ ⊢
 rw[← hn,← h]
 exact hφ
theorem flatMap_len{α:Type}{c:α→List Value}{k:Nat}(hc:∀x,(c x).length=k): ∀l:List α,(l.flatMap c).length=l.length*k
 | []=>by simp
 | x::l=>by rw[List.flatMap_cons,List.length_append,flatMap_len hc l,hc,List.length_cons,Nat.succ_mul,Nat.add_comm]
theorem flatMap_at{α:Type}{c:α→List Value}{k:Nat}(hc:∀x,(c x).length=k): ∀ {l:List α} {j i:Nat} (hj:j<l.length),i<k→(l.flatMap c)[j*k+i]?=(c l[j])[i]?
 | x::l,0,i,_,hi=>by
  rw[List.flatMap_cons,Nat.zero_mul,Nat.zero_add,List.getElem?_append_left (by rw[hc];exact hi)]
  rfl
 | x::l,j+1,i,hj,hi=>by
  have hj':j<l.length:=Nat.lt_of_succ_lt_succ hj
  rw[List.flatMap_cons,List.getElem?_append_right (by rw[hc,Nat.succ_mul];omega),hc,show(j+1)*k+i-k=j*k+i by rw[Nat.succ_mul];omega]
  exact flatMap_at hc hj' hi
section
variable {w0:World} {σ:St}
theorem Ag.refl(σ:St)(r:Env): Ag σ r r:=⟨fun _ _=>rfl,fun _ _=>rfl⟩
theorem Ag.trans{σ σ':St}{r r' r'':Env}(h:Ag σ r r')(hl:σ.le σ')(k:Ag σ' r' r''): Ag σ r r'' :=
 ⟨fun i hi=>(k.1 i (Nat.lt_of_lt_of_le hi hl.1)).trans (h.1 i hi),fun i hi=>(k.2 i (Nat.lt_of_lt_of_le hi hl.2)).trans (h.2 i hi)⟩
theorem Ag.le{σ σ':St}{r r':Env}(h:Ag σ' r r')(hl:σ.le σ'): Ag σ r r':=(Ag.refl σ r).trans hl h
theorem Ag.add(σ:St)(r:Env)(γ:Gh): Ag σ r (r.add' σ γ):=⟨fun _ hi=>upd_ne _ _ (Nat.ne_of_lt hi),fun _ hi=>upd_ne _ _ (Nat.ne_of_lt hi)⟩
theorem St.le.refl(σ:St): σ.le σ:=⟨Nat.le_refl _,Nat.le_refl _⟩
theorem St.le.trans{σ σ' σ'':St}(h:σ.le σ')(k:σ'.le σ''): σ.le σ'':=⟨Nat.le_trans h.1 k.1,Nat.le_trans h.2 k.2⟩
theorem le_grow(σ:St)(o:Out): σ.le (σ.grow o):=⟨grow_bs,grow_rs⟩
theorem le_push(σ:St)(d:Option Tmp)(s:SV): σ.le (σ.push d s):=by cases d<;>exact St.le.refl σ
theorem leB_le{σ σ':St}(h:leB σ σ'=true): σ.le σ':=by
 obtain⟨h1,h2⟩:=Bool.and_eq_true_iff.1 h
 exact⟨Nat.le_of_ble_eq_true h1,Nat.le_of_ble_eq_true h2⟩
theorem Ag.den{σ:St}{r r':Env}(h:Ag σ r r'){s:SV}(hs:σ.lt s=true): s.den r'=s.den r:=den_congr (fun i hi=>h.1 i (blt_lt hi)) (fun i hi=>h.2 i (blt_lt hi)) s hs
theorem setNth_same{α:Type}: ∀ {l:List (Option α)} {i:Nat} {p y:α},nth l i=some p→nth (setNth l i y) i=some y
 | [],_,_,_,h=>by cases h
 | _::_,0,_,_,_=>rfl
 | _::l,n+1,_,_,h=>setNth_same (l:=l) (i:=n) h
theorem setNth_other{α:Type}: ∀ {l:List (Option α)} {i j:Nat} {y:α},j≠i→nth (setNth l i y) j=nth l j
 | [],_,_,_,_=>rfl
 | _::_,0,0,_,h=>absurd rfl h
 | _::_,0,_+1,_,_=>rfl
 | _::_,_+1,0,_,_=>rfl
 | _::l,i+1,j+1,_,h=>setNth_other (l:=l) (i:=i) (j:=j) (fun e=>h (by rw[e]))
theorem env_turn(r:Env)(S:Nat→Nat→Prop)(s:SV): s.den ⟨r.b,r.x,S⟩=s.den r :=
 den_congr (r:=⟨r.b,r.x,S⟩) (r':=r) (β:=fun _=>true) (ξ:=fun _=>true) (fun _ _=>rfl) (fun _ _=>rfl) s (by
  exact SV.rec (motive_1:=fun s=>s.ok (fun _=>true) (fun _=>true)=true) (motive_2:=fun l=>okL (fun _=>true) (fun _=>true) l=true) (fun _=>rfl) (fun _ _=>rfl) (fun _ _ _ _=>rfl) (fun _ _ _ h1 h2=>Bool.and_eq_true_iff.2 ⟨h1,h2⟩) (fun _ h=>h) (fun _ h=>h) (fun _=>rfl) rfl (fun _ _ h1 h2=>Bool.and_eq_true_iff.2 ⟨h1,h2⟩) s)
theorem env_turnL(r:Env)(S:Nat→Nat→Prop)(l:List SV): denL ⟨r.b,r.x,S⟩ l=denL r l:=by
 rw[denL_map,denL_map]
 exact List.map_congr_left fun s _=>env_turn r S s
theorem Sat.turn{r:Env}{a:Act}{w w':World}{i:Nat}{R R':Res}{S':Nat→Prop}(h:Sat w0 σ r a w)(hi:nth σ.rs i=some R)(ht:Trn (r.S i) w w')(hφ:R'.φ (r.x i) S' w')(hS:∀b,S' b→(r.S i b∨w.heap.size≤b)∧b<w'.heap.size):
  Sat w0 (outX i R' σ) ⟨r.b,r.x,upd r.S i S'⟩ a w':=by
 have hlen:(outX i R' σ).rs.length=σ.rs.length:=setNth_len _ _ _
 have hlt:∀s,(outX i R' σ).lt s=σ.lt s:=fun s=>by simp only[St.lt,hlen];rfl
 have hltL:∀s,(outX i R' σ).ltL s=σ.ltL s:=fun s=>by simp only[St.ltL,hlen];rfl
 have hlow:=h.see.low
 have hrs:∀j R2,nth (outX i R' σ).rs j=some R2→(j=i∧R2=R'∧upd r.S i S' j=S')∨(j≠i∧nth σ.rs j=some R2∧upd r.S i S' j=r.S j):=fun j R2 hj=>by
  rcases nth_set hj with⟨e1,e2⟩|⟨e1,e2⟩
  ·subst e1;exact .inl ⟨rfl,e2,upd_at _ _ _⟩
  ·exact .inr ⟨e1,e2,upd_ne _ _ e1⟩
 refine⟨⟨⟨ht.os.trans hlow.os,ht.tape.trans hlow.tape,ht.output.trans hlow.output,Nat.le_trans hlow.size ht.size,fun k hk=>?_⟩,h.see.size,fun k s hk=>?_,fun j t cs hj=>?_,fun j R2 hj=>?_,fun j hj=>h.see.one j (by rwa [hlen]at hj)⟩,⟨h.sep.own,h.sep.inj,fun j R2 hj b hb=>?_,fun j m R2 R3 hj hm hne b hb hb2=>?_,fun j m p R2 hj hm hb=>?_⟩,h.defers⟩
 ·refine(ht.block k (Nat.lt_of_lt_of_le hk hlow.size) fun hs=>?_).trans (hlow.block k hk)
  exact absurd (h.sep.ownS i R hi k hs) (by omega)
 ·obtain⟨h1,h2⟩:=h.see.ts k s hk
  exact⟨by rw[env_turn];exact h1,by rw[hlt];exact h2⟩
 ·obtain⟨h1,h2⟩:=h.see.bs j t cs hj
  refine⟨?_,by rw[hltL];exact h2⟩
  rw[env_turnL]
  exact(ht.block _ h1.lt (h.sep.apart j i _ _ hj hi)).trans h1
 ·rcases hrs j R2 hj with⟨rfl,rfl,e⟩|⟨hne,h1,e⟩
  ·rw[show(⟨r.b,r.x,upd r.S j S'⟩:Env).S j=S' from e]
   exact⟨hφ,fun b hb=>(hS b hb).2⟩
  ·rw[show(⟨r.b,r.x,upd r.S i S'⟩:Env).S j=r.S j from e]
   obtain⟨h2,h3⟩:=h.see.rs j R2 h1
   exact⟨R2.loc _ _ _ _ (fun b hb=>ht.block b (h3 b hb) fun hs=>h.sep.disj j i R2 R h1 hi hne b hb hs) h2,fun b hb=>Nat.lt_of_lt_of_le (h3 b hb) ht.size⟩
 ·rcases hrs j R2 hj with⟨rfl,rfl,e⟩|⟨hne,h1,e⟩
  ·rw[show(⟨r.b,r.x,upd r.S j S'⟩:Env).S j=S' from e]at hb
   rcases(hS b hb).1 with h2|h2
   ·exact h.sep.ownS j R hi b h2
   ·exact Nat.le_trans hlow.size h2
  ·rw[show(⟨r.b,r.x,upd r.S i S'⟩:Env).S j=r.S j from e]at hb
   exact h.sep.ownS j R2 h1 b hb
 ·rcases hrs j R2 hj with⟨e1,_,e⟩|⟨hn1,h1,e⟩<;>rcases hrs m R3 hm with⟨e3,_,e4⟩|⟨hn2,h2,e4⟩
  ·exact hne (e1.trans e3.symm)
  ·rw[show(⟨r.b,r.x,upd r.S i S'⟩:Env).S j=S' from e]at hb
   rw[show(⟨r.b,r.x,upd r.S i S'⟩:Env).S m=r.S m from e4]at hb2
   rcases(hS b hb).1 with h3|h3
   ·exact h.sep.disj i m R R3 hi h2 (Ne.symm hn2) b h3 hb2
   ·exact absurd ((h.see.rs m R3 h2).2 b hb2) (by omega)
  ·rw[show(⟨r.b,r.x,upd r.S i S'⟩:Env).S j=r.S j from e]at hb
   rw[show(⟨r.b,r.x,upd r.S i S'⟩:Env).S m=S' from e4]at hb2
   rcases(hS b hb2).1 with h3|h3
   ·exact h.sep.disj j i R2 R h1 hi hn1 b hb h3
   ·exact absurd ((h.see.rs j R2 h1).2 b hb) (by omega)
  ·rw[show(⟨r.b,r.x,upd r.S i S'⟩:Env).S j=r.S j from e]at hb
   rw[show(⟨r.b,r.x,upd r.S i S'⟩:Env).S m=r.S m from e4]at hb2
   exact h.sep.disj j m R2 R3 h1 h2 hne b hb hb2
 ·rcases hrs m R2 hm with⟨e1,_,e⟩|⟨hne,h1,e⟩
  ·rw[show(⟨r.b,r.x,upd r.S i S'⟩:Env).S m=S' from e]at hb
   have hbx:=(h.see.bs j p.1 p.2 hj).1.lt
   rcases(hS _ hb).1 with h2|h2
   ·exact h.sep.apart j i p R hj hi h2
   ·have:r.b j<w.heap.size:=hbx
    have h3:w.heap.size≤r.b j:=h2
    omega
  ·rw[show(⟨r.b,r.x,upd r.S i S'⟩:Env).S m=r.S m from e]at hb
   exact h.sep.apart j m p R2 hj h1 hb
theorem ag_turn(r:Env)(S:Nat→Nat→Prop): Ag σ r ⟨r.b,r.x,S⟩:=⟨fun _ _=>rfl,fun _ _=>rfl⟩
theorem le_turn(j:Nat)(R:Res): σ.le (outX j R σ):=⟨Nat.le_refl _,by simp[outX,setNth_len]⟩
theorem Sat.fresh{r:Env}{a:Act}{w w':World}{R:Res}{x:Value}{S:Nat→Prop}(h:Sat w0 σ r a w)(hb:Below w.heap.size w w')(hφ:R.φ x S w')(hS:∀b,S b→w.heap.size≤b∧b<w'.heap.size):
  Sat w0 (outN R σ) (r.add' σ ⟨0,x,S⟩) a w':=by
 have h1:Made (r.add' σ ⟨0,x,S⟩) ⟨.val undef,none,some R⟩ ⟨0,x,S⟩ w w':=⟨R.one x S w' hφ,(fun _ _ h=>nomatch h),(fun R' e=>by obtain rfl:=Option.some.inj e;exact⟨hφ,hS⟩),(fun _ _ h=>nomatch h)⟩
 have h2:σ.fits ⟨.val undef,none,some R⟩=true:=rfl
 exact⟨h.see.grow hb h2 h1,h.sep.grow h.see hb h1,h.defers⟩
theorem le_new(R:Res): σ.le (outN R σ):=⟨Nat.le_refl _,by simp[outN,snoc_eq]⟩
end
section
variable {w0:World} {σ:St}
def OpnOk{β:Type}(w0:World)(σ:St)(out:β→St): Prop:=∀r a w,Sat w0 σ r a w→∃b r',Sat w0 (out b) r' a w∧Ag σ r r'
theorem opn_nil{α:Type}(e k:Nat)(c:α→List Value): OpnOk w0 σ (fun _:Unit=>outN (rowR e k c ([]:List α) none 0) σ):=fun r a w hS =>
 ⟨(),_,hS.fresh (x:=.bool false) (S:=fun _=>False) (Below.refl _ _) (show _∧_∧_ from⟨rfl,World.ownsRow_nil w 0 e k,fun b=>⟨fun h=>h.elim,fun h=>by simp[Value.ownBlock]at h⟩⟩) (fun _ h=>h.elim),Ag.add _ _ _⟩
def offNth{α:Type}: List (Option α)→Nat→List (Option α)
 | [],_=>[]
 | _::l,0=>none::l
 | x::l,n+1=>x::offNth l n
theorem offNth_len{α:Type}: ∀(l:List (Option α)) (i:Nat),(offNth l i).length=l.length
 | [],_=>rfl
 | _::_,0=>rfl
 | _::l,n+1=>congrArg Nat.succ (offNth_len l n)
theorem nth_off{α:Type}: ∀ {l:List (Option α)} {i j:Nat} {z:α},nth (offNth l i) j=some z→j≠i∧nth l j=some z
 | [],_,_,_,h=>by cases h
 | _::_,0,0,_,h=>by cases h
 | _::_,0,_+1,_,h=>⟨by simp,h⟩
 | _::_,_+1,0,_,h=>⟨by simp,h⟩
 | _::l,i+1,j+1,_,h=>(nth_off (l:=l) (i:=i) (j:=j) h).imp (fun e=>by simpa using e) id
def putT(ds:List Nat)(s:SV)(l:List (Nat×SV)): List (Nat×SV):=match ds with
 | []=>l
 | d::ds=>(d,s)::putT ds s l
def hasB(σ:St)(b m:Nat): List Nat→Bool
 | []=>true
 | d::ds=>(match look d σ.ts with
  | some (.sli b' o n c)=>Nat.beq b' b&&Nat.beq o 0&&Nat.beq n m&&Nat.beq c m
  | _=>false)&&hasB σ b m ds
theorem look_putT{s u:SV}{k:Nat}{l:List (Nat×SV)}: ∀ {ds:List Nat},look k (putT ds s l)=some u→(k∈ds∧u=s)∨look k l=some u
 | [],h=>.inr h
 | d::ds,h=>by
  simp only[putT,look]at h
  cases e:Nat.beq d k with
  | true=>rw[e]at h;exact .inl ⟨by rw[← Nat.eq_of_beq_eq_true e];simp,(Option.some.inj h).symm⟩
  | false=>rw[e]at h;exact(look_putT (ds:=ds) h).imp (fun h=>⟨List.mem_cons_of_mem _ h.1,h.2⟩) id
theorem hasB_spec{b m:Nat}: ∀ {ds:List Nat},hasB σ b m ds=true→∀d,d∈ds→look d σ.ts=some (.sli b 0 m m)
 | [],_,_,h=>by cases h
 | d::ds,h,d',hd=>by
  obtain⟨h1,h2⟩:=Bool.and_eq_true_iff.1 h
  rcases List.mem_cons.1 hd with rfl|hd
  ·split at h1
   ·rename_i b' o n c e
    obtain⟨h1,h6⟩:=Bool.and_eq_true_iff.1 h1
    obtain⟨h1,h5⟩:=Bool.and_eq_true_iff.1 h1
    obtain⟨h3,h4⟩:=Bool.and_eq_true_iff.1 h1
    rw[e,Nat.eq_of_beq_eq_true h3,Nat.eq_of_beq_eq_true h4,Nat.eq_of_beq_eq_true h5,Nat.eq_of_beq_eq_true h6]
   ·cases h1
  ·exact hasB_spec h2 d' hd
def rowOf{α:Type}(b:Nat)(ds:List Nat)(e k:Nat)(c:α→List Value)(l:List α)(y:Hp)(σ:St): St:=⟨σ.n,putT ds (.val (.slice y.1 l.length y.2)) σ.ts,offNth σ.bs b,snoc σ.rs (some (rowR e k c l y.1 y.2))⟩
theorem opn_box{α:Type}{b m e k:Nat}{ds:List Nat}{c:α→List Value}{l:List α}{cs:List SV}(hb:nth σ.bs b=some (e,cs))(hp:okL (fun _=>false) (fun _=>false) cs=true)(hl:denL e0 cs=l.flatMap c)(hm:m=l.length)(hc:∀x,(c x).length=k)(hmax:l.length≤maxLen)(hds:hasB σ b m ds=true): OpnOk w0 σ (fun y:Hp=>rowOf b ds e k c l y σ):=fun r a w hS=>by
 subst hm
 have h1:=(hS.see.bs b e cs hb).1
 rw[plainL_den hp,hl]at h1
 have hbs:∀j p,nth (offNth σ.bs b) j=some p→j≠b∧nth σ.bs j=some p:=fun j p h=>nth_off h
 have hh:w.heap[r.b b]?=some (.cells (l.flatMap c).toArray e):=h1
 have hown:w.ownsRow 0 e k (.slice (some ⟨r.b b,0,none⟩) l.length l.length) l.length (l.flatMap c):=⟨flatMap_len hc l,.inr ⟨r.b b,l.length,(l.flatMap c).toArray,rfl,Nat.zero_le _,hh,Nat.le_refl _,hmax,by simpa using flatMap_len hc l,by simp[flatMap_len hc l,List.take_of_length_le]⟩⟩
 let γ:Gh:=⟨0,.bool false,fun g=>g=r.b b⟩
 have ag:Ag σ r (r.add' σ γ):=Ag.add σ r γ
 have hr1:∀j R,nth (snoc σ.rs (some (rowR e k c l (some ⟨r.b b,0,none⟩) l.length))) j=some R→(nth σ.rs j=some R∧(r.add' σ γ).x j=r.x j∧(r.add' σ γ).S j=r.S j)∨(R=rowR e k c l (some ⟨r.b b,0,none⟩) l.length∧j=σ.rs.length∧(r.add' σ γ).x j=.bool false∧(r.add' σ γ).S j=fun g=>g=r.b b):=fun j R hj=>by
  rw[snoc_eq]at hj
  rcases nth_app hj with h2|⟨rfl,h2⟩
  ·exact .inl ⟨h2,ag.2 j (nth_lt h2),upd_ne _ _ (Nat.ne_of_lt (nth_lt h2))⟩
  ·exact .inr ⟨(Option.some.inj h2).symm,rfl,upd_at _ _ _,upd_at _ _ _⟩
 have hown0:=hS.sep.own b _ hb
 refine⟨(some ⟨r.b b,0,none⟩,l.length),r.add' σ γ,⟨⟨hS.see.low,hS.see.size,fun j s hj=>?_,fun j t cs' hj=>?_,fun j R hj=>?_,fun j hj=>?_⟩,⟨fun j p hj=>?_,fun i j p q hi hj hne=>?_,fun j R hj g hg=>?_,fun i j R R' hi hj hne g hg hg2=>?_,fun i j p R hi hj hg=>?_⟩,hS.defers⟩,ag⟩
 ·rcases look_putT hj with⟨h2,rfl⟩|h2
  ·obtain⟨h3,_⟩:=hS.see.ts j _ (hasB_spec hds j h2)
   exact⟨h3,rfl⟩
  ·obtain⟨h3,h4⟩:=hS.see.ts j s h2
   refine⟨by rw[ag.den h4];exact h3,ok_mono (fun i hi=>?_) (fun i hi=>?_) s h4⟩
   ·show Nat.blt i (offNth σ.bs b).length=true
    rw[offNth_len];exact hi
   ·show Nat.blt i (snoc σ.rs _).length=true
    exact lt_blt (by rw[snoc_eq,List.length_append];have:=blt_lt hi;simp;omega)
 ·obtain⟨hne,h2⟩:=hbs j _ hj
  obtain⟨h3,h4⟩:=hS.see.bs j t cs' h2
  refine⟨?_,okL_mono (fun i hi=>?_) (fun i hi=>?_) cs' h4⟩
  ·rw[ag.1 j (nth_lt h2),denL_congr (r:=r.add' σ γ) (r':=r) (β:=fun i=>Nat.blt i σ.bs.length) (ξ:=fun i=>Nat.blt i σ.rs.length) (fun i hi=>ag.1 i (blt_lt hi)) (fun i hi=>ag.2 i (blt_lt hi)) cs' h4]
   exact h3
  ·show Nat.blt i (offNth σ.bs b).length=true
   rw[offNth_len];exact hi
  ·show Nat.blt i (snoc σ.rs _).length=true
   exact lt_blt (by rw[snoc_eq,List.length_append];have:=blt_lt hi;simp;omega)
 ·rcases hr1 j R hj with⟨h2,h3,h4⟩|⟨rfl,_,h3,h4⟩
  ·rw[h3,h4];exact hS.see.rs j R h2
  ·rw[h3,h4]
   exact⟨(show _∧_∧_ from⟨rfl,hown,fun g=>⟨fun h=>by rw[h];rfl,fun h=>by simpa [Value.ownBlock,eq_comm]using h⟩⟩),fun g hg=>by rw[hg];exact h1.lt⟩
 ·have hj':j<σ.rs.length+1:=by
   have h2:j<(snoc σ.rs (some (rowR e k c l (some ⟨r.b b,0,none⟩) l.length))).length:=hj
   rw[snoc_eq]at h2
   simpa using h2
  rcases Nat.lt_or_ge j σ.rs.length with h2|h2
  ·rw[ag.2 j h2];exact hS.see.one j h2
  ·have:j=σ.rs.length:=by omega
   subst this
   rw[show(r.add' σ γ).x σ.rs.length=.bool false from upd_at _ _ _]
   rfl
 ·obtain⟨_,h2⟩:=hbs j p hj
  rw[ag.1 j (nth_lt h2)]
  exact hS.sep.own j p h2
 ·obtain⟨_,h2⟩:=hbs i p hi
  obtain⟨_,h3⟩:=hbs j q hj
  rw[ag.1 i (nth_lt h2),ag.1 j (nth_lt h3)]
  exact hS.sep.inj i j p q h2 h3 hne
 ·rcases hr1 j R hj with⟨h2,_,h4⟩|⟨rfl,_,_,h4⟩
  ·rw[h4]at hg;exact hS.sep.ownS j R h2 g hg
  ·rw[h4]at hg;rw[hg];exact hown0
 ·rcases hr1 i R hi with⟨h2,_,h4⟩|⟨rfl,e2,_,h4⟩<;>rcases hr1 j R' hj with⟨h5,_,h6⟩|⟨rfl,e5,_,h6⟩
  ·rw[h4]at hg;rw[h6]at hg2
   exact hS.sep.disj i j R R' h2 h5 hne g hg hg2
  ·rw[h4]at hg;rw[h6]at hg2
   subst hg2
   exact hS.sep.apart b i _ R hb h2 hg
  ·rw[h4]at hg;rw[h6]at hg2
   subst hg
   exact hS.sep.apart b j _ R' hb h5 hg2
  ·exact hne (e2.trans e5.symm)
 ·obtain⟨hne,h2⟩:=hbs i p hi
  rw[ag.1 i (nth_lt h2)]at hg
  rcases hr1 j R hj with⟨h5,_,h6⟩|⟨rfl,_,_,h6⟩
  ·rw[h6]at hg;exact hS.sep.apart i j p R h2 h5 hg
  ·rw[h6]at hg
   exact hS.sep.inj i b p _ h2 hb hne hg
def rowK{α:Type}(σ:St)(b:Nat)(ds:List Nat)(e k:Nat)(c:α→List Value)(l:List α)(K:(Hp→St)→Prop): Prop:=optK (nth σ.bs b) fun p=>ifB (Nat.beq p.1 e&&okL (fun _=>false) (fun _=>false) p.2&&hasB σ b l.length ds) (denL e0 p.2=l.flatMap c∧((∀x,(c x).length=k)∧l.length≤maxLen)∧K fun y=>rowOf b ds e k c l y σ)
theorem rowK_spec{α:Type}{b:Nat}{ds:List Nat}{e k:Nat}{c:α→List Value}{l:List α}{K:(Hp→St)→Prop}(h:rowK σ b ds e k c l K): OpnOk w0 σ (fun y:Hp=>rowOf b ds e k c l y σ)∧K fun y=>rowOf b ds e k c l y σ:=by
 obtain⟨⟨t,cs⟩,hb,h⟩:=optK_spec h
 obtain⟨hc,h1,⟨h2,h3⟩,h4⟩:=ifB_spec h
 obtain⟨hc,c3⟩:=Bool.and_eq_true_iff.1 hc
 obtain⟨c1,c2⟩:=Bool.and_eq_true_iff.1 hc
 have e1:t=e:=Nat.eq_of_beq_eq_true c1
 subst e1
 exact⟨opn_box hb c2 h1 rfl h2 h3 c3,h4⟩
theorem le_row{α:Type}(b:Nat)(ds:List Nat)(e k:Nat)(c:α→List Value)(l:List α)(y:Hp): σ.le (rowOf b ds e k c l y σ):=⟨by simp[rowOf,offNth_len],by simp[rowOf,snoc_eq]⟩
def pairR(R1 R2:Res): Res where
 φ x S w:=∃S1 S2 x2,R1.φ x S1 w∧R2.φ x2 S2 w∧(∀b,S1 b→¬ S2 b)∧∀b,S b↔S1 b∨S2 b
 one x S w h:=by
  obtain⟨S1,_,_,h1,_⟩:=h
  exact R1.one x S1 w h1
 loc x S w w' h hφ:=by
  obtain⟨S1,S2,x2,h1,h2,h3,h4⟩:=hφ
  exact⟨S1,S2,x2,R1.loc _ _ _ _ (fun b hb=>h b ((h4 b).2 (.inl hb))) h1,R2.loc _ _ _ _ (fun b hb=>h b ((h4 b).2 (.inr hb))) h2,h3,h4⟩
def joinS(x y:Nat)(R1 R2:Res)(σ:St): St:={ σ with rs:=setNth (offNth σ.rs y) x (pairR R1 R2) }
theorem join_ok{x y:Nat}{R1 R2:Res}(hx:nth σ.rs x=some R1)(hy:nth σ.rs y=some R2)(hne:x≠y){r:Env}{a:Act}{w:World}(hS:Sat w0 σ r a w): ∃r',Sat w0 (joinS x y R1 R2 σ) r' a w∧Ag σ r r':=by
 let S:Nat→Prop:=fun b=>r.S x b∨r.S y b
 have hlen:(joinS x y R1 R2 σ).rs.length=σ.rs.length:=by simp[joinS,setNth_len,offNth_len]
 have hlt:∀s,(joinS x y R1 R2 σ).lt s=σ.lt s:=fun s=>by simp only[St.lt,hlen];rfl
 have hltL:∀s,(joinS x y R1 R2 σ).ltL s=σ.ltL s:=fun s=>by simp only[St.ltL,hlen];rfl
 have hrs:∀j R,nth (joinS x y R1 R2 σ).rs j=some R→(j=x∧R=pairR R1 R2∧upd r.S x S j=S)∨(j≠x∧j≠y∧nth σ.rs j=some R∧upd r.S x S j=r.S j):=fun j R hj=>by
  rcases nth_set hj with⟨e1,e2⟩|⟨e1,e2⟩
  ·subst e1;exact .inl ⟨rfl,e2,upd_at _ _ _⟩
  ·obtain⟨h1,h2⟩:=nth_off e2
   exact .inr ⟨e1,h1,h2,upd_ne _ _ e1⟩
 obtain⟨f1,f2⟩:=hS.see.rs x R1 hx
 obtain⟨g1,g2⟩:=hS.see.rs y R2 hy
 have dis:=hS.sep.disj x y R1 R2 hx hy hne
 have far:∀j R,nth σ.rs j=some R→j≠x→j≠y→∀b,r.S j b→¬ S b:=fun j R hj h1 h2 b hb hs=>by
  rcases hs with hs|hs
  ·exact hS.sep.disj j x R R1 hj hx h1 b hb hs
  ·exact hS.sep.disj j y R R2 hj hy h2 b hb hs
 refine⟨⟨r.b,r.x,upd r.S x S⟩,⟨⟨hS.see.low,hS.see.size,fun k s hk=>?_,fun j t cs hj=>?_,fun j R hj=>?_,fun j hj=>hS.see.one j (by rwa [hlen]at hj)⟩,⟨hS.sep.own,hS.sep.inj,fun j R hj b hb=>?_,fun j m R R' hj hm hn b hb hb2=>?_,fun j m p R hj hm hb=>?_⟩,hS.defers⟩,ag_turn r _⟩
 ·obtain⟨h1,h2⟩:=hS.see.ts k s hk
  exact⟨by rw[env_turn];exact h1,by rw[hlt];exact h2⟩
 ·obtain⟨h1,h2⟩:=hS.see.bs j t cs hj
  exact⟨by rw[env_turnL];exact h1,by rw[hltL];exact h2⟩
 ·rcases hrs j R hj with⟨rfl,rfl,e⟩|⟨h1,h2,h3,e⟩
  ·rw[show(⟨r.b,r.x,upd r.S j S⟩:Env).S j=S from e]
   exact⟨(show ∃S1 S2 x2,_ from⟨_,_,_,f1,g1,dis,fun _=>Iff.rfl⟩),fun b hb=>hb.elim (f2 b) (g2 b)⟩
  ·rw[show(⟨r.b,r.x,upd r.S x S⟩:Env).S j=r.S j from e]
   exact hS.see.rs j R h3
 ·rcases hrs j R hj with⟨rfl,rfl,e⟩|⟨h1,h2,h3,e⟩
  ·rw[show(⟨r.b,r.x,upd r.S j S⟩:Env).S j=S from e]at hb
   exact hb.elim (hS.sep.ownS j R1 hx b) (hS.sep.ownS y R2 hy b)
  ·rw[show(⟨r.b,r.x,upd r.S x S⟩:Env).S j=r.S j from e]at hb
   exact hS.sep.ownS j R h3 b hb
 ·rcases hrs j R hj with⟨e1,_,e⟩|⟨h1,h2,h3,e⟩<;>rcases hrs m R' hm with⟨e2,_,e'⟩|⟨h4,h5,h6,e'⟩
  ·exact hn (e1.trans e2.symm)
  ·rw[show(⟨r.b,r.x,upd r.S x S⟩:Env).S j=S from e]at hb
   rw[show(⟨r.b,r.x,upd r.S x S⟩:Env).S m=r.S m from e']at hb2
   exact far m R' h6 h4 h5 b hb2 hb
  ·rw[show(⟨r.b,r.x,upd r.S x S⟩:Env).S j=r.S j from e]at hb
   rw[show(⟨r.b,r.x,upd r.S x S⟩:Env).S m=S from e']at hb2
   exact far j R h3 h1 h2 b hb hb2
  ·rw[show(⟨r.b,r.x,upd r.S x S⟩:Env).S j=r.S j from e]at hb
   rw[show(⟨r.b,r.x,upd r.S x S⟩:Env).S m=r.S m from e']at hb2
   exact hS.sep.disj j m R R' h3 h6 hn b hb hb2
 ·rcases hrs m R hm with⟨e1,_,e⟩|⟨h1,h2,h3,e⟩
  ·rw[show(⟨r.b,r.x,upd r.S x S⟩:Env).S m=S from e]at hb
   exact hb.elim (hS.sep.apart j x p R1 hj hx) (hS.sep.apart j y p R2 hj hy)
  ·rw[show(⟨r.b,r.x,upd r.S x S⟩:Env).S m=r.S m from e]at hb
   exact hS.sep.apart j m p R hj h3 hb
def joinK(σ:St)(x y:Nat)(K:St→Prop): Prop:=optK (nth σ.rs x) fun R1=>optK (nth σ.rs y) fun R2=>ifB (!Nat.beq x y) (K (joinS x y R1 R2 σ))
def cnvK(σ:St)(x:Nat)(R:Res)(K:St→Prop): Prop:=optK (nth σ.rs x) fun R0=>(∀u S w,R0.φ u S w→R.φ u S w)∧K (outX x R σ)
theorem joinK_spec{x y:Nat}{K:St→Prop}(h:joinK σ x y K){r:Env}{a:Act}{w:World}(hS:Sat w0 σ r a w): ∃σ' r',K σ'∧Sat w0 σ' r' a w∧Ag σ r r'∧σ.le σ':=by
 obtain⟨R1,h1,h⟩:=optK_spec h
 obtain⟨R2,h2,h⟩:=optK_spec h
 obtain⟨h3,h⟩:=ifB_spec h
 have hne:x≠y:=fun e=>by subst e;rw[Nat.beq_refl]at h3;cases h3
 obtain⟨r',h4,h5⟩:=join_ok h1 h2 hne hS
 exact⟨_,r',h,h4,h5,⟨Nat.le_refl _,by simp[joinS,setNth_len,offNth_len]⟩⟩
theorem cnvK_spec{x:Nat}{R:Res}{K:St→Prop}(h:cnvK σ x R K){r:Env}{a:Act}{w:World}(hS:Sat w0 σ r a w): ∃σ' r',K σ'∧Sat w0 σ' r' a w∧Ag σ r r'∧σ.le σ':=by
 obtain⟨R0,h1,h2,h⟩:=optK_spec h
 obtain⟨h3,h4⟩:=hS.see.rs x R0 h1
 exact⟨_,_,h,hS.turn h1 (Trn.refl _ _) (h2 _ _ _ h3) (fun b hb=>⟨.inl hb,h4 b hb⟩),ag_turn r _,le_turn x R⟩
end
mutual
def SV.sub(j:Nat)(v:Value): SV→SV
 | .val x=>.val x
 | .ptr b o=>.ptr b o
 | .sli b o n c=>.sli b o n c
 | .clo f l m=>.clo f (subLs j v l) (subLs j v m)
 | .agg l=>.agg (subLs j v l)
 | .tup l=>.tup (subLs j v l)
 | .han i=>match Nat.beq i j with
  | true=>.val v
  | false=>.han i
def subLs(j:Nat)(v:Value): List SV→List SV
 | []=>[]
 | s::l=>s.sub j v::subLs j v l
end
mutual
theorem sub_den{r:Env}{j:Nat}{v:Value}(h:r.x j=v): ∀s:SV,(s.sub j v).den r=s.den r
 | .val _=>rfl
 | .ptr _ _=>rfl
 | .sli _ _ _ _=>rfl
 | .clo f l m=>by simp only[SV.sub,SV.den,subLs_den h l,subLs_den h m]
 | .agg l=>by simp only[SV.sub,SV.den,subLs_den h l]
 | .tup l=>by simp only[SV.sub,SV.den,subLs_den h l]
 | .han i=>by
  simp only[SV.sub]
  split
  ·rename_i e
   rw[Nat.eq_of_beq_eq_true e]
   exact h.symm
  ·rfl
theorem subLs_den{r:Env}{j:Nat}{v:Value}(h:r.x j=v): ∀l:List SV,denL r (subLs j v l)=denL r l
 | []=>rfl
 | s::l=>by simp only[subLs,denL,sub_den h s,subLs_den h l]
end
mutual
theorem sub_ok{β ξ:Nat→Bool}{j:Nat}{v:Value}: ∀s:SV,s.ok β ξ=true→(s.sub j v).ok β ξ=true
 | .val _,h=>h
 | .ptr _ _,h=>h
 | .sli _ _ _ _,h=>h
 | .clo f l m,h=>by
  obtain⟨h1,h2⟩:=Bool.and_eq_true_iff.1 h
  exact Bool.and_eq_true_iff.2 ⟨subLs_ok l h1,subLs_ok m h2⟩
 | .agg l,h=>subLs_ok l h
 | .tup l,h=>subLs_ok l h
 | .han i,h=>by
  simp only[SV.sub]
  split
  ·rfl
  ·exact h
theorem subLs_ok{β ξ:Nat→Bool}{j:Nat}{v:Value}: ∀l:List SV,okL β ξ l=true→okL β ξ (subLs j v l)=true
 | [],_=>rfl
 | s::l,h=>by
  obtain⟨h1,h2⟩:=Bool.and_eq_true_iff.1 h
  exact Bool.and_eq_true_iff.2 ⟨sub_ok s h1,subLs_ok l h2⟩
end
def substS(j:Nat)(v:Value)(σ:St): St:={ σ with ts:=σ.ts.map fun p=>(p.1,p.2.sub j v),bs:=σ.bs.map fun o=>o.map fun p=>(p.1,subLs j v p.2) }
theorem look_sub{j:Nat}{v:Value}: ∀ {l:List (Nat×SV)} {k:Nat} {s:SV},look k (l.map fun p=>(p.1,p.2.sub j v))=some s→∃s',look k l=some s'∧s=s'.sub j v
 | [],_,_,h=>by cases h
 | (i,u)::l,k,s,h=>by
  simp only[List.map_cons,look]at h ⊢
  cases e:Nat.beq i k with
  | true =>
   rw[e]at h
   exact⟨u,rfl,(Option.some.inj h).symm⟩
  | false =>
   rw[e]at h
   exact look_sub (l:=l) h
theorem nth_sub{j:Nat}{v:Value}: ∀ {l:List (Option (TypeId×List SV))} {i:Nat} {t:TypeId} {cs:List SV},nth (l.map fun o=>o.map fun p=>(p.1,subLs j v p.2)) i=some (t,cs)→∃cs',nth l i=some (t,cs')∧cs=subLs j v cs'
 | [],_,_,_,h=>by cases h
 | x::_,0,t,cs,h=>by
  cases x with
  | none=>cases h
  | some p =>
   obtain⟨t',cs'⟩:=p
   have h1:=Option.some.inj h
   injection h1 with h1 h2
   subst h1
   exact⟨cs',rfl,h2.symm⟩
 | _::l,i+1,t,cs,h=>nth_sub (l:=l) (i:=i) h
section
variable {w0:World} {σ:St}
theorem Sat.subst{r:Env}{a:Act}{w:World}{j:Nat}{v:Value}(h:Sat w0 σ r a w)(hx:r.x j=v): Sat w0 (substS j v σ) r a w:=by
 have hb:(substS j v σ).bs.length=σ.bs.length:=by simp[substS]
 have hlt:∀s,σ.lt s=true→(substS j v σ).lt (s.sub j v)=true:=fun s hs=>by
  unfold St.lt at hs ⊢
  rw[hb]
  exact sub_ok s hs
 have hltL:∀l,σ.ltL l=true→(substS j v σ).ltL (subLs j v l)=true:=fun l hs=>by
  unfold St.ltL at hs ⊢
  rw[hb]
  exact subLs_ok l hs
 have hn:∀i p,nth (substS j v σ).bs i=some p→∃q,nth σ.bs i=some q:=fun i p hi=>by
  obtain⟨cs',h1,_⟩:=nth_sub (t:=p.1) (cs:=p.2) hi
  exact⟨_,h1⟩
 refine⟨⟨h.see.low,h.see.size,fun k s hk=>?_,fun i t cs hi=>?_,h.see.rs,h.see.one⟩,⟨fun i p hi=>?_,fun i k p q hi hk=>?_,h.sep.ownS,h.sep.disj,fun i k p R hi hk=>?_⟩,h.defers⟩
 ·obtain⟨s',h1,rfl⟩:=look_sub hk
  obtain⟨h2,h3⟩:=h.see.ts k s' h1
  exact⟨by rw[sub_den hx];exact h2,hlt s' h3⟩
 ·obtain⟨cs',h1,rfl⟩:=nth_sub hi
  obtain⟨h2,h3⟩:=h.see.bs i t cs' h1
  exact⟨by rw[subLs_den hx];exact h2,hltL cs' h3⟩
 ·obtain⟨q,h1⟩:=hn i p hi;exact h.sep.own i q h1
 ·obtain⟨z,h1⟩:=hn i p hi;obtain⟨z',h2⟩:=hn k q hk;exact h.sep.inj i k z z' h1 h2
 ·obtain⟨z,h1⟩:=hn i p hi;exact h.sep.apart i k z R h1 hk
theorem le_subst(j:Nat)(v:Value)(σ:St): σ.le (substS j v σ):=⟨by simp[substS],Nat.le_refl _⟩
def opnK{β:Type}(σ:St)(j:Nat)(val:β→Value)(R:β→Res)(K:(β→St)→Prop): Prop:=optK (nth σ.rs j) fun ρ=>(∀x S w,ρ.φ x S w→∃y,x=val y∧(R y).φ x S w)∧K fun y=>substS j (val y) (outX j (R y) σ)
theorem opnK_spec{β:Type}{j:Nat}{val:β→Value}{R:β→Res}{K:(β→St)→Prop}(h:opnK σ j val R K){r:Env}{a:Act}{w:World}(hS:Sat w0 σ r a w): ∃out y r',K out∧Sat w0 (out y) r' a w∧Ag σ r r'∧σ.le (out y):=by
 obtain⟨R0,h1,h2,h⟩:=optK_spec h
 obtain⟨h3,h4⟩:=hS.see.rs j R0 h1
 obtain⟨y,h5,h6⟩:=h2 _ _ _ h3
 refine⟨_,y,_,h,(hS.turn h1 (Trn.refl _ _) h6 (fun b hb=>⟨.inl hb,h4 b hb⟩)).subst h5,ag_turn r _,((le_turn j (R y)).trans (le_subst _ _ _))⟩
end
open Go Go.RowKit
inductive Dir:Type 1 where
 | o (rid i:Nat) (x:DOp)
 | g (rid i:Nat) (b:Bool)
 | gb (rid i:Nat) (x y:List Dir)
 | reg (n:Nat) (late:List Nat)
 | br (b:Bool)
 | both (x y:List Dir)
 | loop {α:Type} (I:α→St) (C:α→Prop) (μ:α→Nat) (a0:α) (nx:α→Nat→α) (bd:α→List Dir)
 | next (k:Nat)
 | seq (rid i:Nat) (σ':St)
 | eff {β:Type} (rid i j:Nat) (val:β→Value) (R:β→Res) (bd:β→List Dir)
 | mk {β:Type} (rid i:Nat) (is:List Nat) (val:β→Value) (R:β→Res) (bd:β→List Dir)
 | inl (rid i:Nat) (fn:Func)
 | lop {α:Type} (I:α→St) (C:α→Prop) (μ:α→Nat) (a0:α) (nx:α→List Hp→α) (bd:α→List Dir)
 | nxt (u:List Hp)
 | row {α:Type} (rid i b:Nat) (ds:List Nat) (e k:Nat) (c:α→List Value) (l:List α) (bd:Hp→List Dir)
 | nil {α:Type} (rid i e k:Nat) (c:α→List Value)
 | join (rid i x y:Nat)
 | cnv (rid i x:Nat) (R:Res)
 | esc (at_:Nat)
 | opn {β:Type} (rid i j:Nat) (val:β→Value) (R:β→Res) (bd:β→List Dir)
 | unr (n:Nat)
def keyB(r j rid i:Nat): Bool:=Nat.beq r rid&&Nat.beq j i
def quietK(P:Program)(tt:List (Nat×TI))(w0:World)(rid i:Nat)(o:Oper)(σ:St)(d:List Dir)(K:Out→List Dir→Prop): Prop:=match d with
 | .o r j x::d'=>bif keyB r j rid i then opD P tt w0 σ o x (fun out=>K out d')else opQ tt σ o.op (fun out=>K out d)
 | d=>opQ tt σ o.op (fun out=>K out d)
def boolS(σ:St)(ops:Array Oper)(g:Nat): Option Bool:=match ops[g]? with
 | some og=>(match og.dst with
  | some t=>(match look t σ.ts with
   | some (.val (.bool x))=>some x
   | _=>none)
  | none=>none)
 | none=>none
def undefS(σ:St)(ops:Array Oper)(g:Nat): Bool:=match ops[g]? with
 | some og=>(match og.dst with
  | some t=>(match look t σ.ts with
   | some (.val (.tuple _))=>true
   | _=>false)
  | none=>false)
 | none=>false
def litK(x c:Bool)(K:Bool→Prop): Prop:=match x with
 | true=>K c
 | false=>K (!c)
def guardK(ops:Array Oper)(o:Oper)(rid i:Nat)(σ:St)(d:List Dir)(K:Bool→List Dir→Prop): Prop:=match o.guard with
 | none=>K true d
 | some (g,c)=>(match boolS σ ops g with
  | some x=>(match d with
   | .g r j b::d'=>bif keyB r j rid i then x=(bif b then c else !c)∧K b d' else litK x c fun b=>K b d
   | .gb r j dx dy::_=>bif keyB r j rid i then(x=c→K true dx)∧(x=(!c)→K false dy)else litK x c fun b=>K b d
   | d=>litK x c fun b=>K b d)
  | none=>ifB (undefS σ ops g) (K false d))
def dstB(d:Option Tmp)(n:Nat): Bool:=match d with
 | none=>true
 | some k=>Nat.blt k n
def storeK(tt:List (Nat×TI))(σ:St)(t:TypeId)(x y:Operand)(K:St→Prop): Prop:=evK σ x fun s=>match s with
 | .ptr b o=>optK (nth σ.bs b) fun p=>evK σ y fun u=>tiK tt t fun ti=>ifB (Nat.beq u.cells.length ti.size&&Nat.ble (o+ti.size) p.2.length&&u.cells.all SV.okCell) (K { σ with bs:=setNth σ.bs b (p.1,spl p.2 o u.cells) })
 | _=>False
def SeqOk(P:Program)(w0:World)(o:Oper)(σ σ':St): Prop:=∀r a w,Sat w0 σ r a w→∀(Q:Exit→Act→World→Prop) (next:Act→World→Prop),(∀r' a' w',Sat w0 σ' r' a' w'→Ag σ r r'→next a' w')→o.wp P a w next Q
def stsem(t:TypeId)(l:List Value): Sem Value:=match l with
 | [p,v]=>do Instr.storeAt t p v;pure undef
 | _=>stuck ""
def EffR{β:Type}(P:Program)(W:World)(val:β→Value)(R:β→Res)(x:Value)(S:Nat→Prop)(m:Sem Value): Prop:=∃y S' w',m.run P W=.ok (val y) w'∧Trn S W w'∧(R y).φ x S' w'∧∀b,S' b→(S b∨W.heap.size≤b)∧b<w'.heap.size
def EffP{β:Type}(P:Program)(w0:World)(σ:St)(R0:Res)(l:List SV)(m:List Value→Sem Value)(val:β→Value)(R:β→Res): Prop:=∀W,Below w0.heap.size w0 W→boxK σ W (refsL l []) (fun _=>0) fun β =>
 ifB' (okL (fun b=>memB b (refsL l [])) (fun _=>false) l) (∀x S,R0.φ x S W→EffR P W val R x S (m (denL (envB β) l)))
def NewP{β:Type}(P:Program)(w0:World)(l:List Res)(val:β→Value)(R:β→Res)(m:Sem Value): Prop:=∀W,Below w0.heap.size w0 W→resW W l (NewR P W val R m)
abbrev Inl:Type 1:=Func→List SV→St→List Dir→(SV→St→List Dir→Prop)→(SV→St→List Dir→Prop)→Prop
structure Cx:Type 1 where
 inl:Inl
 pan:SV→St→List Dir→Prop
def panK(σ:St)(x:Operand)(K:SV→Prop): Prop:=evK σ x fun s=>match s with
 | .val (.iface _ _)=>K s
 | _=>False
def specB(rid i:Nat): List Dir→Bool
 | .seq r j _::_=>keyB r j rid i
 | .eff r j _ _ _ _::_=>keyB r j rid i
 | .mk r j _ _ _ _::_=>keyB r j rid i
 | .inl r j _::_=>keyB r j rid i
 | _=>false
def specK(P:Program)(H:Cx)(w0:World)(o:Oper)(σ:St)(d:List Dir)(K:St→List Dir→Prop): Prop:=match d with
 | .seq _ _ σ'::d'=>SeqOk P w0 o σ σ'∧ifB (leB σ σ') (K σ' d')
 | .eff _ _ j val R bd::_=>optK (nth σ.rs j) fun R0=>ifB (dstB o.dst σ.n) (match o.op with
  | .call c=>(match c.callee with
   | .builtin b=>evL σ c.args.toList fun l=>EffP P w0 σ R0 l (bsem b c.argTypes o.type) val R∧∀y,K ((outX j (R y) σ).push o.dst (.val (val y))) (bd y)
   | _=>False)
  | .store t x y=>evL σ [x,y] fun l=>EffP P w0 σ R0 l (stsem t) (fun _=>undef) R∧∀y,K ((outX j (R y) σ).push o.dst (.val undef)) (bd y)
  | .slice t x lo hi mx=>evL σ [x] fun l=>vO σ lo fun a=>vO σ hi fun b=>vO σ mx fun c=>EffP P w0 σ R0 l (fun l=>Instr.sliceAt t (l.headD undef) a b c) val R∧∀y,K ((outX j (R y) σ).push o.dst (.val (val y))) (bd y)
  | .next it isS=>evL σ [it] fun l=>EffP P w0 σ R0 l (fun l=>Instr.next (l.headD undef) isS o.type) val R∧∀y,K ((outX j (R y) σ).push o.dst (.val (val y))) (bd y)
  | _=>False)
 | .mk _ _ is val R bd::_=>ifB (dstB o.dst σ.n) (resK σ is fun m=>match o.op with
  | .call c=>(match c.callee with
   | .builtin b=>vL σ c.args.toList fun l=>NewP P w0 m val R (bsem b c.argTypes o.type l)∧∀y,K ((outN (R y) σ).push o.dst (.val (val y))) (bd y)
   | _=>calleeK σ c fun f l=>ifB (okL (fun _=>false) (fun _=>false) l) (NewIn P w0 m f (denL e0 l).toArray val R∧∀y,K ((outN (R y) σ).push o.dst (.val (val y))) (bd y)))
  | .makeSlice t x y=>v1 σ x fun a=>v1 σ y fun b=>NewP P w0 m val R (Instr.makeSlice t a b)∧∀y,K ((outN (R y) σ).push o.dst (.val (val y))) (bd y)
  | .convert s t x=>v1 σ x fun a=>NewP P w0 m val R (Go.convert s t a)∧∀y,K ((outN (R y) σ).push o.dst (.val (val y))) (bd y)
  | .range t x=>v1 σ x fun a=>NewP P w0 m val R (Instr.range t a)∧∀y,K ((outN (R y) σ).push o.dst (.val (val y))) (bd y)
  | _=>False)
 | .inl _ _ fn::d'=>(match o.op with
  | .call c=>calleeK σ c fun f l=>P.funcs[f]?=some fn∧Enters P f∧ifB (σ.ltL l&&dstB o.dst σ.n) (H.inl fn l σ d' (fun s σ' d''=>K (({ σ with bs:=σ'.bs,rs:=σ'.rs }:St).push o.dst s) d'') fun s σ' d''=>H.pan s { σ with bs:=σ'.bs,rs:=σ'.rs } d'')
  | _=>False)
 | _=>False
def ghostK(rid i:Nat): Nat→St→List Dir→(St→List Dir→Prop)→Prop
 | 0,σ,d,K=>K σ d
 | n+1,σ,d,K=>match d with
  | .row r j b ds e k c l bd::d'=>(match keyB r j rid i with
   | true=>rowK σ b ds e k c l fun out=>∀y,ghostK rid i n (out y) (bd y) K
   | false=>K σ (.row r j b ds e k c l bd::d'))
  | .nil r j e k c::d'=>(match keyB r j rid i with
   | true=>ghostK rid i n (outN (rowR e k c [] none 0) σ) d' K
   | false=>K σ (.nil r j e k c::d'))
  | .join r j x y::d'=>(match keyB r j rid i with
   | true=>joinK σ x y fun σ'=>ghostK rid i n σ' d' K
   | false=>K σ (.join r j x y::d'))
  | .cnv r j x R::d'=>(match keyB r j rid i with
   | true=>cnvK σ x R fun σ'=>ghostK rid i n σ' d' K
   | false=>K σ (.cnv r j x R::d'))
  | .opn r i' j val R bd::d'=>(match keyB r i' rid i with
   | true=>opnK σ j val R fun out=>∀y,ghostK rid i n (out y) (bd y) K
   | false=>K σ (.opn r i' j val R bd::d'))
  | d=>K σ d
def step1(P:Program)(tt:List (Nat×TI))(H:Cx)(w0:World)(rid i:Nat)(o:Oper)(σ:St)(d:List Dir)(K:St→List Dir→Prop): Prop:=match specB rid i d with
 | true=>specK P H w0 o σ d K
 | false=>(match o.op with
  | .store t x y=>ifB (dstB o.dst σ.n) (storeK tt σ t x y fun σ'=>K (σ'.push o.dst (.val undef)) d)
  | .panic x=>panK σ x fun s=>H.pan s σ d
  | _=>ifB (dstB o.dst σ.n) (quietK P tt w0 rid i o σ d fun out d'=>ifB (σ.fits out) (K ((σ.grow out).push o.dst out.s) d')))
def execL(P:Program)(tt:List (Nat×TI))(H:Cx)(w0:World)(rid:Nat)(ops:Array Oper): List Oper→Nat→St→List Dir→(St→List Dir→Prop)→Prop
 | [],_,σ,d,K=>K σ d
 | o::l,i,σ,d,K=>guardK ops o rid i σ d fun b d=>match b with
  | true=>ghostK rid i 4 σ d fun σ d=>step1 P tt H w0 rid i o σ d fun σ d=>execL P tt H w0 rid ops l (i+1) σ d K
  | false=>ifB (dstB o.dst σ.n) (execL P tt H w0 rid ops l (i+1) (σ.push o.dst (.val undef)) d K)
section
variable {P:Program} {tt:List (Nat×TI)} {w0:World} {σ:St}
theorem quietK_ok(hT:TTOk P tt){rid i:Nat}{o:Oper}{d:List Dir}{K:Out→List Dir→Prop}(hK:∀out d,K out d→σ.fits out=true)(h:quietK P tt w0 rid i o σ d K): ∃d',QOk P w0 o σ fun out=>K out d':=by
 unfold quietK at h
 split at h
 ·rename_i r j x d'
  cases hk:keyB r j rid i with
  | true=>rw[hk]at h;exact⟨d',opD_ok hT (fun out=>hK out d') h⟩
  | false=>rw[hk]at h;exact⟨_,opQ_ok hT (fun out=>hK out _) h⟩
 ·exact⟨_,opQ_ok hT (fun out=>hK out _) h⟩
theorem boolS_spec{ops:Array Oper}{g:Nat}{x:Bool}(h:boolS σ ops g=some x){r:Env}{a:Act}{w:World}(hw:See w0 σ r a w): yielded ops a.tmps g=some x:=by
 unfold boolS at h
 split at h
 ·rename_i og h1
  split at h
  ·rename_i t h2
   split at h
   ·rename_i y h3
    obtain rfl:=Option.some.inj h
    have h4:=(hw.ts _ _ h3).1
    unfold yielded
    rw[h1,Option.bind_some,h2,Option.bind_some]
    have h5:a.tmps[t]?=some (.bool y):=by
     rcases Nat.lt_or_ge t a.tmps.size with hl|hl
     ·simp[hl]at h4 ⊢;exact h4
     ·simp[hl,SV.den,undef]at h4
    rw[h5]
   ·cases h
  ·cases h
 ·cases h
theorem undefS_spec{ops:Array Oper}{g:Nat}(h:undefS σ ops g=true){r:Env}{a:Act}{w:World}(hw:See w0 σ r a w): yielded ops a.tmps g=none:=by
 unfold undefS at h
 split at h
 ·rename_i og h1
  split at h
  ·rename_i t h2
   split at h
   ·rename_i y h3
    have h4:=(hw.ts _ _ h3).1
    unfold yielded
    rw[h1,Option.bind_some,h2,Option.bind_some]
    rcases Nat.lt_or_ge t a.tmps.size with hl|hl
    ·have h5:a.tmps[t]?=some (.tuple y):=by simp[hl]at h4 ⊢;exact h4
     rw[h5]
    ·have h5:a.tmps[t]?=none:=by simp[hl]
     rw[h5]
   ·cases h
  ·cases h
 ·cases h
theorem guardK_spec{ops:Array Oper}{o:Oper}{rid i:Nat}{d:List Dir}{K:Bool→List Dir→Prop}(h:guardK ops o rid i σ d K): ∃b d',K b d'∧∀r a w,See w0 σ r a w→Region.wanted o (yielded ops a.tmps)=b:=by
 unfold guardK at h
 split at h
 ·rename_i hg
  exact⟨true,d,h,fun r a w _=>by simp[Region.wanted,hg]⟩
 ·rename_i g c hg
  split at h
  ·rename_i x hx
   have key:∀r a w,See w0 σ r a w→Region.wanted o (yielded ops a.tmps)=(x==c):=fun r a w hw=>by
    have h1:=boolS_spec hx hw
    unfold Region.wanted
    rw[hg]
    show(yielded ops a.tmps g==some c)=(x==c)
    rw[h1];rfl
   have hlit:∀d,litK x c (fun b=>K b d)→∃b d',K b d'∧∀r a w,See w0 σ r a w→Region.wanted o (yielded ops a.tmps)=b:=fun d h=>by
    cases x with
    | true=>exact⟨c,d,h,fun r a w hw=>by rw[key r a w hw];cases c<;>rfl⟩
    | false=>exact⟨!c,d,h,fun r a w hw=>by rw[key r a w hw];cases c<;>rfl⟩
   split at h
   ·rename_i r' j b d'
    cases hk:keyB r' j rid i with
    | true =>
     rw[hk]at h
     refine⟨b,d',h.2,fun r a w hw=>?_⟩
     rw[key r a w hw,h.1]
     cases b<;>cases c<;>rfl
    | false=>rw[hk]at h;exact hlit _ h
   ·rename_i r' j dx dy _
    cases hk:keyB r' j rid i with
    | true =>
     rw[hk]at h
     by_cases e:x=c
     ·exact⟨true,dx,h.1 e,fun r a w hw=>by rw[key r a w hw,e];simp⟩
     ·exact⟨false,dy,h.2 (by cases x<;>cases c<;>simp_all),fun r a w hw=>by rw[key r a w hw];simpa using e⟩
    | false=>rw[hk]at h;exact hlit _ h
   ·exact hlit _ h
  ·obtain⟨h1,h2⟩:=ifB_spec h
   refine⟨false,d,h2,fun r a w hw=>?_⟩
   unfold Region.wanted
   rw[hg]
   show(yielded ops a.tmps g==some c)=false
   rw[undefS_spec h1 hw];rfl
theorem dstB_lt{d:Option Tmp}{n:Nat}(h:dstB d n=true): ∀k,d=some k→k<n:=by
 rintro k rfl;exact blt_lt h
theorem Sat.put{r:Env}{a:Act}{w:World}(h:Sat w0 σ r a w){d:Option Tmp}{s:SV}(hd:dstB d σ.n=true)(hs:σ.lt s=true): Sat w0 (σ.push d s) r (a.put d (s.den r)) w:=by
 refine⟨h.see.push (dstB_lt hd) hs,?_,?_⟩
 ·obtain⟨h1,h2,h3,h4,h5⟩:=h.sep
  cases d<;>exact⟨h1,h2,h3,h4,h5⟩
 ·have:=h.defers
  cases d<;>exact this
theorem Sat.yield{r:Env}{a:Act}{w w':World}(h:Sat w0 σ r a w){o:Out}{γ:Gh}{d:Option Tmp}(hb:Below w.heap.size w w')(hf:σ.fits o=true)(hd:dstB d σ.n=true)(hm:Made (r.add' σ γ) o γ w w'):
  Sat w0 ((σ.grow o).push d o.s) (r.add' σ γ) (a.put d (o.s.den (r.add' σ γ))) w':=by
 have h1:=h.see.grow hb hf hm
 have h2:=h.sep.grow h.see hb hm
 exact Sat.put ⟨h1,h2,h.defers⟩ hd (fits_lt hf)
def MemOk(w0:World)(σ:St)(r:Env)(w:World): Prop:=Sat w0 ⟨0,[],σ.bs,σ.rs⟩ r ⟨#[],[]⟩ w
theorem Sat.mem{r:Env}{a:Act}{w:World}(h:Sat w0 σ r a w): MemOk w0 σ r w :=
 ⟨⟨h.see.low,rfl,(fun _ _ h=>nomatch h),h.see.bs,h.see.rs,h.see.one⟩,⟨h.sep.own,h.sep.inj,h.sep.ownS,h.sep.disj,h.sep.apart⟩,rfl⟩
theorem Sat.back{σ':St}{r r':Env}{a:Act}{w w':World}(h:Sat w0 σ r a w)(hm:MemOk w0 σ' r' w')(hl:σ.le σ')(hg:Ag σ r r'): Sat w0 { σ with bs:=σ'.bs,rs:=σ'.rs } r' a w':=by
 refine⟨⟨hm.see.low,h.see.size,fun k s hk=>?_,hm.see.bs,hm.see.rs,hm.see.one⟩,⟨hm.sep.own,hm.sep.inj,hm.sep.ownS,hm.sep.disj,hm.sep.apart⟩,h.defers⟩
 obtain⟨h1,h2⟩:=h.see.ts k s hk
 exact⟨by rw[hg.den h2];exact h1,ok_mono (fun i hi=>lt_blt (Nat.lt_of_lt_of_le (blt_lt hi) hl.1)) (fun i hi=>lt_blt (Nat.lt_of_lt_of_le (blt_lt hi) hl.2)) s h2⟩
def HOk'(P:Program)(w0:World)(H:Inl): Prop:=∀fn l σ d K Kp,H fn l σ d K Kp→∀f,P.funcs[f]?=some fn→σ.ltL l=true→∀r w,MemOk w0 σ r w→∀R:Ending→World→Prop,
 (∀s σ' d' r' w',K s σ' d'→MemOk w0 σ' r' w'→Ag σ r r'→σ.le σ'→σ'.lt s=true→R (.returned (s.den r')) w') →
 (∀s σ' d' r' w',Kp s σ' d'→MemOk w0 σ' r' w'→Ag σ r r'→σ.le σ'→σ'.lt s=true→R (.panicked [{ v:=s.den r',recovered:=false }]) w')→Calls P f (denL r l).toArray w R
def PanTo(w0:World)(H:Cx)(σ:St)(r:Env)(Q:Exit→Act→World→Prop): Prop:=∀s σ' d' r' a' w',H.pan s σ' d'→Sat w0 σ' r' a' w'→Ag σ r r'→σ.le σ'→σ'.lt s=true→Q (.panic [{ v:=s.den r',recovered:=false }]) a' w'
theorem PanTo.later{H:Cx}{σ':St}{r r':Env}{Q:Exit→Act→World→Prop}(h:PanTo w0 H σ r Q)(hg:Ag σ r r')(hl:σ.le σ'): PanTo w0 H σ' r' Q :=
 fun s σ2 d2 r2 a2 w2 hk hS hg2 hl2 hs=>h s σ2 d2 r2 a2 w2 hk hS (hg.trans hl hg2) (hl.trans hl2) hs
theorem EffP.use{β:Type}{R0:Res}{l:List SV}{m:List Value→Sem Value}{val:β→Value}{R:β→Res}(h:EffP P w0 σ R0 l m val R){r:Env}{a:Act}{w:World}{j:Nat}(hS:Sat w0 σ r a w)(hj:nth σ.rs j=some R0):
  ∃y w' r',(m (denL r l)).run P w=.ok (val y) w'∧Sat w0 (outX j (R y) σ) r' a w'∧Ag σ r r':=by
 obtain⟨β',h1,h2,_⟩:=boxK_spec hS.see (h w hS.see.low)
 obtain⟨hc,h3⟩:=ifB'_spec h1
 have e1:denL (envB β') l=denL r l:=denL_congr (β:=fun b=>memB b (refsL l [])) (ξ:=fun _=>false) (fun b hb=>h2 b (memB_mem.1 hb)) (fun _ h=>nomatch h) l hc
 rw[e1]at h3
 obtain⟨y,S',w',h4,h5,h6,h7⟩:=h3 _ _ (hS.see.rs j R0 hj).1
 exact⟨y,w',_,h4,hS.turn hj h5 h6 h7,ag_turn r _⟩
theorem stsem_run{t:TypeId}{p v u:Value}{w w':World}(h:(stsem t [p,v]).run P w=.ok u w'): (Instr.storeAt t p v).run P w=.ok () w':=by
 unfold stsem at h
 rw[Sem.run_bind]at h
 cases e:(Instr.storeAt t p v).run P w with
 | ok x w2 =>
  rw[e]at h
  injection h with _ h
  rw[h]
 | halt x w2=>rw[e]at h;cases h
theorem setN_block:∀(vs:List Value) (k:Nat) (w:World) (g b:Nat),b≠g→(setN w g k vs).heap[b]?=w.heap[b]?
 | [],_,_,_,_,_=>rfl
 | v::vs,k,w,g,b,h=>(setN_block vs (k+1) (w.setCell ⟨g,k,none⟩ v) g b h).trans (Below.heap_setCell w ⟨g,k,none⟩ v b h)
theorem storeK_ok(hT:TTOk P tt){o:Oper}{t:TypeId}{x y:Operand}(ho:o.op=.store t x y){K:St→Prop}(h:storeK tt σ t x y K)(hd:dstB o.dst σ.n=true):
  ∃σ',K σ'∧σ.le σ'∧SeqOk P w0 o σ (σ'.push o.dst (.val undef)):=by
 obtain⟨s,h1,h⟩:=evK_spec h
 split at h
 case h_2=>exact h.elim
 rename_i b p
 obtain⟨⟨bt,cs⟩,h2,h⟩:=optK_spec h
 obtain⟨u,h3,h⟩:=evK_spec h
 obtain⟨ti,h4,h⟩:=tiK_spec hT h
 obtain⟨hc,h⟩:=ifB_spec h
 obtain⟨hc,c3⟩:=Bool.and_eq_true_iff.1 hc
 obtain⟨c1,c2⟩:=Bool.and_eq_true_iff.1 hc
 have c1:=Nat.eq_of_beq_eq_true c1
 have c2:=Nat.le_of_ble_eq_true c2
 refine⟨_,h,⟨by simp[setNth_len],Nat.le_refl _⟩,fun r a w hw Q next hn=>?_⟩
 obtain⟨e1,l1⟩:=evS_den hw.see h1
 obtain⟨e3,l3⟩:=evS_den hw.see h3
 obtain⟨hb,hbl⟩:=hw.see.bs b bt cs h2
 have hcell:=cells_den hw.see l3
 have hsz:(u.den r).cells.size=ti.size:=by rw[← Array.length_toList,← hcell,denL_len,c1]
 have hrun:=store_run (P:=P) (t:=t) (o:=p) h4 hb hsz (by rw[denL_len];exact c2) (fun v hv=>by
  rw[← hcell,denL_map]at hv
  obtain⟨z,hz,rfl⟩:=List.mem_map.1 hv
  exact okCell_den hw.see (okL_all.1 (cells_lt l3) z hz) (List.all_eq_true.1 c3 z hz))
 unfold Oper.wp
 have hex:(execOp a.eval o).run P w=.ok .skip (setN w (r.b b) p (u.den r).cells.toList):=by
  unfold execOp
  rw[ho]
  simp only[e1,e3,SV.den,Sem.run_bind,hrun,Result.andThen_ok]
  rfl
 rw[hex]
 refine hn r _ _ (Sat.put (s:=.val undef) ⟨?_,?_,hw.defers⟩ hd rfl) (Ag.refl _ _)
 ·have hown:=hw.sep.own b _ h2
  have hne:∀i q,nth σ.bs i=some q→i≠b→r.b i≠r.b b:=fun i q hi hne=>hw.sep.inj i b _ _ hi h2 hne
  refine⟨stN hown _ _ hw.see.low,hw.see.size,fun k s hk=>(by have h5:=hw.see.ts k s hk;simp only[St.lt,setNth_len]at h5 ⊢;exact h5),fun i t' cs' hi=>?_,fun i R hi=>?_,hw.see.one⟩
  ·have hlt:∀l,({ σ with bs:=setNth σ.bs b (bt,spl cs p u.cells) }:St).ltL l=σ.ltL l:=fun l=>by simp only[St.ltL,setNth_len]
   rw[hlt]
   by_cases e:i=b
   ·subst e
    rw[setNth_same h2]at hi
    simp only[Option.some.injEq,Prod.mk.injEq]at hi
    obtain⟨rfl,rfl⟩:=hi
    have h5:=Bx.stores (u.den r).cells.toList p hb
    have hs:denL r (spl cs p u.cells)=spl (denL r cs) p (denL r u.cells):=by simp only[denL_map,spl_map]
    rw[putN_spl,← hcell,← hs]at h5
    rw[← hcell]
    exact⟨h5,okL_spl hbl (cells_lt l3)⟩
   ·rw[setNth_other e]at hi
    obtain⟨h5,h6⟩:=hw.see.bs i t' cs' hi
    exact⟨Bx.farN (hne i _ hi e) _ _ h5,h6⟩
  ·obtain⟨h5,h6⟩:=hw.see.rs i R hi
   refine⟨R.loc _ _ _ _ (fun b' hb'=>setN_block _ _ _ _ _ fun e=>hw.sep.apart b i _ _ h2 hi (e▸hb')) h5,fun b' hb'=>?_⟩
   rw[setN_size];exact h6 b' hb'
 ·have hex:∀i q,nth (setNth σ.bs b (bt,spl cs p u.cells)) i=some q→∃q',nth σ.bs i=some q':=fun i q hi=>by
   by_cases e:i=b
   ·subst e;exact⟨_,h2⟩
   ·rw[setNth_other e]at hi;exact⟨_,hi⟩
  obtain⟨s1,s2,s3,s4,s5⟩:=hw.sep
  refine⟨fun i q hi=>?_,fun i j q q' hi hj=>?_,s3,s4,fun i j q R hi hj=>?_⟩
  ·obtain⟨q',hi⟩:=hex i q hi;exact s1 i q' hi
  ·obtain⟨z,hi⟩:=hex i q hi;obtain⟨z',hj⟩:=hex j q' hj;exact s2 i j z z' hi hj
  ·obtain⟨z,hi⟩:=hex i q hi;exact s5 i j z R hi hj
theorem step1_ok(hT:TTOk P tt){H:Cx}(hH:HOk' P w0 H.inl){rid i:Nat}{o:Oper}{d:List Dir}{K:St→List Dir→Prop}(h:step1 P tt H w0 rid i o σ d K):
  ∀r a w,Sat w0 σ r a w→∀(Q:Exit→Act→World→Prop) (next:Act→World→Prop),PanTo w0 H σ r Q→(∀σ' d' r' a' w',K σ' d'→Sat w0 σ' r' a' w'→Ag σ r r'→σ.le σ'→next a' w')→o.wp P a w next Q:=by
 unfold step1 at h
 split at h
 ·unfold specK at h
  split at h
  ·rename_i σ' d'
   intro r a w hS Q next hP hn
   obtain⟨hl,hk⟩:=ifB_spec h.2
   exact h.1 r a w hS Q next fun r' a' w' h1 h2=>hn _ _ r' a' w' hk h1 h2 (leB_le hl)
  ·rename_i _ _ j val R bd _ _
   intro r a w hS Q next hP hn
   obtain⟨R0,hj,h⟩:=optK_spec h
   obtain⟨hd,h⟩:=ifB_spec h
   have ex:∀ {op:Op},o.op=op→∀ev,execOp ev o=execOp ev { o with op:=op }:=fun e ev=>by rw[← e]
   split at h
   ·rename_i c e
    split at h
    ·rename_i b hc
     obtain⟨l,⟨h,hk⟩,h1⟩:=evL_spec (w0:=w0) h
     obtain⟨y,w',r',h2,h3,h4⟩:=h.use hS hj
     have h5:(execOp a.eval o).run P w=.ok (.value (val y)) w':=by
      rw[ex e];unfold execOp
      unfold bsem at h2
      split at h2
      all_goals first|(simp[resolve,hc,invoke,builtin,arr_map _ _ _ (h1 r a w hS.see).1,h2];done)|(cases h2;done)
     unfold Oper.wp
     rw[h5]
     exact hn _ _ r' _ w' (hk y) (Sat.put (s:=.val _) h3 hd rfl) h4 ((le_turn j _).trans (le_push _ _ _))
    ·exact h.elim
   ·rename_i t x y0 e
    obtain⟨l,⟨h,hk⟩,h1⟩:=evL_spec (w0:=w0) h
    obtain⟨y,w',r',h2,h3,h4⟩:=h.use hS hj
    rw[← (h1 r a w hS.see).1]at h2
    have h6:=stsem_run h2
    have h5:(execOp a.eval o).run P w=.ok .skip w':=by
     rw[ex e];unfold execOp
     simp only[Sem.run_bind,h6,Result.andThen_ok]
     rfl
    unfold Oper.wp
    rw[h5]
    exact hn _ _ r' _ w' (hk y) (Sat.put (s:=.val undef) h3 hd rfl) h4 ((le_turn j _).trans (le_push _ _ _))
   ·rename_i t x lo hi mx e
    obtain⟨l,h,h1⟩:=evL_spec (w0:=w0) h
    obtain⟨va,h,ha⟩:=vO_spec (w0:=w0) h
    obtain⟨vb,h,hb⟩:=vO_spec (w0:=w0) h
    obtain⟨vc,⟨h,hk⟩,hc⟩:=vO_spec (w0:=w0) h
    obtain⟨y,w',r',h2,h3,h4⟩:=h.use hS hj
    rw[← (h1 r a w hS.see).1,← ha r a w hS.see,← hb r a w hS.see,← hc r a w hS.see]at h2
    unfold Oper.wp
    rw[show execOp a.eval o=(do pure (.value (← Instr.sliceAt t (([x].map a.eval).headD undef) (lo.map a.eval) (hi.map a.eval) (mx.map a.eval))):Sem Next)by rw[ex e];rfl,run_v h2]
    exact hn _ _ r' _ w' (hk y) (Sat.put (s:=.val _) h3 hd rfl) h4 ((le_turn j _).trans (le_push _ _ _))
   ·rename_i it isS e
    obtain⟨l,⟨h,hk⟩,h1⟩:=evL_spec (w0:=w0) h
    obtain⟨y,w',r',h2,h3,h4⟩:=h.use hS hj
    rw[← (h1 r a w hS.see).1]at h2
    unfold Oper.wp
    rw[show execOp a.eval o=(do pure (.value (← Instr.next (([it].map a.eval).headD undef) isS o.type)):Sem Next)by rw[ex e];rfl,run_v h2]
    exact hn _ _ r' _ w' (hk y) (Sat.put (s:=.val _) h3 hd rfl) h4 ((le_turn j _).trans (le_push _ _ _))
   ·exact h.elim
  ·rename_i _ _ is val R bd _ _
   intro r a w hS Q next hP hn
   obtain⟨hd,h⟩:=ifB_spec h
   obtain⟨m,h,hm⟩:=resK_spec (w0:=w0) h
   have ex:∀ {op:Op},o.op=op→∀ev,execOp ev o=execOp ev { o with op:=op }:=fun e ev=>by rw[← e]
   have fin:∀ {s:Sem Value},NewP P w0 m val R s→execOp a.eval o=(do pure (.value (← s)):Sem Next)→(∀y,K ((outN (R y) σ).push o.dst (.val (val y))) (bd y))→o.wp P a w next Q:=fun {s} h1 h2 hk=>by
    obtain⟨y,x,S,w',h3,h4,h5,h6⟩:=hm r a w _ hS.see (h1 w hS.see.low)
    unfold Oper.wp
    rw[h2,run_v h3]
    exact hn _ _ _ _ w' (hk y) (Sat.put (s:=.val _) (hS.fresh h4 h5 h6) hd rfl) (Ag.add _ _ _) ((le_new _).trans (le_push _ _ _))
   split at h
   ·rename_i c e
    split at h
    ·rename_i b hc
     obtain⟨l,⟨h,hk⟩,h1⟩:=vL_spec (w0:=w0) h
     obtain⟨y,x,S,w',h3,h4,h5,h6⟩:=hm r a w _ hS.see (h w hS.see.low)
     have h7:(execOp a.eval o).run P w=.ok (.value (val y)) w':=by
      rw[ex e];unfold execOp
      unfold bsem at h3
      split at h3
      all_goals first|(simp[resolve,hc,invoke,builtin,arr_map _ _ _ (h1 r a w hS.see),h3];done)|(cases h3;done)
     unfold Oper.wp
     rw[h7]
     exact hn _ _ _ _ w' (hk y) (Sat.put (s:=.val _) (hS.fresh h4 h5 h6) hd rfl) (Ag.add _ _ _) ((le_new _).trans (le_push _ _ _))
    ·obtain⟨f,l,h,_,hr⟩:=calleeK_spec (P:=P) (w0:=w0) h
     obtain⟨p1,⟨he,hc⟩,hk⟩:=ifB_spec h
     unfold Oper.wp
     rw[hr o e he r a w hS.see,plainL_den p1]
     show Calls P f _ w _
     refine(hm r a w _ hS.see (hc w hS.see.low)).mono ?_
     rintro e w' ⟨y,x,S,rfl,h5,h6,h4⟩
     exact hn _ _ _ _ w' (hk y) (Sat.put (s:=.val _) (hS.fresh h4 h5 h6) hd rfl) (Ag.add _ _ _) ((le_new _).trans (le_push _ _ _))
   ·rename_i t x y e
    obtain⟨v,h,h1⟩:=v1_spec (w0:=w0) h
    obtain⟨u,h,h2⟩:=v1_spec (w0:=w0) h
    exact fin h.1 (by rw[ex e];unfold execOp;simp only[h1 r a w hS.see,h2 r a w hS.see]) h.2
   ·rename_i s t x e
    obtain⟨v,h,h1⟩:=v1_spec (w0:=w0) h
    exact fin h.1 (by rw[ex e];unfold execOp;simp only[h1 r a w hS.see]) h.2
   ·rename_i t x e
    obtain⟨v,h,h1⟩:=v1_spec (w0:=w0) h
    exact fin h.1 (by rw[ex e];unfold execOp;simp only[h1 r a w hS.see]) h.2
   ·exact h.elim
  ·rename_i fn d' _
   split at h
   ·rename_i c e
    obtain⟨f,l,h,_,hr⟩:=calleeK_spec (P:=P) (w0:=w0) h
    obtain⟨hf,he,h⟩:=h
    obtain⟨hl,h⟩:=ifB_spec h
    obtain⟨hl,hd⟩:=Bool.and_eq_true_iff.1 hl
    intro r a w hS Q next hP hn
    unfold Oper.wp
    rw[hr o e he r a w hS.see]
    show Calls P f _ w _
    refine hH fn l σ d' _ _ h f hf hl r w hS.mem _ (fun s σ' d'' r' w' hk hm hg hle hs=>?_) fun s σ' d'' r' w' hk hm hg hle hs=>hP s _ d'' r' a w' hk (hS.back hm hle hg) hg ⟨hle.1,hle.2⟩ hs
    exact hn _ _ r' _ w' hk ((hS.back hm hle hg).put hd hs) hg (St.le.trans (σ':={ σ with bs:=σ'.bs,rs:=σ'.rs }) ⟨hle.1,hle.2⟩ (le_push _ _ _))
   ·exact h.elim
  ·exact h.elim
 ·split at h
  ·rename_i t x y ho
   obtain⟨hd,h⟩:=ifB_spec h
   obtain⟨σ',h1,hle,h2⟩:=storeK_ok (w0:=w0) hT ho h hd
   exact fun r a w hS Q next _ hn=>h2 r a w hS Q next fun r' a' w' h3 h4=>hn _ _ r' a' w' h1 h3 h4 (hle.trans (le_push _ _ _))
  ·rename_i x e
   obtain⟨s,h1,h⟩:=evK_spec h
   split at h
   ·rename_i t v
    intro r a w hS Q next hP hn
    have h2:(execOp a.eval o).run P w=.halt (.panic (.iface t v)) w:=by
     have ex:execOp a.eval o=execOp a.eval { o with op:=.panic x }:=by rw[← e]
     rw[ex];unfold execOp
     simp only[(evS_den hS.see h1).1,SV.den,Sem.run_bind]
     simp[Instr.panic,goPanic,go_sem]
    unfold Oper.wp
    rw[h2]
    exact hP _ _ _ r a w h hS (Ag.refl _ _) (St.le.refl _) rfl
   ·exact h.elim
  ·obtain⟨hd,h⟩:=ifB_spec h
   obtain⟨d',out,h1,h2⟩:=quietK_ok hT (fun out d h=>(ifB_spec h).1) h
   obtain⟨hf,h3⟩:=ifB_spec h1
   exact fun r a w hw Q next _ hn=>h2 r a w hw.see Q next fun u γ w' hu hb hm=>by
    subst hu
    exact hn _ _ _ _ _ h3 (hw.yield hb hf hd hm) (Ag.add _ _ _) ((le_grow _ _).trans (le_push _ _ _))
theorem ghostK_ok{rid i:Nat}{K:St→List Dir→Prop}: ∀(n:Nat) {σ:St} {d:List Dir},ghostK rid i n σ d K→∀r a w,Sat w0 σ r a w→∃σ' d' r',K σ' d'∧Sat w0 σ' r' a w∧Ag σ r r'∧σ.le σ'
 | 0,σ,d,h,r,a,w,hS=>⟨σ,d,r,h,hS,Ag.refl _ _,St.le.refl _⟩
 | n+1,σ,d,h,r,a,w,hS=>by
  have step:∀ {σ1:St} {d1:List Dir} {r1:Env},ghostK rid i n σ1 d1 K→Sat w0 σ1 r1 a w→Ag σ r r1→σ.le σ1→∃σ' d' r',K σ' d'∧Sat w0 σ' r' a w∧Ag σ r r'∧σ.le σ':=fun h1 h2 h3 h4=>by
   obtain⟨σ2,d2,r2,k1,k2,k3,k4⟩:=ghostK_ok n h1 _ a w h2
   exact⟨σ2,d2,r2,k1,k2,h3.trans h4 k3,h4.trans k4⟩
  have same:∀ {d1:List Dir},K σ d1→∃σ' d' r',K σ' d'∧Sat w0 σ' r' a w∧Ag σ r r'∧σ.le σ':=fun h1=>⟨σ,_,r,h1,hS,Ag.refl _ _,St.le.refl _⟩
  unfold ghostK at h
  split at h
  ·split at h
   ·obtain⟨h1,h2⟩:=rowK_spec (w0:=w0) h
    obtain⟨y,r',h3,h4⟩:=h1 r a w hS
    exact step (h2 y) h3 h4 (le_row _ _ _ _ _ _ y)
   ·exact same h
  ·split at h
   ·obtain⟨_,r',h3,h4⟩:=opn_nil _ _ _ r a w hS
    exact step h h3 h4 (le_new _)
   ·exact same h
  ·split at h
   ·obtain⟨σ1,r1,h1,h2,h3,h4⟩:=joinK_spec h hS
    exact step h1 h2 h3 h4
   ·exact same h
  ·split at h
   ·obtain⟨σ1,r1,h1,h2,h3,h4⟩:=cnvK_spec h hS
    exact step h1 h2 h3 h4
   ·exact same h
  ·split at h
   ·obtain⟨out,y,r1,h1,h2,h3,h4⟩:=opnK_spec h hS
    exact step (h1 y) h2 h3 h4
   ·exact same h
  ·exact same h
theorem execL_ok(hT:TTOk P tt){H:Cx}(hH:HOk' P w0 H.inl){rid:Nat}{ops:Array Oper}: ∀(l:List Oper) (i:Nat) (σ:St) (d:List Dir) (K:St→List Dir→Prop),execL P tt H w0 rid ops l i σ d K →
  ∀r a w,Sat w0 σ r a w→∀(Q:Exit→Act→World→Prop),PanTo w0 H σ r Q→(∀σ' d' r' a' w',K σ' d'→Sat w0 σ' r' a' w'→Ag σ r r'→σ.le σ'→Q .normal a' w')→wpList P ops Q l a w
 | [],i,σ,d,K,h=>fun r a w hw Q _ hQ=>hQ σ d r a w h hw (Ag.refl _ _) (St.le.refl _)
 | o::l,i,σ,d,K,h=>by
  obtain⟨b,d1,h1,hg⟩:=guardK_spec (w0:=w0) h
  cases b with
  | true =>
   intro r a w hw Q hP hQ
   unfold wpList
   rw[if_pos (hg r a w hw.see)]
   obtain⟨σ1,d1',r1,k1,k2,k3,k4⟩:=ghostK_ok 4 h1 r a w hw
   exact .inl (step1_ok hT hH k1 r1 a w k2 Q _ (hP.later k3 k4) fun σ2 d2 r' a' w' h2 hw' hg0 hl0=>(fun(hg':Ag σ r r') (hl':σ.le σ2)=>execL_ok hT hH l (i+1) σ2 d2 K h2 r' a' w' hw' Q (hP.later hg' hl') fun σ3 d3 r3 a3 w3 h3 hw3 hg3 hl3=>hQ σ3 d3 r3 a3 w3 h3 hw3 (hg'.trans hl' hg3) (hl'.trans hl3)) (k3.trans k4 hg0) (k4.trans hl0))
  | false =>
   obtain⟨hd,h2⟩:=ifB_spec h1
   intro r a w hw Q hP hQ
   unfold wpList
   rw[if_neg (by rw[hg r a w hw.see];simp)]
   exact execL_ok hT hH l (i+1) _ d1 K h2 r _ w (hw.put (s:=.val undef) hd rfl) Q (hP.later (Ag.refl _ _) (le_push _ _ _)) fun σ3 d3 r3 a3 w3 h3 hw3 hg3 hl3=>hQ σ3 d3 r3 a3 w3 h3 hw3 (hg3.le (le_push _ _ _)) ((le_push _ _ _).trans hl3)
end
open Go Go.RowKit
structure Hd where
 d:Nat
 out:Out
 cl:List Nat
def hideT(ds:List Nat): List (Nat×SV)→List (Nat×SV)
 | []=>[]
 | (k,s)::l=>bif memB k ds then hideT ds l else(k,s)::hideT ds l
def visT(cl:List Nat): List Hd→Nat→List (Nat×SV)→List (Nat×SV)
 | [],_,t=>t
 | h::l,j,t=>bif memB j cl then(h.d,h.out.s)::visT cl l (j+1) t else visT cl l (j+1) t
def visB(cl:List Nat): List Hd→Nat→List (Option (TypeId×List SV))
 | [],_=>[]
 | h::l,j=>(bif memB j cl then h.out.b else none)::visB cl l (j+1)
def visR(cl:List Nat): List Hd→Nat→List (Option Res)
 | [],_=>[]
 | h::l,j=>(bif memB j cl then h.out.r else none)::visR cl l (j+1)
def app{α:Type}: List α→List α→List α
 | [],m=>m
 | x::l,m=>x::app l m
theorem app_eq{α:Type}: ∀l m:List α,app l m=l++m
 | [],_=>rfl
 | x::l,m=>congrArg (x::·) (app_eq l m)
def visSt(σ:St)(base:List (Nat×SV))(hs:List Hd)(cl:List Nat): St:=⟨σ.n,visT cl hs 0 base,app σ.bs (visB cl hs 0),app σ.rs (visR cl hs 0)⟩
def tailT:List Hd→List (Nat×SV)→List (Nat×SV)
 | [],t=>t
 | h::l,t=>(h.d,h.out.s)::tailT l t
def tailB:List Hd→List (Option (TypeId×List SV))
 | []=>[]
 | h::l=>h.out.b::tailB l
def tailR:List Hd→List (Option Res)
 | []=>[]
 | h::l=>h.out.r::tailR l
def tailSt(σ:St)(hs:List Hd): St:=⟨σ.n,tailT hs σ.ts,app σ.bs (tailB hs),app σ.rs (tailR hs)⟩
def clos1:List Hd→Nat→List Nat
 | [],_=>[]
 | h::_,0=>h.cl
 | _::l,n+1=>clos1 l n
def uni:List Nat→List Nat→List Nat
 | [],m=>m
 | j::l,m=>bif memB j m then uni l m else uni l (j::m)
theorem uni_mem{x:Nat}: ∀ {l m:List Nat},x∈uni l m→x∈l∨x∈m
 | [],_,h=>.inr h
 | j::l,m,h=>by
  unfold uni at h
  cases e:memB j m with
  | true=>rw[e]at h;exact(uni_mem h).imp (List.mem_cons_of_mem _) id
  | false =>
   rw[e]at h
   rcases uni_mem h with h|h
   ·exact .inl (List.mem_cons_of_mem _ h)
   ·rcases List.mem_cons.1 h with rfl|h
    ·exact .inl (by simp)
    ·exact .inr h
def clos(hs:List Hd): List Nat→List Nat
 | []=>[]
 | j::l=>uni (j::clos1 hs j) (clos hs l)
def refB(n:Nat)(cl:List Nat)(b:Nat): Bool:=Nat.blt b n||(Nat.ble n b&&memB (b-n) cl)
def refsB(σ:St)(i:Nat)(cl:List Nat)(o:Out): Bool :=
 o.s.ok (refB σ.bs.length (i::cl)) (refB σ.rs.length (i::cl))&&(match o.b with|some (_,cs)=>okL (refB σ.bs.length cl) (refB σ.rs.length cl) cs|none=>true)
def lateS(σ:St)(o:Op)(K:Out→Prop): Prop:=match o with
 | .extract x i=>evK σ x fun s=>tupK s fun l=>optK (nthL l i) fun c=>K (one c)
 | _=>False
def headsK(P:Program)(tt:List (Nat×TI))(w0:World)(rid:Nat)(ops:Array Oper)(late:List Nat)(σ:St)(base:List (Nat×SV)): List Oper→Nat→Nat→List Hd→List Dir→(List Hd→List Dir→Prop)→Prop
 | _,0,_,hs,d,K=>K hs d
 | [],_+1,_,_,_,_=>False
 | o::l,n+1,i,hs,d,K=>(fun cl=>(fun σi=>guardK ops o rid i σi d fun b d=>optK o.dst fun k=>match b with
  | true=>(match memB i late with
   | true=>lateS σi o.op fun out=>ifB (σi.fits out&&refsB σ i cl out) (headsK P tt w0 rid ops late σ base l n (i+1) (snoc hs ⟨k,out,cl⟩) d K)
   | false=>quietK P tt w0 rid i o σi d fun out d=>ifB (σi.fits out&&refsB σ i cl out) (headsK P tt w0 rid ops late σ base l n (i+1) (snoc hs ⟨k,out,cl⟩) d K))
  | false=>ifB (!memB i late) (headsK P tt w0 rid ops late σ base l n (i+1) (snoc hs ⟨k,one (.val undef),cl⟩) d K)) (visSt σ base hs cl)) (clos hs (waitsO o))
def dsOf:List Oper→Nat→List Nat
 | _,0=>[]
 | [],_+1=>[]
 | o::l,n+1=>(match o.dst with|some d=>d|none=>0)::dsOf l n
def regionK(P:Program)(tt:List (Nat×TI))(H:Cx)(w0:World)(id:Nat)(ops:Array Oper)(σ:St)(d:List Dir)(K:St→List Dir→Prop): Prop:=match d with
 | .reg n late::d=>ifB (okB ops.toList (dsOf ops.toList n) late σ.n) (headsK P tt w0 id ops late σ (hideT (dsOf ops.toList n) σ.ts) ops.toList n 0 [] d fun hs d =>
  execL P tt H w0 id ops (ops.toList.drop n) n (tailSt σ hs) d K)
 | _=>False
def HOk(P:Program)(w0:World)(ops:Array Oper)(late:List Nat)(σ:St)(base:List (Nat×SV))(hs:List Hd)(i:Nat)(h:Hd)(o:Oper): Prop :=
 o.dst=some h.d∧(∀j,j∈h.cl→Rch ops i j)∧(visSt σ base (hs.take i) h.cl).fits h.out=true∧refsB σ i h.cl h.out=true ∧
 (((∀r a w,See w0 (visSt σ base (hs.take i) h.cl) r a w→Region.wanted o (yielded ops a.tmps)=true) ∧
   ((memB i late=false∧QStep P w0 o (visSt σ base (hs.take i) h.cl) fun u=>u=h.out) ∨
    (memB i late=true∧h.out.b=none∧h.out.r=none∧∀r a w,See w0 (visSt σ base (hs.take i) h.cl) r a w→∀w',(execOp a.eval o).run P w'=.ok (.value (h.out.s.den r)) w'))) ∨
  ((∀r a w,See w0 (visSt σ base (hs.take i) h.cl) r a w→Region.wanted o (yielded ops a.tmps)=false)∧memB i late=false∧h.out=one (.val undef)))
section
variable {P:Program} {tt:List (Nat×TI)} {w0:World} {σ:St}
theorem clos1_mem{ops:Array Oper}{hs:List Hd}(hcl:∀k h,hs[k]?=some h→∀j,j∈h.cl→Rch ops k j): ∀ {k j:Nat},j∈clos1 hs k→Rch ops k j:=by
 have key:∀(l:List Hd) (k j:Nat),j∈clos1 l k→∃h,l[k]?=some h∧j∈h.cl:=by
  intro l
  induction l with
  | nil=>intro k j h;cases h
  | cons x l ih =>
   intro k j h
   cases k with
   | zero=>exact⟨x,rfl,h⟩
   | succ k=>simpa using ih k j h
 intro k j h
 obtain⟨x,h1,h2⟩:=key hs k j h
 exact hcl k x h1 j h2
theorem clos_mem{ops:Array Oper}{hs:List Hd}(hcl:∀k h,hs[k]?=some h→∀j,j∈h.cl→Rch ops k j){i:Nat}: ∀ {l:List Nat},(∀j,j∈l→j∈waits ops i)→∀j,j∈clos hs l→Rch ops i j
 | [],_,_,h=>by cases h
 | k::l,hl,j,h=>by
  unfold clos at h
  rcases uni_mem h with h|h
  ·rcases List.mem_cons.1 h with rfl|h
   ·exact .one (hl j (by simp))
   ·exact .more (hl k (by simp)) (clos1_mem hcl h)
  ·exact clos_mem hcl (fun m hm=>hl m (by simp[hm])) j h
theorem lateS_ok{o:Oper}{K:Out→Prop}(h:lateS σ o.op K): ∃out,K out∧out.b=none∧out.r=none∧∀r a w,See w0 σ r a w→∀w',(execOp a.eval o).run P w'=.ok (.value (out.s.den r)) w':=by
 unfold lateS at h
 split at h
 ·rename_i x i e
  obtain⟨s,h1,h⟩:=evK_spec h
  obtain⟨l,h,hl⟩:=tupK_spec h
  obtain⟨c,hc,h⟩:=optK_spec h
  refine⟨_,h,rfl,rfl,fun r A w hw w'=>?_⟩
  have e2:execOp A.eval o=execOp A.eval { o with op:=.extract x i }:=by rw[← e]
  rw[e2]
  refine run_v ?_
  rw[(evS_den hw h1).1,hl]
  simp[Instr.extract,nthL_den hc,one]
 ·exact h.elim
theorem headsK_ok(hT:TTOk P tt){rid:Nat}{ops:Array Oper}{late:List Nat}{base:List (Nat×SV)}{K:List Hd→List Dir→Prop}: ∀(n:Nat) (l:List Oper) (i:Nat) (acc:List Hd) (d:List Dir),
  (∀j,l[j]?=ops[i+j]?)→acc.length=i→(∀k h,acc[k]?=some h→∀j,j∈h.cl→Rch ops k j)→headsK P tt w0 rid ops late σ base l n i acc d K →
  ∃hs d',K hs d'∧hs.length=i+n∧hs.take i=acc∧∀j,i≤j→j<i+n→∃h o,hs[j]?=some h∧ops[j]?=some o∧HOk P w0 ops late σ base hs j h o
 | 0,l,i,acc,d,_,ha,_,h=>by
  refine⟨acc,d,(by cases l<;>exact h),ha,by rw[← ha];exact List.take_length,fun j h1 h2=>by omega⟩
 | n+1,[],i,acc,d,_,_,_,h=>False.elim h
 | n+1,o::l,i,acc,d,hl,ha,hcl,h=>by
  have ho:ops[i]?=some o:=by have:=hl 0;simpa using this.symm
  have hl':∀j,l[j]?=ops[i+1+j]?:=fun j=>by have:=hl (j+1);rw[show i+1+j=i+(j+1)by omega];simpa using this
  have hw:∀j,j∈clos acc (waitsO o)→Rch ops i j:=clos_mem hcl fun j hj=>by unfold waits;rw[ho];exact hj
  have hnext:∀x:Hd,x.cl=clos acc (waitsO o)→∀d,headsK P tt w0 rid ops late σ base l n (i+1) (snoc acc x) d K →
    (∀hs:List Hd,hs.take i=acc→HOk P w0 ops late σ base hs i x o)→∃hs d',K hs d'∧hs.length=i+(n+1)∧hs.take i=acc∧∀j,i≤j→j<i+(n+1)→∃h o,hs[j]?=some h∧ops[j]?=some o∧HOk P w0 ops late σ base hs j h o:=fun x hx d h hok=>by
   rw[snoc_eq]at h
   obtain⟨hs,d',h1,h2,h3,h4⟩:=headsK_ok hT n l (i+1) (acc++[x]) d hl' (by simp[ha]) (fun k y hk j hj=>by
    rcases Nat.lt_or_ge k acc.length with h5|h5
    ·rw[List.getElem?_append_left h5]at hk;exact hcl k y hk j hj
    ·have h6:k=i:=by
      have h7:=(List.getElem?_eq_some_iff.1 hk).1
      simp at h7;omega
     subst h6
     rw[← ha]at hk
     simp at hk
     subst hk
     rw[hx]at hj
     exact hw j hj) h
   have h5:hs.take i=acc:=by
    have:=congrArg (List.take i) h3
    rw[List.take_take,Nat.min_eq_left (by omega),List.take_append_of_le_length (by omega),← ha,List.take_length]at this
    rw[← ha];exact this
   refine⟨hs,d',h1,by omega,h5,fun j h6 h7=>?_⟩
   by_cases e:j=i
   ·subst e
    refine⟨x,o,?_,ho,hok hs h5⟩
    have h8:(hs.take (j+1))[j]?=(acc++[x])[j]?:=by rw[h3]
    rw[List.getElem?_take_of_lt (by omega)]at h8
    rw[h8,← ha]
    simp
   ·exact h4 j (by omega) (by omega)
  simp only[headsK]at h
  obtain⟨b,d1,h1,hg⟩:=guardK_spec (w0:=w0) h
  obtain⟨k,hk,h1⟩:=optK_spec h1
  cases b with
  | true =>
   cases hm:memB i late with
   | true =>
    rw[hm]at h1
    obtain⟨out,h2,h3,h4,h5⟩:=lateS_ok (P:=P) (w0:=w0) h1
    obtain⟨hc,h6⟩:=ifB_spec h2
    obtain⟨hf,hr⟩:=Bool.and_eq_true_iff.1 hc
    exact hnext _ rfl _ h6 fun hs e=>⟨hk,hw,by rw[e];exact hf,hr,.inl ⟨by rw[e];exact hg,.inr ⟨hm,h3,h4,by rw[e];exact h5⟩⟩⟩
   | false =>
    rw[hm]at h1
    obtain⟨d2,out,h2,h3⟩:=quietK_ok (w0:=w0) hT (fun out d h=>(Bool.and_eq_true_iff.1 (ifB_spec h).1).1) h1
    obtain⟨hc,h6⟩:=ifB_spec h2
    obtain⟨hf,hr⟩:=Bool.and_eq_true_iff.1 hc
    exact hnext _ rfl _ h6 fun hs e=>⟨hk,hw,by rw[e];exact hf,hr,.inl ⟨by rw[e];exact hg,.inl ⟨hm,by rw[e];exact h3⟩⟩⟩
  | false =>
   obtain⟨hm,h6⟩:=ifB_spec h1
   have hm:memB i late=false:=by simpa using hm
   exact hnext _ rfl _ h6 fun hs e=>⟨hk,hw,rfl,rfl,.inr ⟨by rw[e];exact hg,hm,rfl⟩⟩
end
open Go Go.RowKit
def oneV(v:Value): Value:=if v.oneCell' then v else .bool false
theorem oneV_one(v:Value): (oneV v).oneCell'=true:=by
 unfold oneV;split
 ·assumption
 ·rfl
theorem oneV_eq{v:Value}(h:v.oneCell'=true): oneV v=v:=if_pos h
def rg(σ:St)(r:Env)(γ:Nat→Gh): Env :=
 ⟨fun k=>if k<σ.bs.length then r.b k else(γ (k-σ.bs.length)).b,fun k=>if k<σ.rs.length then r.x k else oneV (γ (k-σ.rs.length)).x,fun k=>if k<σ.rs.length then r.S k else(γ (k-σ.rs.length)).S⟩
theorem rg_upd{σ:St}{r:Env}{γ:Nat→Gh}{g:Gh}(hg:g.x.oneCell'=true)(i:Nat): rg σ r (upd γ i g)=(rg σ r γ).add (σ.bs.length+i) (σ.rs.length+i) g:=by
 unfold rg Env.add upd
 congr 1
 ·funext k
  show(if k<σ.bs.length then r.b k else(if k-σ.bs.length=i then g else γ (k-σ.bs.length)).b)=if k=σ.bs.length+i then g.b else if k<σ.bs.length then r.b k else(γ (k-σ.bs.length)).b
  by_cases h:k<σ.bs.length
  ·rw[if_pos h,if_neg (by omega),if_pos h]
  ·by_cases e:k=σ.bs.length+i
   ·rw[if_neg h,if_pos e,if_pos (by omega)]
   ·rw[if_neg h,if_neg e,if_neg h,if_neg (by omega)]
 ·funext k
  show(if k<σ.rs.length then r.x k else oneV (if k-σ.rs.length=i then g else γ (k-σ.rs.length)).x)=if k=σ.rs.length+i then g.x else if k<σ.rs.length then r.x k else oneV (γ (k-σ.rs.length)).x
  by_cases h:k<σ.rs.length
  ·rw[if_pos h,if_neg (by omega),if_pos h]
  ·by_cases e:k=σ.rs.length+i
   ·rw[if_neg h,if_pos e,if_pos (by omega),oneV_eq hg]
   ·rw[if_neg h,if_neg e,if_neg h,if_neg (by omega)]
 ·funext k
  show(if k<σ.rs.length then r.S k else(if k-σ.rs.length=i then g else γ (k-σ.rs.length)).S)=if k=σ.rs.length+i then g.S else if k<σ.rs.length then r.S k else(γ (k-σ.rs.length)).S
  by_cases h:k<σ.rs.length
  ·rw[if_pos h,if_neg (by omega),if_pos h]
  ·by_cases e:k=σ.rs.length+i
   ·rw[if_neg h,if_pos e,if_pos (by omega)]
   ·rw[if_neg h,if_neg e,if_neg h,if_neg (by omega)]
theorem rg_old{σ:St}{r:Env}{γ:Nat→Gh}{s:SV}(h:σ.lt s=true): s.den (rg σ r γ)=s.den r :=
 den_congr (fun _ hi=>if_pos (blt_lt hi)) (fun _ hi=>if_pos (blt_lt hi)) s h
theorem rgL_old{σ:St}{r:Env}{γ:Nat→Gh}{l:List SV}(h:σ.ltL l=true): denL (rg σ r γ) l=denL r l :=
 denL_congr (fun _ hi=>if_pos (blt_lt hi)) (fun _ hi=>if_pos (blt_lt hi)) l h
theorem refB_spec{n:Nat}{cl:List Nat}{b:Nat}(h:refB n cl b=true): b<n∨(n≤b∧b-n∈cl):=by
 rcases Bool.or_eq_true_iff.1 h with h|h
 ·exact .inl (blt_lt h)
 ·obtain⟨h1,h2⟩:=Bool.and_eq_true_iff.1 h
  exact .inr ⟨Nat.le_of_ble_eq_true h1,memB_mem.1 h2⟩
theorem rg_b{σ:St}{r:Env}{γ γ':Nat→Gh}{cl:List Nat}(h:∀j,j∈cl→γ j=γ' j){i:Nat}(hi:refB σ.bs.length cl i=true): (rg σ r γ).b i=(rg σ r γ').b i:=by
 unfold rg
 rcases refB_spec hi with h1|⟨h1,h2⟩
 ·simp only[if_pos h1]
 ·have h3:¬ i<σ.bs.length:=by omega
  simp only[if_neg h3,h _ h2]
theorem rg_x{σ:St}{r:Env}{γ γ':Nat→Gh}{cl:List Nat}(h:∀j,j∈cl→γ j=γ' j){i:Nat}(hi:refB σ.rs.length cl i=true): (rg σ r γ).x i=(rg σ r γ').x i:=by
 unfold rg
 rcases refB_spec hi with h1|⟨h1,h2⟩
 ·simp only[if_pos h1]
 ·have h3:¬ i<σ.rs.length:=by omega
  simp only[if_neg h3,h _ h2]
theorem look_visT{cl:List Nat}{k:Nat}{s:SV}: ∀ {hs:List Hd} {j0:Nat} {t:List (Nat×SV)},look k (visT cl hs j0 t)=some s→(∃j,∃h:Hd,hs[j]?=some h∧(j0+j)∈cl∧h.d=k∧s=h.out.s)∨look k t=some s
 | [],_,_,h=>.inr h
 | x::hs,j0,t,h=>by
  unfold visT at h
  cases e:memB j0 cl with
  | true =>
   rw[e]at h
   simp only[cond_true,look]at h
   cases e2:Nat.beq x.d k with
   | true =>
    rw[e2]at h
    obtain rfl:=Option.some.inj h
    exact .inl ⟨0,x,rfl,memB_mem.1 e,Nat.eq_of_beq_eq_true e2,rfl⟩
   | false =>
    rw[e2]at h
    rcases look_visT (hs:=hs) h with⟨j,y,h1,h2,h3⟩|h1
    ·exact .inl ⟨j+1,y,by simpa using h1,by rw[show j0+(j+1)=j0+1+j by omega];exact h2,h3⟩
    ·exact .inr h1
  | false =>
   rw[e]at h
   rcases look_visT (hs:=hs) h with⟨j,y,h1,h2,h3⟩|h1
   ·exact .inl ⟨j+1,y,by simpa using h1,by rw[show j0+(j+1)=j0+1+j by omega];exact h2,h3⟩
   ·exact .inr h1
theorem look_hide{ds:List Nat}{k:Nat}{s:SV}: ∀ {t:List (Nat×SV)},look k (hideT ds t)=some s→k ∉ ds∧look k t=some s
 | [],h=>by cases h
 | (j,u)::t,h=>by
  unfold hideT at h
  cases e:memB j ds with
  | true =>
   rw[e]at h
   obtain⟨h1,h2⟩:=look_hide (t:=t) h
   refine⟨h1,?_⟩
   unfold look
   cases e2:Nat.beq j k with
   | true=>exact absurd (memB_mem.1 e) (Nat.eq_of_beq_eq_true e2▸h1)
   | false=>exact h2
  | false =>
   rw[e]at h
   simp only[cond_false,look]at h
   unfold look
   cases e2:Nat.beq j k with
   | true =>
    rw[e2]at h
    refine⟨fun hm=>?_,h⟩
    rw[← Nat.eq_of_beq_eq_true e2]at hm
    rw[memB_mem.2 hm]at e;cases e
   | false=>rw[e2]at h;exact look_hide (t:=t) h
theorem look_tail{k:Nat}{s:SV}: ∀ {hs:List Hd} {t:List (Nat×SV)},look k (tailT hs t)=some s→(∃(j:Nat) (h:Hd),hs[j]?=some h∧h.d=k∧s=h.out.s)∨((∀(j:Nat) (h:Hd),hs[j]?=some h→h.d≠k)∧look k t=some s)
 | [],_,h=>.inr ⟨fun _ _ h=>by simp at h,h⟩
 | x::hs,t,h=>by
  simp only[tailT,look]at h
  cases e2:Nat.beq x.d k with
  | true =>
   rw[e2]at h
   obtain rfl:=Option.some.inj h
   exact .inl ⟨0,x,rfl,Nat.eq_of_beq_eq_true e2,rfl⟩
  | false =>
   rw[e2]at h
   rcases look_tail (hs:=hs) h with⟨j,y,h1,h2⟩|⟨h1,h2⟩
   ·exact .inl ⟨j+1,y,by simpa using h1,h2⟩
   ·refine .inr ⟨fun j y hj=>?_,h2⟩
    cases j with
    | zero=>simp at hj;subst hj;exact Nat.ne_of_beq_eq_false e2
    | succ j=>exact h1 j y (by simpa using hj)
theorem nth_app2{α:Type}: ∀ {l m:List (Option α)} {i:Nat} {y:α},nth (app l m) i=some y→nth l i=some y∨(l.length≤i∧nth m (i-l.length)=some y)
 | [],_,_,_,h=>.inr ⟨Nat.zero_le _,h⟩
 | _::_,_,0,_,h=>.inl h
 | _::l,m,i+1,_,h=>(nth_app2 (l:=l) (m:=m) (i:=i) h).imp id fun⟨h1,h2⟩=>⟨Nat.succ_le_succ h1,by rw[List.length_cons,Nat.add_sub_add_right];exact h2⟩
theorem nth_visB{cl:List Nat}{y:TypeId×List SV}: ∀ {hs:List Hd} {j0 j:Nat},nth (visB cl hs j0) j=some y→∃h,hs[j]?=some h∧(j0+j)∈cl∧h.out.b=some y
 | [],_,_,h=>by cases h
 | x::hs,j0,0,h=>by
  change (bif memB j0 cl then x.out.b else none)=some y at h
  cases e:memB j0 cl with
  | true=>rw[e]at h;exact⟨x,rfl,memB_mem.1 e,h⟩
  | false=>rw[e]at h;cases h
 | x::hs,j0,j+1,h=>by
  obtain⟨z,h1,h2,h3⟩:=nth_visB (hs:=hs) (j0:=j0+1) (j:=j) h
  exact⟨z,by simpa using h1,by rw[show j0+(j+1)=j0+1+j by omega];exact h2,h3⟩
theorem nth_visR{cl:List Nat}{y:Res}: ∀ {hs:List Hd} {j0 j:Nat},nth (visR cl hs j0) j=some y→∃h,hs[j]?=some h∧(j0+j)∈cl∧h.out.r=some y
 | [],_,_,h=>by cases h
 | x::hs,j0,0,h=>by
  change (bif memB j0 cl then x.out.r else none)=some y at h
  cases e:memB j0 cl with
  | true=>rw[e]at h;exact⟨x,rfl,memB_mem.1 e,h⟩
  | false=>rw[e]at h;cases h
 | x::hs,j0,j+1,h=>by
  obtain⟨z,h1,h2,h3⟩:=nth_visR (hs:=hs) (j0:=j0+1) (j:=j) h
  exact⟨z,by simpa using h1,by rw[show j0+(j+1)=j0+1+j by omega];exact h2,h3⟩
theorem nth_tailB{y:TypeId×List SV}: ∀ {hs:List Hd} {j:Nat},nth (tailB hs) j=some y→∃h,hs[j]?=some h∧h.out.b=some y
 | [],_,h=>by cases h
 | x::hs,0,h=>⟨x,rfl,h⟩
 | x::hs,j+1,h=>by
  obtain⟨z,h1,h2⟩:=nth_tailB (hs:=hs) (j:=j) h
  exact⟨z,by simpa using h1,h2⟩
theorem nth_tailR{y:Res}: ∀ {hs:List Hd} {j:Nat},nth (tailR hs) j=some y→∃h,hs[j]?=some h∧h.out.r=some y
 | [],_,h=>by cases h
 | x::hs,0,h=>⟨x,rfl,h⟩
 | x::hs,j+1,h=>by
  obtain⟨z,h1,h2⟩:=nth_tailR (hs:=hs) (j:=j) h
  exact⟨z,by simpa using h1,h2⟩
theorem visB_len(cl:List Nat): ∀(hs:List Hd) (j:Nat),(visB cl hs j).length=hs.length
 | [],_=>rfl
 | _::hs,j=>congrArg Nat.succ (visB_len cl hs (j+1))
theorem visR_len(cl:List Nat): ∀(hs:List Hd) (j:Nat),(visR cl hs j).length=hs.length
 | [],_=>rfl
 | _::hs,j=>congrArg Nat.succ (visR_len cl hs (j+1))
theorem tailB_len:∀(hs:List Hd),(tailB hs).length=hs.length
 | []=>rfl
 | _::hs=>congrArg Nat.succ (tailB_len hs)
theorem tailR_len:∀(hs:List Hd),(tailR hs).length=hs.length
 | []=>rfl
 | _::hs=>congrArg Nat.succ (tailR_len hs)
theorem vis_bs(σ:St)(base:List (Nat×SV))(hs:List Hd)(cl:List Nat): (visSt σ base hs cl).bs.length=σ.bs.length+hs.length:=by simp[visSt,app_eq,visB_len]
theorem vis_rs(σ:St)(base:List (Nat×SV))(hs:List Hd)(cl:List Nat): (visSt σ base hs cl).rs.length=σ.rs.length+hs.length:=by simp[visSt,app_eq,visR_len]
theorem tail_bs(σ:St)(hs:List Hd): (tailSt σ hs).bs.length=σ.bs.length+hs.length:=by simp[tailSt,app_eq,tailB_len]
theorem tail_rs(σ:St)(hs:List Hd): (tailSt σ hs).rs.length=σ.rs.length+hs.length:=by simp[tailSt,app_eq,tailR_len]
theorem dsOf_at:∀ {l:List Oper} {n:Nat},(∀j,j<n→∃o d,l[j]?=some o∧o.dst=some d)→(dsOf l n).length=n∧∀j o d,j<n→l[j]?=some o→o.dst=some d→(dsOf l n)[j]?=some d
 | l,0,_=>⟨by cases l<;>rfl,fun _ _ _ h=>by omega⟩
 | [],n+1,h=>by obtain⟨o,d,h1,_⟩:=h 0 (by omega);simp at h1
 | x::l,n+1,h=>by
  obtain⟨h1,h2⟩:=dsOf_at (l:=l) (n:=n) fun j hj=>by simpa using h (j+1) (by omega)
  refine⟨by simp[dsOf,h1],fun j o d hj ho hd=>?_⟩
  cases j with
  | zero=>simp at ho;subst ho;simp[dsOf,hd]
  | succ j=>simpa [dsOf]using h2 j o d (by omega) (by simpa using ho) hd
theorem idx_none{k:Nat}: ∀ {ds:List Nat} {i:Nat},k ∉ ds→idx k ds i=none
 | [],_,_=>rfl
 | d::ds,i,h=>by
  unfold idx
  rw[if_neg fun e=>h (by simp[e])]
  exact idx_none fun hm=>h (by simp[hm])
open Go Go.RowKit
def PhiH(σ:St)(r:Env)(hs:List Hd)(j:Nat)(u:Nat→Value)(γ:Nat→Gh)(W:World): Prop:=∀h,hs[j]?=some h →
 u j=h.out.s.den (rg σ r γ)∧(∀t cs,h.out.b=some (t,cs)→Bx W (γ j).b t (denL (rg σ r γ) cs).toArray)∧(∀R,h.out.r=some R→(R.φ (γ j).x (γ j).S W∧∀b,(γ j).S b→b<W.heap.size)∧(γ j).x.oneCell'=true)∧(∀p R,h.out.b=some p→h.out.r=some R→¬(γ j).S (γ j).b)
def FrH(hs:List Hd)(i:Nat)(g:Gh)(b:Nat): Prop:=∃h,hs[i]?=some h∧((∃p,h.out.b=some p∧b=g.b)∨(∃R,h.out.r=some R∧g.S b))
section
variable {P:Program} {tt:List (Nat×TI)} {w0:World} {σ:St} {r:Env} {a:Act} {w:World} {ops:Array Oper} {late:List Nat} {base:List (Nat×SV)} {hs:List Hd} {ds:List Nat} {n:Nat}
theorem see_vis(hS:See w0 σ r a w)(hbase:∀k s,look k base=some s→k ∉ ds∧look k σ.ts=some s)(hnd:ds.Nodup)(hlen:hs.length=n)(hds:∀(j:Nat) (h:Hd),hs[j]?=some h→ds[j]?=some h.d)(hdl:ds.length=n)(hlt:∀d,d∈ds→d<a.tmps.size)(hfit:∀(j:Nat) (h:Hd),hs[j]?=some h→∃cl,(visSt σ base (hs.take j) cl).fits h.out=true){i:Nat}(hi:i<n){cl:List Nat}(_hcl:∀j,j∈cl→j<i){W:World}(hb:Below w.heap.size w W){u:Nat→Value}{γ:Nat→Gh}(hΦ:∀j,j∈cl→PhiH σ r hs j u γ W):
  See w0 (visSt σ base (hs.take i) cl) (rg σ r γ) (frm a ds u) W:=by
 have h':=hS.later hb
 have hti:(hs.take i).length=i:=by rw[List.length_take];omega
 have hget:∀(j:Nat) (h:Hd),(hs.take i)[j]?=some h→hs[j]?=some h∧j<i:=fun j h hj=>by
  have h1:=(List.getElem?_eq_some_iff.1 hj).1
  rw[hti]at h1
  rw[List.getElem?_take_of_lt h1]at hj
  exact⟨hj,h1⟩
 have hbl:=vis_bs σ base (hs.take i) cl
 have hrl:=vis_rs σ base (hs.take i) cl
 rw[hti]at hbl hrl
 have hold:∀s:SV,σ.lt s=true→(visSt σ base (hs.take i) cl).lt s=true:=fun s h=>ok_mono (fun k hk=>lt_blt (by have:=blt_lt hk;rw[hbl];omega)) (fun k hk=>lt_blt (by have:=blt_lt hk;rw[hrl];omega)) s h
 have holdL:∀s:List SV,σ.ltL s=true→(visSt σ base (hs.take i) cl).ltL s=true:=fun s h=>okL_mono (fun k hk=>lt_blt (by have:=blt_lt hk;rw[hbl];omega)) (fun k hk=>lt_blt (by have:=blt_lt hk;rw[hrl];omega)) s h
 have hfitj:∀(j:Nat) (h:Hd),hs[j]?=some h→j<i→(visSt σ base (hs.take i) cl).lt h.out.s=true∧∀t cs,h.out.b=some (t,cs)→(visSt σ base (hs.take i) cl).ltL cs=true:=fun j h hj hji=>by
  obtain⟨cl',hf⟩:=hfit j h hj
  have hjl:(hs.take j).length=j:=by rw[List.length_take];omega
  have b1:=vis_bs σ base (hs.take j) cl'
  have b2:=vis_rs σ base (hs.take j) cl'
  rw[hjl]at b1 b2
  obtain⟨f1,f2⟩:=Bool.and_eq_true_iff.1 hf
  refine⟨ok_mono (fun k hk=>lt_blt ?_) (fun k hk=>lt_blt ?_) _ f1,fun t cs e=>?_⟩
  ·have h5:=blt_lt hk
   cases e:h.out.b<;>rw[e]at h5<;>simp only[b1]at h5<;>rw[hbl]<;>omega
  ·have h5:=blt_lt hk
   cases e:h.out.r<;>rw[e]at h5<;>simp only[b2]at h5<;>rw[hrl]<;>omega
  ·rw[e]at f2
   exact okL_mono (fun k hk=>lt_blt (by have h5:=blt_lt hk;rw[b1]at h5;rw[hbl];omega)) (fun k hk=>lt_blt (by have h5:=blt_lt hk;rw[b2]at h5;rw[hrl];omega)) cs f2
 refine⟨h'.low,by rw[frm_size];exact h'.size,fun k s hk=>?_,fun k t cs hk=>?_,fun k R hk=>?_,fun k hk=>?_⟩
 ·rcases look_visT hk with⟨j,h,h1,h2,rfl,rfl⟩|h1
  ·obtain⟨h3,h4⟩:=hget j h h1
   rw[Nat.zero_add]at h2
   have h5:=(hΦ j h2 h h3).1
   have h6:=hds j h h3
   have hd:h.d<a.tmps.size:=hlt _ (List.mem_of_getElem? h6)
   refine⟨?_,(hfitj j h h3 h4).1⟩
   have h7:=idx_at (i:=0) hnd h6
   rw[Nat.zero_add]at h7
   exact frm_head hd h7 h5
  ·obtain⟨h2,h3⟩:=hbase k s h1
   obtain⟨h4,h5⟩:=h'.ts k s h3
   refine⟨?_,hold s h5⟩
   rw[rg_old h5]
   rcases Nat.lt_or_ge k a.tmps.size with hk2|hk2
   ·exact frm_base hk2 (idx_none h2) h4
   ·rw[← h4,Array.getD_eq_getD_getElem?,Array.getD_eq_getD_getElem?,Array.getElem?_eq_none (by rw[frm_size];exact hk2),Array.getElem?_eq_none hk2]
 ·rcases nth_app2 hk with h1|⟨h1,h2⟩
  ·obtain⟨h3,h4⟩:=h'.bs k t cs h1
   rw[rgL_old h4,show(rg σ r γ).b k=r.b k from if_pos (nth_lt h1)]
   exact⟨h3,holdL cs h4⟩
  ·obtain⟨h,h3,h4,h5⟩:=nth_visB h2
   obtain⟨h6,h7⟩:=hget _ h h3
   rw[Nat.zero_add]at h4
   rw[show(rg σ r γ).b k=(γ (k-σ.bs.length)).b from if_neg (by omega)]
   exact⟨(hΦ _ h4 h h6).2.1 t cs h5,(hfitj _ h h6 h7).2 t cs h5⟩
 ·rcases nth_app2 hk with h1|⟨h1,h2⟩
  ·rw[show(rg σ r γ).x k=r.x k from if_pos (nth_lt h1),show(rg σ r γ).S k=r.S k from if_pos (nth_lt h1)]
   exact h'.rs k R h1
  ·obtain⟨h,h3,h4,h5⟩:=nth_visR h2
   obtain⟨h6,h7⟩:=hget _ h h3
   rw[Nat.zero_add]at h4
   have h8:=hΦ _ h4 h h6
   rw[show(rg σ r γ).x k=oneV (γ (k-σ.rs.length)).x from if_neg (by omega),show(rg σ r γ).S k=(γ (k-σ.rs.length)).S from if_neg (by omega),oneV_eq (h8.2.2.1 R h5).2]
   exact(h8.2.2.1 R h5).1
 ·rcases Nat.lt_or_ge k σ.rs.length with h1|h1
  ·rw[show(rg σ r γ).x k=r.x k from if_pos h1];exact h'.one k h1
  ·rw[show(rg σ r γ).x k=oneV (γ (k-σ.rs.length)).x from if_neg (by omega)];exact oneV_one _
theorem sat_tail(hS:Sat w0 σ r a w)(hnd:ds.Nodup)(hlen:hs.length=n)(hds:∀(j:Nat) (h:Hd),hs[j]?=some h→ds[j]?=some h.d)(hdl:ds.length=n)(hlt:∀d,d∈ds→d<a.tmps.size)(hfit:∀(j:Nat) (h:Hd),hs[j]?=some h→∃cl,(visSt σ base (hs.take j) cl).fits h.out=true){W:World}(hb:Below w.heap.size w W){u:Nat→Value}{γ:Nat→Gh}(hΦ:∀j,j<n→PhiH σ r hs j u γ W)(hF:∀i,i<n→∀b,FrH hs i (γ i) b→w.heap.size≤b∧b<W.heap.size)(hD:∀i j,i<n→j<n→i≠j→∀b,FrH hs i (γ i) b→¬ FrH hs j (γ j) b):
  Sat w0 (tailSt σ hs) (rg σ r γ) (frm a ds u) W:=by
 have h':=hS.see.later hb
 have hbl:=tail_bs σ hs
 have hrl:=tail_rs σ hs
 rw[hlen]at hbl hrl
 have hjn:∀(j:Nat) (h:Hd),hs[j]?=some h→j<n:=fun j h hj=>by have:=(List.getElem?_eq_some_iff.1 hj).1;omega
 have hold:∀s:SV,σ.lt s=true→(tailSt σ hs).lt s=true:=fun s h=>ok_mono (fun k hk=>lt_blt (by have:=blt_lt hk;rw[hbl];omega)) (fun k hk=>lt_blt (by have:=blt_lt hk;rw[hrl];omega)) s h
 have holdL:∀s:List SV,σ.ltL s=true→(tailSt σ hs).ltL s=true:=fun s h=>okL_mono (fun k hk=>lt_blt (by have:=blt_lt hk;rw[hbl];omega)) (fun k hk=>lt_blt (by have:=blt_lt hk;rw[hrl];omega)) s h
 have hfitj:∀(j:Nat) (h:Hd),hs[j]?=some h→(tailSt σ hs).lt h.out.s=true∧∀t cs,h.out.b=some (t,cs)→(tailSt σ hs).ltL cs=true:=fun j h hj=>by
  obtain⟨cl',hf⟩:=hfit j h hj
  have hjn:=hjn j h hj
  have hjl:(hs.take j).length=j:=by rw[List.length_take];omega
  have b1:=vis_bs σ base (hs.take j) cl'
  have b2:=vis_rs σ base (hs.take j) cl'
  rw[hjl]at b1 b2
  obtain⟨f1,f2⟩:=Bool.and_eq_true_iff.1 hf
  refine⟨ok_mono (fun k hk=>lt_blt ?_) (fun k hk=>lt_blt ?_) _ f1,fun t cs e=>?_⟩
  ·have h5:=blt_lt hk
   cases e:h.out.b<;>rw[e]at h5<;>simp only[b1]at h5<;>rw[hbl]<;>omega
  ·have h5:=blt_lt hk
   cases e:h.out.r<;>rw[e]at h5<;>simp only[b2]at h5<;>rw[hrl]<;>omega
  ·rw[e]at f2
   exact okL_mono (fun k hk=>lt_blt (by have h5:=blt_lt hk;rw[b1]at h5;rw[hbl];omega)) (fun k hk=>lt_blt (by have h5:=blt_lt hk;rw[b2]at h5;rw[hrl];omega)) cs f2
 have hbx:∀i p,nth σ.bs i=some p→r.b i<w.heap.size:=fun i p hi=>(hS.see.bs i p.1 p.2 hi).1.lt
 have hlow:=hS.see.low.size
 have nb:∀k p,nth (tailSt σ hs).bs k=some p→(nth σ.bs k=some p∧(rg σ r γ).b k=r.b k)∨∃(j:Nat) (h:Hd),k=σ.bs.length+j∧hs[j]?=some h∧h.out.b=some p∧(rg σ r γ).b k=(γ j).b:=fun k p hk=>by
  rcases nth_app2 hk with h1|⟨h1,h2⟩
  ·exact .inl ⟨h1,if_pos (nth_lt h1)⟩
  ·obtain⟨h,h3,h4⟩:=nth_tailB h2
   exact .inr ⟨k-σ.bs.length,h,by omega,h3,h4,if_neg (by omega)⟩
 have nr:∀k R,nth (tailSt σ hs).rs k=some R→(nth σ.rs k=some R∧(rg σ r γ).S k=r.S k∧(rg σ r γ).x k=r.x k)∨∃(j:Nat) (h:Hd),k=σ.rs.length+j∧hs[j]?=some h∧h.out.r=some R∧(rg σ r γ).S k=(γ j).S∧(rg σ r γ).x k=(γ j).x:=fun k R hk=>by
  rcases nth_app2 hk with h1|⟨h1,h2⟩
  ·exact .inl ⟨h1,if_pos (nth_lt h1),if_pos (nth_lt h1)⟩
  ·obtain⟨h,h3,h4⟩:=nth_tailR h2
   refine .inr ⟨k-σ.rs.length,h,by omega,h3,h4,if_neg (by omega),?_⟩
   rw[show(rg σ r γ).x k=oneV (γ (k-σ.rs.length)).x from if_neg (by omega),oneV_eq ((hΦ _ (hjn _ h h3) h h3).2.2.1 R h4).2]
 refine⟨⟨h'.low,by rw[frm_size];exact h'.size,fun k s hk=>?_,fun k t cs hk=>?_,fun k R hk=>?_,fun k hk=>?_⟩,⟨fun i p hi=>?_,fun i j p q hi hj hne=>?_,fun i R hi b hS'=>?_,fun i j R R' hi hj hne b hS1 hS2=>?_,fun i j p R hi hj hS'=>?_⟩,hS.defers⟩
 ·rcases look_tail hk with⟨j,h,h1,rfl,rfl⟩|⟨h1,h2⟩
  ·have h5:=(hΦ j (hjn j h h1) h h1).1
   have h6:=hds j h h1
   have h7:=idx_at (i:=0) hnd h6
   rw[Nat.zero_add]at h7
   exact⟨frm_head (hlt _ (List.mem_of_getElem? h6)) h7 h5,(hfitj j h h1).1⟩
  ·obtain⟨h4,h5⟩:=h'.ts k s h2
   refine⟨?_,hold s h5⟩
   rw[rg_old h5]
   have hnot:k ∉ ds:=fun hm=>by
    obtain⟨j,hj,e⟩:=List.getElem_of_mem hm
    have h6:j<hs.length:=by omega
    have h7:=hds j hs[j] (by simp[h6])
    rw[List.getElem?_eq_getElem hj]at h7
    exact h1 j hs[j] (by simp[h6]) (by rw[← e];exact(Option.some.inj h7).symm)
   rcases Nat.lt_or_ge k a.tmps.size with hk2|hk2
   ·exact frm_base hk2 (idx_none hnot) h4
   ·rw[← h4,Array.getD_eq_getD_getElem?,Array.getD_eq_getD_getElem?,Array.getElem?_eq_none (by rw[frm_size];exact hk2),Array.getElem?_eq_none hk2]
 ·rcases nb k _ hk with⟨h1,h2⟩|⟨j,h,rfl,h1,h2,h3⟩
  ·obtain⟨h3,h4⟩:=h'.bs k t cs h1
   rw[rgL_old h4,h2]
   exact⟨h3,holdL cs h4⟩
  ·rw[h3]
   exact⟨(hΦ j (hjn j h h1) h h1).2.1 t cs h2,(hfitj j h h1).2 t cs h2⟩
 ·rcases nr k R hk with⟨h1,h2,h3⟩|⟨j,h,rfl,h1,h2,h3,h4⟩
  ·rw[h2,h3];exact h'.rs k R h1
  ·rw[h3,h4];exact((hΦ j (hjn j h h1) h h1).2.2.1 R h2).1
 ·rcases Nat.lt_or_ge k σ.rs.length with h1|h1
  ·rw[show(rg σ r γ).x k=r.x k from if_pos h1];exact h'.one k h1
  ·rw[show(rg σ r γ).x k=oneV (γ (k-σ.rs.length)).x from if_neg (by omega)];exact oneV_one _
 ·rcases nb i p hi with⟨h1,h2⟩|⟨j,h,rfl,h1,h2,h3⟩
  ·rw[h2];exact hS.sep.own i p h1
  ·rw[h3];have:=(hF j (hjn j h h1) _ ⟨h,h1,.inl ⟨p,h2,rfl⟩⟩).1;omega
 ·rcases nb i p hi with⟨h1,h2⟩|⟨k,h,rfl,h1,h2,h3⟩<;>rcases nb j q hj with⟨g1,g2⟩|⟨m,g,rfl,g1,g2,g3⟩
  ·rw[h2,g2];exact hS.sep.inj i j p q h1 g1 hne
  ·rw[h2,g3];have:=(hF m (hjn m g g1) _ ⟨g,g1,.inl ⟨q,g2,rfl⟩⟩).1;have:=hbx i p h1;omega
  ·rw[h3,g2];have:=(hF k (hjn k h h1) _ ⟨h,h1,.inl ⟨p,h2,rfl⟩⟩).1;have:=hbx j q g1;omega
  ·rw[h3,g3]
   have hkm:k≠m:=fun e=>hne (by rw[e])
   intro e
   exact hD k m (hjn k h h1) (hjn m g g1) hkm _ ⟨h,h1,.inl ⟨p,h2,rfl⟩⟩ ⟨g,g1,.inl ⟨q,g2,e⟩⟩
 ·rcases nr i R hi with⟨h1,h2,h3⟩|⟨j,h,rfl,h1,h2,h3,h4⟩
  ·rw[h2]at hS';exact hS.sep.ownS i R h1 b hS'
  ·rw[h3]at hS';have:=(hF j (hjn j h h1) _ ⟨h,h1,.inr ⟨R,h2,hS'⟩⟩).1;omega
 ·rcases nr i R hi with⟨h1,h2,_⟩|⟨k,h,rfl,h1,h2,h3,_⟩<;>rcases nr j R' hj with⟨g1,g2,_⟩|⟨m,g,rfl,g1,g2,g3,_⟩
  ·rw[h2]at hS1;rw[g2]at hS2;exact hS.sep.disj i j R R' h1 g1 hne b hS1 hS2
  ·rw[h2]at hS1;rw[g3]at hS2
   have:=(hF m (hjn m g g1) _ ⟨g,g1,.inr ⟨R',g2,hS2⟩⟩).1;have:=(hS.see.rs i R h1).2 b hS1;omega
  ·rw[h3]at hS1;rw[g2]at hS2
   have:=(hF k (hjn k h h1) _ ⟨h,h1,.inr ⟨R,h2,hS1⟩⟩).1;have:=(hS.see.rs j R' g1).2 b hS2;omega
  ·rw[h3]at hS1;rw[g3]at hS2
   have hkm:k≠m:=fun e=>hne (by rw[e])
   exact hD k m (hjn k h h1) (hjn m g g1) hkm _ ⟨h,h1,.inr ⟨R,h2,hS1⟩⟩ ⟨g,g1,.inr ⟨R',g2,hS2⟩⟩
 ·rcases nb i p hi with⟨h1,h2⟩|⟨k,h,rfl,h1,h2,h3⟩<;>rcases nr j R hj with⟨g1,g2,_⟩|⟨m,g,rfl,g1,g2,g3,_⟩
  ·rw[h2,g2]at hS';exact hS.sep.apart i j p R h1 g1 hS'
  ·rw[h2,g3]at hS'
   have:=(hF m (hjn m g g1) _ ⟨g,g1,.inr ⟨R,g2,hS'⟩⟩).1;have:=hbx i p h1;omega
  ·rw[h3,g2]at hS'
   have:=(hF k (hjn k h h1) _ ⟨h,h1,.inl ⟨p,h2,rfl⟩⟩).1;have:=(hS.see.rs j R g1).2 _ hS';omega
  ·rw[h3,g3]at hS'
   by_cases e:k=m
   ·subst e
    obtain rfl:=Option.some.inj (h1.symm.trans g1)
    exact(hΦ k (hjn k h h1) h h1).2.2.2 p R h2 g2 hS'
   ·exact hD k m (hjn k h h1) (hjn m g g1) e _ ⟨h,h1,.inl ⟨p,h2,rfl⟩⟩ ⟨g,g1,.inr ⟨R,g2,hS'⟩⟩
theorem rch_lt{ops:Array Oper}{n:Nat}(hB:(List.range n).all (fun i=>(waits ops i).all (·<i))=true){i j:Nat}(h:Rch ops i j): i<n→j<i:=by
 have hw:∀a k,a<n→k∈waits ops a→k<a:=fun a k ha hk=>by
  have h1:=List.all_eq_true.1 hB a (List.mem_range.2 ha)
  simpa using List.all_eq_true.1 h1 _ hk
 induction h with
 | one h=>exact fun ha=>hw _ _ ha h
 | more h _ ih =>
  intro ha
  have h1:=hw _ _ ha h
  have:=ih (by omega)
  omega
theorem regionK_ok(hT:TTOk P tt){H:Cx}(hH:HOk' P w0 H.inl){id:Nat}{d:List Dir}{K:St→List Dir→Prop}(h:regionK P tt H w0 id ops σ d K):
  ∀r a w,Sat w0 σ r a w→∀(Q:Exit→Act→World→Prop),(∀(d:Tmp) (v:Value) c a w,Q (.panic c) (a.put (some d) v) w→Q (.panic c) a w)→PanTo w0 H σ r Q→(∀σ' d' r' a' w',K σ' d'→Sat w0 σ' r' a' w'→Ag σ r r'→σ.le σ'→Q .normal a' w')→wpAny P .any ops Q ops.size (Array.replicate ops.size false) a { w with drawn:=w.drawn+1 }:=by
 obtain⟨l⟩:=ops
 unfold regionK at h
 split at h
 case h_2=>exact h.elim
 rename_i n late d0
 dsimp only at h
 obtain⟨hc,h⟩:=ifB_spec h
 obtain⟨hs,d1,hK,hlen,_,hok⟩:=headsK_ok hT n l 0 [] d0 (fun j=>by rw[Nat.zero_add];simp) rfl (fun k x hk=>by simp at hk) h
 rw[Nat.zero_add]at hlen
 have hl:=execL_ok hT hH (l.drop n) n (tailSt σ hs) d1 K hK
 intro r a w hS Q hQ hP hend
 have hok':∀j,j<n→∃(x:Hd) (o:Oper),hs[j]?=some x∧l[j]?=some o∧HOk P w0 l.toArray late σ (hideT (dsOf l n) σ.ts) hs j x o:=fun j hj=>by
  obtain⟨x,o,h1,h2,h4⟩:=hok j (Nat.zero_le _) (by omega)
  exact⟨x,o,h1,by simpa using h2,h4⟩
 have hokx:∀(j:Nat) (x:Hd),hs[j]?=some x→j<n∧∃o,l[j]?=some o∧HOk P w0 l.toArray late σ (hideT (dsOf l n) σ.ts) hs j x o:=fun j x hx=>by
  have hj:j<n:=by have:=(List.getElem?_eq_some_iff.1 hx).1;omega
  obtain⟨y,o,h1,h2,h4⟩:=hok' j hj
  obtain rfl:=Option.some.inj (hx.symm.trans h1)
  exact⟨hj,o,h2,h4⟩
 simp only[okB,Bool.and_eq_true]at hc
 obtain⟨⟨⟨⟨c1,c2⟩,c3⟩,c4⟩,c5⟩:=hc
 obtain⟨hdl,hda⟩:=dsOf_at (l:=l) (n:=n) fun j hj=>by
  obtain⟨x,o,_,h2,h4⟩:=hok' j hj
  exact⟨o,x.d,h2,h4.1⟩
 have hnd:=nodup_of c3
 have hds:∀(j:Nat) (x:Hd),hs[j]?=some x→(dsOf l n)[j]?=some x.d:=fun j x hx=>by
  obtain⟨hj,o,h2,h4⟩:=hokx j x hx
  exact hda j o x.d hj h2 h4.1
 have hlt:∀d,d∈dsOf l n→d<a.tmps.size:=fun d hd=>by
  rw[hS.see.size];simpa using List.all_eq_true.1 c4 d hd
 have hfit:∀(j:Nat) (x:Hd),hs[j]?=some x→∃cl,(visSt σ (hideT (dsOf l n) σ.ts) (hs.take j) cl).fits x.out=true:=fun j x hx=>by
  obtain⟨_,o,_,h4⟩:=hokx j x hx
  exact⟨x.cl,h4.2.2.1⟩
 have hback:(List.range n).all (fun i=>(waits l.toArray i).all (·<i))=true:=by
  have c1':=c1
  simp only[growB,Bool.and_eq_true]at c1'
  rw[hdl]at c1'
  exact c1'.1.2
 have hsee:∀i x,hs[i]?=some x→(∀j,j∈x.cl→Rch l.toArray i j)→∀u γ W,Below w.heap.size w W→(∀j,Rch l.toArray i j→PhiH σ r hs j u γ W)→See w0 (visSt σ (hideT (dsOf l n) σ.ts) (hs.take i) x.cl) (rg σ r γ) (frm a (dsOf l n) u) W:=fun i x hx hcl u γ W hb hΦ =>
  see_vis hS.see (fun k s hk=>look_hide hk) hnd hlen hds hdl hlt hfit (hokx i x hx).1 (fun j hj=>rch_lt hback (hcl j hj) (hokx i x hx).1) hb (fun j hj=>hΦ j (hcl j hj))
 have hlenv:∀i x,hs[i]?=some x→(visSt σ (hideT (dsOf l n) σ.ts) (hs.take i) x.cl).bs.length=σ.bs.length+i∧(visSt σ (hideT (dsOf l n) σ.ts) (hs.take i) x.cl).rs.length=σ.rs.length+i:=fun i x hx=>by
  have hi:=(hokx i x hx).1
  have hti:(hs.take i).length=i:=by rw[List.length_take];omega
  rw[vis_bs,vis_rs,hti];exact⟨rfl,rfl⟩
 refine wpAny_region_gh (Γ:=Gh) (l:=l) (dsOf l n) (fun W=>Below w.heap.size w W) (PhiH σ r hs) (FrH hs) (fun _=>Gh.no) (fun i=>!late.contains i) c1 hQ c2 c3 (List.all_eq_true.2 fun d hd=>by simpa using hlt d hd) (Below.refl _ _).drew ?hst ?hcg ?hop ?hlate ?htail
 case hst =>
  intro i u γ W W' _ hb hΦ x hx
  obtain⟨p1,p2,p3,p4⟩:=hΦ x hx
  exact⟨p1,fun t cs e=>(p2 t cs e).later hb,fun R e=>⟨⟨R.loc _ _ _ _ (fun b hb'=>hb.block b ((p3 R e).1.2 b hb')) (p3 R e).1.1,fun b hb'=>Nat.lt_of_lt_of_le ((p3 R e).1.2 b hb') hb.size⟩,(p3 R e).2⟩,p4⟩
 case hcg =>
  intro i u u' γ γ' W hi hu hΦ x hx
  obtain⟨_,o,_,ok⟩:=hokx i x hx
  obtain⟨p1,p2,p3,p4⟩:=hΦ x hx
  have hγ:∀j,j∈i::x.cl→γ j=γ' j:=fun j hj=>by
   rcases List.mem_cons.1 hj with rfl|hj
   ·exact(hu j (.inl rfl)).2
   ·exact(hu j (.inr (ok.2.1 j hj))).2
  have hi':=hu i (.inl rfl)
  obtain⟨f1,f2⟩:=Bool.and_eq_true_iff.1 ok.2.2.2.1
  rw[← hi'.1,← hi'.2]
  refine⟨by rw[p1];exact den_congr (fun k hk=>rg_b hγ hk) (fun k hk=>rg_x hγ hk) _ f1,fun t cs e=>?_,p3,p4⟩
  rw[e]at f2
  rw[← denL_congr (r:=rg σ r γ) (fun k hk=>rg_b (fun j hj=>hγ j (List.mem_cons_of_mem _ hj)) hk) (fun k hk=>rg_x (fun j hj=>hγ j (List.mem_cons_of_mem _ hj)) hk) cs f2]
  exact p2 t cs e
 case hop =>
  intro i hi o ho u γ W hG hΦ Q' K' hK'
  obtain⟨x,o',hx,ho',ok⟩:=hok' i (by omega)
  have eo:o'=o:=Option.some.inj (ho'.symm.trans (by simpa using ho))
  subst eo
  obtain⟨k1,k2,k3,k4,k5⟩:=ok
  have see:=hsee i x hx k2 u γ W hG hΦ
  obtain⟨l1,l2⟩:=hlenv i x hx
  have hadd:∀g:Gh,g.x.oneCell'=true→rg σ r (upd γ i g)=(rg σ r γ).add' (visSt σ (hideT (dsOf l n) σ.ts) (hs.take i) x.cl) g:=fun g hg=>by
   unfold Env.add'
   rw[rg_upd hg,l1,l2]
  have hno:∀v w',x.out.b=none→x.out.r=none→v=x.out.s.den (rg σ r γ)→Below W.heap.size W w'→K' ((frm a (dsOf l n) u).put o'.dst v) w':=fun v w' e1 e2 hv hb=>by
   refine hK' v (γ i) w' hb (nxt hG hb) ?_ ?_
   ·intro y hy
    obtain rfl:=Option.some.inj (hx.symm.trans hy)
    have eγ:upd γ i (γ i)=γ:=by funext k;unfold upd;split<;>simp_all
    rw[eγ,upd_at]
    exact⟨hv,fun t cs e=>(by rw[e1]at e;cases e),fun R e=>(by rw[e2]at e;cases e),fun p R e=>(by rw[e1]at e;cases e)⟩
   ·rintro b ⟨y,hy,hc⟩
    obtain rfl:=Option.some.inj (hx.symm.trans hy)
    rcases hc with⟨p,e,_⟩|⟨R,e,_⟩
    ·rw[e1]at e;cases e
    ·rw[e2]at e;cases e
  rcases k5 with⟨kw,⟨_,kq⟩|⟨_,e1,e2,kr⟩⟩|⟨kw,_,ke⟩
  ·rw[if_pos (kw _ _ _ see)]
   refine kq _ _ _ see Q' K' ?_
   rintro out g w' rfl hb hmade
   refine hK' _ g w' hb (nxt hG hb) ?_ ?_
   ·intro y hy
    obtain rfl:=Option.some.inj (hx.symm.trans hy)
    rw[upd_at,upd_at,hadd g hmade.one]
    exact⟨rfl,fun t cs e=>(hmade.b t cs e).1,fun R e=>⟨⟨(hmade.r R e).1,fun b hb'=>((hmade.r R e).2 b hb').2⟩,hmade.one⟩,hmade.apart⟩
   ·rintro b ⟨y,hy,hc⟩
    obtain rfl:=Option.some.inj (hx.symm.trans hy)
    rcases hc with⟨p,e,rfl⟩|⟨R,e,hb'⟩
    ·exact⟨(hmade.b p.1 p.2 e).2,(hmade.b p.1 p.2 e).1.lt⟩
    ·exact(hmade.r R e).2 b hb'
  ·rw[if_pos (kw _ _ _ see)]
   unfold Oper.wp
   rw[kr _ _ _ see]
   exact hno _ _ e1 e2 rfl (Below.refl _ _)
  ·rw[if_neg (by rw[kw _ _ _ see];simp)]
   exact hno undef W (by rw[ke];rfl) (by rw[ke];rfl) (by rw[ke];rfl) (Below.refl _ _)
 case hlate =>
  intro i hi hst
  obtain⟨x,o',hx,ho',ok⟩:=hok' i (by omega)
  obtain⟨k1,k2,k3,k4,k5⟩:=ok
  have hml:memB i late=true:=by
   refine memB_mem.2 ?_
   simpa using hst
  rcases k5 with⟨kw,⟨e,_⟩|⟨_,e1,e2,kr⟩⟩|⟨_,e,_⟩
  ·rw[hml]at e;cases e
  ·refine⟨?_,fun o ho u γ W hG hΦ=>?_⟩
   ·rintro g b ⟨y,hy,hc⟩
    obtain rfl:=Option.some.inj (hx.symm.trans hy)
    rcases hc with⟨p,e,_⟩|⟨R,e,_⟩
    ·rw[e1]at e;cases e
    ·rw[e2]at e;cases e
   ·have eo:o'=o:=Option.some.inj (ho'.symm.trans (by simpa using ho))
    subst eo
    have see:=hsee i x hx k2 u γ W hG hΦ
    refine⟨_,.inl ⟨kw _ _ _ see,fun w'=>kr _ _ _ see w'⟩,?_⟩
    intro y hy
    obtain rfl:=Option.some.inj (hx.symm.trans hy)
    rw[upd_at]
    exact⟨rfl,fun t cs e=>(by rw[e1]at e;cases e),fun R e=>(by rw[e2]at e;cases e),fun p R e=>(by rw[e1]at e;cases e)⟩
  ·rw[hml]at e;cases e
 case htail =>
  intro u γ W hG hΦ hF hD
  rw[hdl]at hΦ hF hD ⊢
  have hle:σ.le (tailSt σ hs):=⟨by rw[tail_bs];exact Nat.le_add_right _ _,by rw[tail_rs];exact Nat.le_add_right _ _⟩
  have hag:Ag σ r (rg σ r γ):=⟨fun _ hi=>if_pos hi,fun _ hi=>if_pos hi⟩
  exact hl _ _ _ (sat_tail hS hnd hlen hds hdl hlt hfit hG hΦ hF hD) Q (hP.later hag hle) fun σ' d' r' a' w' hk hS' hg' hle'=>hend σ' d' r' a' w' hk hS' (hag.trans hle hg') (hle.trans hle')
end
open Go Go.RowKit
inductive Ex where
 | normal
 | exit (id:Nat)
 | ret
def Ex.to:Ex→Exit
 | .normal=>.normal
 | .exit id=>.exit id
 | .ret=>.ret
def sameN(a b:Value)(p:Prop): Prop:=match a with
 | .int k x=>(match b with
  | .int k' y=>ifB (kindB k k') (x=y∧p)
  | _=>False)
 | .bool x=>(match b with
  | .bool y=>x=y∧p
  | _=>False)
 | .string x=>(match b with
  | .string y=>x=y∧p
  | _=>False)
 | a=>a=b∧p
theorem sameN_spec{a b:Value}{p:Prop}(h:sameN a b p): a=b∧p:=by
 unfold sameN at h
 split at h
 ·split at h
  ·obtain⟨hk,e,h2⟩:=ifB_spec h
   rw[kindB_eq hk,e];exact⟨rfl,h2⟩
  ·exact h.elim
 ·split at h
  ·obtain⟨rfl,h⟩:=h;exact⟨rfl,h⟩
  ·exact h.elim
 ·split at h
  ·obtain⟨rfl,h⟩:=h;exact⟨rfl,h⟩
  ·exact h.elim
 ·exact h
mutual
def sameS(s u:SV)(p:Prop): Prop:=match s with
 | .val a=>(match u with
  | .val b=>sameN a b p
  | _=>False)
 | .ptr b o=>(match u with
  | .ptr b' o'=>ifB (Nat.beq b b'&&Nat.beq o o') p
  | _=>False)
 | .sli b o n c=>(match u with
  | .sli b' o' n' c'=>ifB (Nat.beq b b'&&Nat.beq o o'&&Nat.beq n n'&&Nat.beq c c') p
  | _=>False)
 | .clo f l m=>(match u with
  | .clo f' l' m'=>f=f'∧sameL l l' (sameL m m' p)
  | _=>False)
 | .agg l=>(match u with
  | .agg m=>sameL l m p
  | _=>False)
 | .tup l=>(match u with
  | .tup m=>sameL l m p
  | _=>False)
 | .han i=>(match u with
  | .han j=>ifB (Nat.beq i j) p
  | _=>False)
def sameL(l m:List SV)(p:Prop): Prop:=match l with
 | []=>(match m with
  | []=>p
  | _=>False)
 | s::l=>(match m with
  | u::m=>sameS s u (sameL l m p)
  | _=>False)
end
mutual
theorem sameS_spec:∀(s u:SV) (p:Prop),sameS s u p→s=u∧p
 | .val a,u,p,h=>by
  cases u<;>first|exact False.elim h|skip
  obtain⟨e,h2⟩:=sameN_spec (show sameN a _ p from h)
  rw[e];exact⟨rfl,h2⟩
 | .ptr b o,u,p,h=>by
  cases u<;>first|exact False.elim h|skip
  obtain⟨hk,h⟩:=ifB_spec (show ifB _ p from h)
  obtain⟨h1,h2⟩:=Bool.and_eq_true_iff.1 hk
  rw[Nat.eq_of_beq_eq_true h1,Nat.eq_of_beq_eq_true h2];exact⟨rfl,h⟩
 | .sli b o n c,u,p,h=>by
  cases u<;>first|exact False.elim h|skip
  obtain⟨hk,h⟩:=ifB_spec (show ifB _ p from h)
  obtain⟨hk,h4⟩:=Bool.and_eq_true_iff.1 hk
  obtain⟨hk,h3⟩:=Bool.and_eq_true_iff.1 hk
  obtain⟨h1,h2⟩:=Bool.and_eq_true_iff.1 hk
  rw[Nat.eq_of_beq_eq_true h1,Nat.eq_of_beq_eq_true h2,Nat.eq_of_beq_eq_true h3,Nat.eq_of_beq_eq_true h4];exact⟨rfl,h⟩
 | .clo f l m,u,p,h=>by
  cases u<;>first|exact False.elim h|skip
  obtain⟨e1,h2⟩:=(show _=_∧sameL l _ (sameL m _ p)from h)
  obtain⟨e2,h3⟩:=sameL_spec l _ _ h2
  obtain⟨e3,h4⟩:=sameL_spec m _ _ h3
  rw[e1,e2,e3];exact⟨rfl,h4⟩
 | .agg l,u,p,h=>by
  cases u<;>first|exact False.elim h|skip
  obtain⟨e,h2⟩:=sameL_spec l _ p h
  rw[e];exact⟨rfl,h2⟩
 | .tup l,u,p,h=>by
  cases u<;>first|exact False.elim h|skip
  obtain⟨e,h2⟩:=sameL_spec l _ p h
  rw[e];exact⟨rfl,h2⟩
 | .han i,u,p,h=>by
  cases u<;>first|exact False.elim h|skip
  obtain⟨hk,h⟩:=ifB_spec (show ifB _ p from h)
  rw[Nat.eq_of_beq_eq_true hk];exact⟨rfl,h⟩
theorem sameL_spec:∀(l m:List SV) (p:Prop),sameL l m p→l=m∧p
 | [],m,p,h=>by
  cases m<;>first|exact⟨rfl,h⟩|exact False.elim h
 | s::l,m,p,h=>by
  cases m with
  | nil=>exact False.elim h
  | cons u m =>
   obtain⟨e1,h2⟩:=sameS_spec s u _ h
   obtain⟨e2,h3⟩:=sameL_spec l m p h2
   rw[e1,e2];exact⟨rfl,h3⟩
end
def subT(σ τ:St): List (Nat×SV)→Prop→Prop
 | [],p=>p
 | (k,s)::l,p=>match look k σ.ts with
  | some u=>ifB (τ.lt s) (sameS u s (subT σ τ l p))
  | none=>False
def subB(τ:St): List (Option (TypeId×List SV))→List (Option (TypeId×List SV))→Prop→Prop
 | _,[],p=>p
 | [],_::_,_=>False
 | _::l,none::m,p=>subB τ l m p
 | x::l,some q::m,p=>ifB (τ.ltL q.2) (x=some q∧subB τ l m p)
def subR:List (Option Res)→List (Option Res)→Prop→Prop
 | _,[],p=>p
 | [],_::_,_=>False
 | _::l,none::m,p=>subR l m p
 | x::l,some R::m,p=>match x with
  | some R'=>(∀v S w,R'.φ v S w→R.φ v S w)∧subR l m p
  | none=>False
def subK(σ τ:St)(p:Prop): Prop:=ifB (Nat.beq σ.n τ.n) (subT σ τ τ.ts (subB τ σ.bs τ.bs (subR σ.rs τ.rs p)))
def firstR:Code→Option Nat
 | .region id _ _=>some id
 | .seq a b=>(match firstR a with
  | some k=>some k
  | none=>firstR b)
 | .cond _ a b=>(match firstR a with
  | some k=>some k
  | none=>firstR b)
 | .block _ b=>firstR b
 | .loop b=>firstR b
 | .rangeFunc _ _ a b=>(match firstR a with
  | some k=>some k
  | none=>firstR b)
 | _=>none
def firstN(c:Code): Nat:=match firstR c with
 | some k=>k
 | none=>0
def keepR:List (Option Res)→List (Option Res)→List (Option Res)
 | _,[]=>[]
 | [],m=>m
 | _::l,some R::m=>some R::keepR l m
 | x::l,none::m=>x::keepR l m
def keepB:List (Option (TypeId×List SV))→List (Option (TypeId×List SV))→List (Option (TypeId×List SV))
 | _,[]=>[]
 | [],m=>m
 | _::l,some (t,c::cs)::m=>some (t,c::cs)::keepB l m
 | _::l,some (_,[])::m=>none::keepB l m
 | x::l,none::m=>x::keepB l m
def keepS(σ τ:St): St:={ τ with bs:=keepB σ.bs τ.bs,rs:=keepR σ.rs τ.rs }
def ltO(τ:St): Option (TypeId×List SV)→Bool
 | none=>true
 | some q=>τ.ltL q.2
def subC(τ:St): List (Option (TypeId×List SV))→List (Option (TypeId×List SV))→List (Option (TypeId×List SV))→Prop→Prop
 | _,_,[],p=>p
 | [],_,_::_,_=>False
 | _::_,[],_::_,_=>False
 | x::l,y::m,none::n,p=>ifB (ltO τ y) (x=y∧subC τ l m n p)
 | _::l,_::m,some (_,[])::n,p=>subC τ l m n p
 | x::l,_::m,some (t,c::cs)::n,p=>match x with
  | some (u,ds)=>ifB (Nat.beq u t&&τ.ltL (c::cs)) (sameL ds (c::cs) (subC τ l m n p))
  | none=>False
def subJ(σ' σ τ:St)(p:Prop): Prop:=ifB (Nat.beq σ'.n τ.n) (subT σ' (keepS σ τ) τ.ts (subC (keepS σ τ) σ'.bs σ.bs τ.bs (subR σ'.rs (keepR σ.rs τ.rs) p)))
def isGh:List Dir→Bool
 | .row _ j _ _ _ _ _ _ _::_=>Nat.beq j 99999
 | .nil _ j _ _ _::_=>Nat.beq j 99999
 | .join _ j _ _::_=>Nat.beq j 99999
 | .cnv _ j _ _::_=>Nat.beq j 99999
 | .opn _ j _ _ _ _::_=>Nat.beq j 99999
 | _=>false
def flB(fl:Nat×Nat)(σ:St): Bool:=Nat.ble fl.1 σ.bs.length&&Nat.ble fl.2 σ.rs.length
def loopN(f:St→List Dir→(Ex→St→List Dir→Prop)→Prop): Nat→St→List Dir→(Ex→St→List Dir→Prop)→Prop
 | 0,_,_,_=>False
 | n+1,σ,d,K=>f σ d fun e σ' d'=>match e with
  | .normal=>loopN f n σ' d' K
  | .exit id=>K (.exit id) σ' d'
  | .ret=>K .ret σ' d'
def exec(P:Program)(tt:List (Nat×TI))(H:Cx)(fl:Nat×Nat)(w0:World): Code→St→List Dir→(Ex→St→List Dir→Prop)→Prop
 | .skip,σ,d,K=>K .normal σ d
 | .region id ops dr,σ,d,K=>(match dr with
  | true=>regionK P tt H w0 id ops σ d fun σ d=>K .normal σ d
  | false=>execL P tt H w0 id ops ops.toList 0 σ d fun σ d=>K .normal σ d)
 | .seq a b,σ,d,K=>exec P tt H fl w0 a σ d fun e σ d=>match e with
  | .normal=>(match isGh d with
   | true=>ghostK (firstN b) 99999 4 σ d fun σ d=>exec P tt H fl w0 b σ d K
   | false=>exec P tt H fl w0 b σ d K)
  | .exit id=>K (.exit id) σ d
  | .ret=>K .ret σ d
 | .cond c x y,σ,d,K=>evK σ c fun s=>match s with
  | .val (.bool v)=>(match d with
   | .br b::d=>v=b∧(match b with
    | true=>exec P tt H fl w0 x σ d K
    | false=>exec P tt H fl w0 y σ d K)
   | .both dx dy::_=>(v=true→exec P tt H fl w0 x σ dx K)∧(v=false→exec P tt H fl w0 y σ dy K)
   | d=>(match v with
    | true=>exec P tt H fl w0 x σ d K
    | false=>exec P tt H fl w0 y σ d K))
  | _=>False
 | .block id b,σ,d,K=>exec P tt H fl w0 b σ d fun e σ d=>match e with
  | .normal=>K .normal σ d
  | .exit i=>(match Nat.beq i id with
   | true=>K .normal σ d
   | false=>K (.exit i) σ d)
  | .ret=>K .ret σ d
 | .loop b,σ,d,K=>(match d with
  | .loop I C μ a0 nx bd::_=>subJ σ σ (I a0) (C a0∧∀a,C a→ifB (flB fl (keepS σ (I a))) (exec P tt H fl w0 b (keepS σ (I a)) (bd a) fun e σ' d'=>match e with
   | .normal=>(match d' with
    | .next k::_=>subJ σ' σ (I (nx a k)) (C (nx a k)∧μ (nx a k)<μ a)
    | _=>False)
   | .exit id=>K (.exit id) σ' d'
   | .ret=>K .ret σ' d'))
  | .lop I C μ a0 nx bd::_=>subJ σ σ (I a0) (C a0∧∀a,C a→ifB (flB fl (keepS σ (I a))) (exec P tt H fl w0 b (keepS σ (I a)) (bd a) fun e σ' d'=>match e with
   | .normal=>(match d' with
    | .nxt u::_=>subJ σ' σ (I (nx a u)) (C (nx a u)∧μ (nx a u)<μ a)
    | _=>False)
   | .exit id=>K (.exit id) σ' d'
   | .ret=>K .ret σ' d'))
  | .unr n::d'=>loopN (fun σ d K=>exec P tt H fl w0 b σ d K) n σ d' K
  | _=>False)
 | .exit id,σ,d,K=>K (.exit id) σ d
 | .ret,σ,d,K=>K .ret σ d
 | .label _,σ,d,K=>K .normal σ d
 | _,_,_,_=>False
section
variable {P:Program} {tt:List (Nat×TI)} {w0:World}
theorem subT_spec{σ τ:St}: ∀ {l:List (Nat×SV)} {p:Prop},subT σ τ l p→p∧∀k s,look k l=some s→look k σ.ts=some s∧τ.lt s=true
 | [],p,h=>⟨h,fun _ _ h=>by cases h⟩
 | (j,u)::l,p,h=>by
  unfold subT at h
  split at h
  ·rename_i y hy
   obtain⟨h1,h2⟩:=ifB_spec h
   obtain⟨rfl,h3⟩:=sameS_spec _ _ _ h2
   obtain⟨h4,h5⟩:=subT_spec (l:=l) h3
   refine⟨h4,fun k s hk=>?_⟩
   unfold look at hk
   cases e:Nat.beq j k with
   | true =>
    rw[e]at hk
    obtain rfl:=Option.some.inj hk
    rw[← Nat.eq_of_beq_eq_true e]
    exact⟨hy,h1⟩
   | false=>rw[e]at hk;exact h5 k s hk
  ·exact h.elim
theorem subB_spec{τ:St}: ∀ {l m:List (Option (TypeId×List SV))} {p:Prop},subB τ l m p→p∧m.length≤l.length∧∀i t cs,nth m i=some (t,cs)→nth l i=some (t,cs)∧τ.ltL cs=true
 | l,[],p,h=>⟨(by cases l<;>exact h),Nat.zero_le _,fun _ _ _ h=>by cases h⟩
 | [],_::_,p,h=>False.elim h
 | x::l,none::m,p,h=>by
  obtain⟨h1,h2,h3⟩:=subB_spec (l:=l) (m:=m) h
  refine⟨h1,Nat.succ_le_succ h2,fun i t cs hi=>?_⟩
  cases i with
  | zero=>cases hi
  | succ i=>exact h3 i t cs hi
 | x::l,some q::m,p,h=>by
  obtain⟨k2,rfl,h4⟩:=ifB_spec h
  obtain⟨h1,h2,h3⟩:=subB_spec (l:=l) (m:=m) h4
  refine⟨h1,Nat.succ_le_succ h2,fun i t' cs' hi=>?_⟩
  cases i with
  | zero=>obtain rfl:=Option.some.inj hi;exact⟨rfl,k2⟩
  | succ i=>exact h3 i t' cs' hi
theorem subC_spec{τ:St}: ∀ {l m n:List (Option (TypeId×List SV))} {p:Prop},subC τ l m n p→p∧(keepB m n).length≤l.length∧∀i t cs,nth (keepB m n) i=some (t,cs)→nth l i=some (t,cs)∧τ.ltL cs=true
 | l,m,[],p,h=>⟨(by unfold subC at h;exact h),(by unfold keepB;exact Nat.zero_le _),fun _ _ _ h=>by unfold keepB at h;cases h⟩
 | x::l,y::m,none::n,p,h=>by
  unfold subC at h
  obtain⟨k2,rfl,h4⟩:=ifB_spec h
  obtain⟨h1,h2,h3⟩:=subC_spec (l:=l) (m:=m) (n:=n) h4
  refine⟨h1,Nat.succ_le_succ h2,fun i t' cs' hi=>?_⟩
  cases i with
  | zero=>obtain rfl:x=some (t',cs'):=hi;exact⟨rfl,k2⟩
  | succ i=>exact h3 i t' cs' hi
 | x::l,y::m,some (t,[])::n,p,h=>by
  unfold subC at h
  obtain⟨h1,h2,h3⟩:=subC_spec (l:=l) (m:=m) (n:=n) h
  refine⟨h1,Nat.succ_le_succ h2,fun i t' cs' hi=>?_⟩
  cases i with
  | zero=>cases hi
  | succ i=>exact h3 i t' cs' hi
 | x::l,y::m,some (t,c::cs)::n,p,h=>by
  unfold subC at h
  split at h
  ·rename_i u ds
   obtain⟨hk,h⟩:=ifB_spec h
   obtain⟨k1,k2⟩:=Bool.and_eq_true_iff.1 hk
   obtain⟨e1,h4⟩:=sameL_spec _ _ _ h
   have e2:=Nat.eq_of_beq_eq_true k1
   obtain⟨h1,h2,h3⟩:=subC_spec (l:=l) (m:=m) (n:=n) h4
   refine⟨h1,Nat.succ_le_succ h2,fun i t' cs' hi=>?_⟩
   cases i with
   | zero =>
    have e:(t,c::cs)=(t',cs'):=Option.some.inj hi
    obtain⟨rfl,rfl⟩:=Prod.mk.inj e
    rw[e1,e2]
    exact⟨rfl,k2⟩
   | succ i=>exact h3 i t' cs' hi
  ·exact h.elim
 | [],_,_::_,p,h=>False.elim h
 | _::_,[],_::_,p,h=>False.elim h
theorem subR_spec:∀ {l m:List (Option Res)} {p:Prop},subR l m p→p∧m.length≤l.length∧∀i R,nth m i=some R→∃R',nth l i=some R'∧∀v S w,R'.φ v S w→R.φ v S w
 | l,[],p,h=>⟨(by cases l<;>exact h),Nat.zero_le _,fun _ _ h=>by cases h⟩
 | [],_::_,p,h=>False.elim h
 | x::l,none::m,p,h=>by
  obtain⟨h1,h2,h3⟩:=subR_spec (l:=l) (m:=m) h
  refine⟨h1,Nat.succ_le_succ h2,fun i R hi=>?_⟩
  cases i with
  | zero=>cases hi
  | succ i=>exact h3 i R hi
 | x::l,some R::m,p,h=>by
  unfold subR at h
  split at h
  ·rename_i R'
   obtain⟨h1,h2,h3⟩:=subR_spec (l:=l) (m:=m) h.2
   refine⟨h1,Nat.succ_le_succ h2,fun i R2 hi=>?_⟩
   cases i with
   | zero =>
    obtain rfl:=Option.some.inj hi
    exact⟨R',rfl,h.1⟩
   | succ i=>exact h3 i R2 hi
  ·exact h.elim
theorem sat_sub{σ τ:St}(hn:Nat.beq σ.n τ.n=true)(ht:∀k s,look k τ.ts=some s→look k σ.ts=some s∧τ.lt s=true)(hb:∀i t cs,nth τ.bs i=some (t,cs)→nth σ.bs i=some (t,cs)∧τ.ltL cs=true)(rl:τ.rs.length≤σ.rs.length)(hr:∀i R,nth τ.rs i=some R→∃R',nth σ.rs i=some R'∧∀v S w,R'.φ v S w→R.φ v S w): ∀r a w,Sat w0 σ r a w→Sat w0 τ r a w:=by
 refine fun r a w hS=>⟨⟨hS.see.low,hS.see.size.trans (Nat.eq_of_beq_eq_true hn),fun k s hk=>?_,fun i t cs hi=>?_,fun i R hi=>?_,fun i hi=>hS.see.one i (Nat.lt_of_lt_of_le hi rl)⟩,⟨fun i p hi=>?_,fun i j p q hi hj=>?_,fun i R hi=>?_,fun i j R R' hi hj=>?_,fun i j p R hi hj=>?_⟩,hS.defers⟩
 ·obtain⟨h1,h2⟩:=ht k s hk
  exact⟨(hS.see.ts k s h1).1,h2⟩
 ·obtain⟨h1,h2⟩:=hb i t cs hi
  exact⟨(hS.see.bs i t cs h1).1,h2⟩
 ·obtain⟨R',h1,h2⟩:=hr i R hi
  obtain⟨h3,h4⟩:=hS.see.rs i R' h1
  exact⟨h2 _ _ _ h3,h4⟩
 ·exact hS.sep.own i p (hb i p.1 p.2 hi).1
 ·exact hS.sep.inj i j p q (hb i p.1 p.2 hi).1 (hb j q.1 q.2 hj).1
 ·obtain⟨R',h1,_⟩:=hr i R hi
  exact hS.sep.ownS i R' h1
 ·obtain⟨_,h1,_⟩:=hr i R hi
  obtain⟨_,h2,_⟩:=hr j R' hj
  exact hS.sep.disj i j _ _ h1 h2
 ·obtain⟨_,h2,_⟩:=hr j R hj
  exact hS.sep.apart i j p _ (hb i p.1 p.2 hi).1 h2
theorem subK_spec{σ τ:St}{p:Prop}(h:subK σ τ p): p∧∀r a w,Sat w0 σ r a w→Sat w0 τ r a w:=by
 obtain⟨hn,h⟩:=ifB_spec h
 obtain⟨h,ht⟩:=subT_spec h
 obtain⟨h,_,hb⟩:=subB_spec h
 obtain⟨h,rl,hr⟩:=subR_spec h
 exact⟨h,sat_sub hn ht hb rl hr⟩
theorem subJ_spec{σ' σ τ:St}{p:Prop}(h:subJ σ' σ τ p): p∧∀r a w,Sat w0 σ' r a w→Sat w0 (keepS σ τ) r a w:=by
 obtain⟨hn,h⟩:=ifB_spec h
 obtain⟨h,ht⟩:=subT_spec h
 obtain⟨h,_,hb⟩:=subC_spec h
 obtain⟨h,rl,hr⟩:=subR_spec h
 exact⟨h,sat_sub (τ:=keepS σ τ) hn ht hb rl hr⟩
theorem wp_loop_gen{α:Type}{c:Code}{Q:Exit→Act→World→Prop}(J:α→Act→World→Prop)(μ:α→Nat)(round:∀x a w,J x a w→c.wp P (Exit.then (fun a' w'=>∃y,J y a' w'∧μ y<μ x) Q) a w)(x0:α){a:Act}{w:World}(h0:J x0 a w): (Code.loop c).wp P Q a w:=by
 intro b k cs
 have key:∀n x a w,μ x=n→J x a w→∃e a' w',Q e a' w'∧Arrives P (lone (b.at a (.code c::.inLoop c::k)) cs w) b k cs e a' w':=by
  intro n
  induction n using Nat.strongRecOn with
  | _ n ih =>
   intro x a w hn hI
   obtain⟨e,a₁,w₁,hq,harr⟩:=round x a w hI b (.inLoop c::k) cs
   cases e with
   | normal =>
    obtain⟨y,hI₁,hlt⟩:=hq
    obtain⟨e₂,a₂,w₂,hq₂,harr₂⟩:=ih (μ y) (hn▸hlt) y a₁ w₁ rfl hI₁
    exact⟨e₂,a₂,w₂,hq₂,.of_steps (Steps.trans harr (.one step_inLoop)) harr₂⟩
   | exit id=>exact⟨_,a₁,w₁,hq,.pass (x:=.inLoop c) rfl (fun _ _=>.inl (by simp)) harr⟩
   | goto l=>exact⟨_,a₁,w₁,hq,.pass (x:=.inLoop c) rfl (fun _ _=>.inl (by simp)) harr⟩
   | ret=>exact⟨_,a₁,w₁,hq,.pass (x:=.inLoop c) rfl (fun _ _=>.inl (by simp)) harr⟩
   | panic ch=>exact⟨_,a₁,w₁,hq,.pass (x:=.inLoop c) rfl (fun _ _=>.inl (by simp)) harr⟩
   | outgrown=>exact⟨_,a₁,w₁,hq,.pass (x:=.inLoop c) rfl (fun _ _=>.inl (by simp)) harr⟩
 obtain⟨e,a',w',hq,harr⟩:=key _ x0 a w rfl h0
 exact⟨e,a',w',hq,.of_steps (.one step_loop) harr⟩
structure Rules (P:Program) (V:Code→(Exit→Act→World→Prop)→Act→World→Prop):Prop where
 skip:∀ {Q:Exit→Act→World→Prop} {a:Act} {w:World},Q .normal a w→V .skip Q a w
 label:∀ {l:Nat} {Q:Exit→Act→World→Prop} {a:Act} {w:World},Q .normal a w→V (.label l) Q a w
 exit:∀ {id:Nat} {Q:Exit→Act→World→Prop} {a:Act} {w:World},Q (.exit id) a w→V (.exit id) Q a w
 ret:∀ {Q:Exit→Act→World→Prop} {a:Act} {w:World},Q .ret a w→V .ret Q a w
 rl:∀ {id:Nat} {ops:Array Oper} {Q:Exit→Act→World→Prop} {a:Act} {w:World},wpList P ops Q ops.toList a w→V (.region id ops false) Q a w
 rd:∀ {id:Nat} {ops:Array Oper} {Q:Exit→Act→World→Prop} {a:Act} {w:World},wpAny P .any ops Q ops.size (Array.replicate ops.size false) a { w with drawn:=w.drawn+1 }→V (.region id ops true) Q a w
 seq:∀ {x y:Code} {Q:Exit→Act→World→Prop} {a:Act} {w:World},V x (Exit.then (V y Q) Q) a w→V (.seq x y) Q a w
 ct:∀ {c:Operand} {x y:Code} {Q:Exit→Act→World→Prop} {a:Act} {w:World},a.eval c=.bool true→V x Q a w→V (.cond c x y) Q a w
 cf:∀ {c:Operand} {x y:Code} {Q:Exit→Act→World→Prop} {a:Act} {w:World},a.eval c=.bool false→V y Q a w→V (.cond c x y) Q a w
 block:∀ {id:Nat} {c:Code} {Q:Exit→Act→World→Prop} {a:Act} {w:World},V c (Exit.inBlock id Q) a w→V (.block id c) Q a w
 loop:∀ {α:Type} {c:Code} {Q:Exit→Act→World→Prop} (J:α→Act→World→Prop) (μ:α→Nat),(∀x a w,J x a w→V c (Exit.then (fun a' w'=>∃y,J y a' w'∧μ y<μ x) Q) a w)→∀(x0:α) {a:Act} {w:World},J x0 a w→V (.loop c) Q a w
theorem rules_wp(hm:P.follows .mixedOrders=true): Rules P fun c Q a w=>c.wp P Q a w :=
 ⟨wp_skip,wp_label,wp_exit,wp_ret,wp_region_list,wp_region_any hm,wp_seq,wp_cond_true,wp_cond_false,wp_block,fun J μ h x0 _ _ h0=>wp_loop_gen J μ h x0 h0⟩
def PanicOk(Q:Exit→Act→World→Prop): Prop:=∀(d:Tmp) (v:Value) c a w,Q (.panic c) (a.put (some d) v) w→Q (.panic c) a w
def AgN(fl:Nat×Nat)(r r':Env): Prop:=(∀i,i<fl.1→r'.b i=r.b i)∧∀i,i<fl.2→r'.x i=r.x i
def FlOk(fl:Nat×Nat)(σ:St): Prop:=fl.1≤σ.bs.length∧fl.2≤σ.rs.length
theorem AgN.refl(fl:Nat×Nat)(r:Env): AgN fl r r:=⟨fun _ _=>rfl,fun _ _=>rfl⟩
theorem AgN.trans{fl:Nat×Nat}{r r' r'':Env}(h:AgN fl r r')(k:AgN fl r' r''): AgN fl r r'':=⟨fun i hi=>(k.1 i hi).trans (h.1 i hi),fun i hi=>(k.2 i hi).trans (h.2 i hi)⟩
theorem Ag.n{fl:Nat×Nat}{σ:St}{r r':Env}(h:Ag σ r r')(hf:FlOk fl σ): AgN fl r r':=⟨fun i hi=>h.1 i (Nat.lt_of_lt_of_le hi hf.1),fun i hi=>h.2 i (Nat.lt_of_lt_of_le hi hf.2)⟩
theorem FlOk.le{fl:Nat×Nat}{σ σ':St}(h:FlOk fl σ)(k:σ.le σ'): FlOk fl σ':=⟨Nat.le_trans h.1 k.1,Nat.le_trans h.2 k.2⟩
theorem flB_ok{fl:Nat×Nat}{σ:St}(h:flB fl σ=true): FlOk fl σ:=by
 obtain⟨h1,h2⟩:=Bool.and_eq_true_iff.1 h
 exact⟨Nat.le_of_ble_eq_true h1,Nat.le_of_ble_eq_true h2⟩
def PanN(w0:World)(H:Cx)(fl:Nat×Nat)(r:Env)(Q:Exit→Act→World→Prop): Prop:=∀s σ' d' r' a' w',H.pan s σ' d'→Sat w0 σ' r' a' w'→FlOk fl σ'→AgN fl r r'→σ'.lt s=true→Q (.panic [{ v:=s.den r',recovered:=false }]) a' w'
theorem PanN.at{H:Cx}{fl:Nat×Nat}{σ:St}{r:Env}{Q:Exit→Act→World→Prop}(h:PanN w0 H fl r Q)(hf:FlOk fl σ): PanTo w0 H σ r Q:=fun s σ' d' r' a' w' hk hS hg hl hs=>h s σ' d' r' a' w' hk hS (hf.le hl) (hg.n hf) hs
theorem PanN.later{H:Cx}{fl:Nat×Nat}{r r':Env}{Q:Exit→Act→World→Prop}(h:PanN w0 H fl r Q)(hg:AgN fl r r'): PanN w0 H fl r' Q:=fun s σ' d' r2 a' w' hk hS hf hg2 hs=>h s σ' d' r2 a' w' hk hS hf (hg.trans hg2) hs
theorem exec_by{V:Code→(Exit→Act→World→Prop)→Act→World→Prop}(hV:Rules P V)(hT:TTOk P tt){H:Cx}(hH:HOk' P w0 H.inl)(fl:Nat×Nat): ∀(c:Code) (σ:St) (d:List Dir) (K:Ex→St→List Dir→Prop),exec P tt H fl w0 c σ d K→FlOk fl σ→∀r a w,Sat w0 σ r a w→∀(Q:Exit→Act→World→Prop),PanicOk Q→PanN w0 H fl r Q →
  (∀e σ' d' r' a' w',K e σ' d'→Sat w0 σ' r' a' w'→FlOk fl σ'→AgN fl r r'→Q e.to a' w')→V c Q a w:=by
 intro c
 induction c with
 | skip=>exact fun σ d K h hf r a w hS Q _ _ hK=>hV.skip (hK _ _ _ _ _ _ h hS hf (AgN.refl _ _))
 | region id ops dr =>
  intro σ d K h hf r a w hS Q hQ hP hK
  cases dr with
  | true=>exact hV.rd (regionK_ok hT hH (show regionK P tt H w0 id ops σ d _ from h) r a w hS Q hQ (hP.at hf) fun σ' d' r' a' w' h1 hS' hg hl=>hK _ _ _ _ _ _ h1 hS' (hf.le hl) (hg.n hf))
  | false=>exact hV.rl (execL_ok hT hH ops.toList 0 σ d _ (show execL P tt H w0 id ops ops.toList 0 σ d _ from h) r a w hS Q (hP.at hf) fun σ' d' r' a' w' h1 hS' hg hl=>hK _ _ _ _ _ _ h1 hS' (hf.le hl) (hg.n hf))
 | seq x y ihx ihy =>
  intro σ d K h hf r a w hS Q hQ hP hK
  refine hV.seq (ihx σ d _ h hf r a w hS _ (fun d v c a w hq=>hQ d v c a w hq) (fun s σ' d' r' a' w'=>hP s σ' d' r' a' w') fun e σ' d' r' a' w' hk hS' hf' hg=>?_)
  cases e with
  | normal =>
   dsimp only at hk
   split at hk
   ·obtain⟨σ1,d1,r1,k1,k2,k3,k4⟩:=ghostK_ok 4 hk r' a' w' hS'
    exact ihy _ _ K k1 (hf'.le k4) r1 a' w' k2 Q hQ (hP.later (hg.trans (k3.n hf'))) fun e σ3 d3 r3 a3 w3 hk3 hS3 hf3 hg3=>hK e σ3 d3 r3 a3 w3 hk3 hS3 hf3 (hg.trans ((k3.n hf').trans hg3))
   ·exact ihy σ' _ K hk hf' r' a' w' hS' Q hQ (hP.later hg) fun e σ3 d3 r3 a3 w3 hk3 hS3 hf3 hg3=>hK e σ3 d3 r3 a3 w3 hk3 hS3 hf3 (hg.trans hg3)
  | exit id=>exact hK _ _ _ _ _ _ hk hS' hf' hg
  | ret=>exact hK _ _ _ _ _ _ hk hS' hf' hg
 | cond c x y ihx ihy =>
  intro σ d K h hf r a w hS Q hQ hP hK
  obtain⟨s,h1,h⟩:=evK_spec (show evK σ c _ from h)
  split at h
  ·rename_i v
   have he:=(evS_den hS.see h1).1
   split at h
   ·rename_i b d' _
    obtain⟨rfl,h⟩:=h
    cases v with
    | true=>exact hV.ct he (ihx σ d' K h hf r a w hS Q hQ hP hK)
    | false=>exact hV.cf he (ihy σ d' K h hf r a w hS Q hQ hP hK)
   ·rename_i dx dy _ _
    cases v with
    | true=>exact hV.ct he (ihx σ dx K (h.1 rfl) hf r a w hS Q hQ hP hK)
    | false=>exact hV.cf he (ihy σ dy K (h.2 rfl) hf r a w hS Q hQ hP hK)
   ·cases v with
    | true=>exact hV.ct he (ihx σ _ K h hf r a w hS Q hQ hP hK)
    | false=>exact hV.cf he (ihy σ _ K h hf r a w hS Q hQ hP hK)
  ·exact h.elim
 | block id b ih =>
  intro σ d K h hf r a w hS Q hQ hP hK
  refine hV.block (ih σ d _ h hf r a w hS _ (fun d v c a w hq=>hQ d v c a w hq) (fun s σ' d' r' a' w'=>hP s σ' d' r' a' w') fun e σ' d' r' a' w' hk hS' hf' hg=>?_)
  cases e with
  | normal=>exact hK .normal _ _ _ _ _ hk hS' hf' hg
  | exit i =>
   show(if i=id then Q .normal a' w' else Q (.exit i) a' w')
   dsimp only at hk
   cases e2:Nat.beq i id with
   | true=>rw[e2]at hk;rw[if_pos (Nat.eq_of_beq_eq_true e2)];exact hK .normal _ _ _ _ _ hk hS' hf' hg
   | false=>rw[e2]at hk;rw[if_neg (Nat.ne_of_beq_eq_false e2)];exact hK (.exit i) _ _ _ _ _ hk hS' hf' hg
  | ret=>exact hK .ret _ _ _ _ _ hk hS' hf' hg
 | loop b ih =>
  intro σ d K h hf r a w hS Q hQ hP hK
  unfold exec at h
  split at h
  ·rename_i α I C μ a0 nx bd _
   obtain⟨⟨h1,h2⟩,h3⟩:=subJ_spec (w0:=w0) h
   refine hV.loop (fun x a w=>C x∧∃r',Sat w0 (keepS σ (I x)) r' a w∧AgN fl r r') μ (fun x a w hJ=>?_) a0 ⟨h1,r,h3 r a w hS,AgN.refl _ _⟩
   obtain⟨hc,r1,hS,hg1⟩:=hJ
   obtain⟨hfb,h2x⟩:=ifB_spec (h2 x hc)
   refine ih (keepS σ (I x)) (bd x) _ h2x (flB_ok hfb) r1 a w hS _ (fun d v c a w hq=>hQ d v c a w hq) (fun s σ' d' r' a' w' hk hS' hf' hg=>hP s σ' d' r' a' w' hk hS' hf' (hg1.trans hg)) fun e σ' d' r' a' w' hk hS' hf' hg=>?_
   cases e with
   | normal =>
    dsimp only at hk
    split at hk
    ·obtain⟨⟨k1,k2⟩,k3⟩:=subJ_spec (w0:=w0) hk
     exact⟨_,⟨k1,r',k3 _ _ _ hS',hg1.trans hg⟩,k2⟩
    ·exact hk.elim
   | exit id=>exact hK _ _ _ _ _ _ hk hS' hf' (hg1.trans hg)
   | ret=>exact hK _ _ _ _ _ _ hk hS' hf' (hg1.trans hg)
  ·rename_i α I C μ a0 nx bd _
   obtain⟨⟨h1,h2⟩,h3⟩:=subJ_spec (w0:=w0) h
   refine hV.loop (fun x a w=>C x∧∃r',Sat w0 (keepS σ (I x)) r' a w∧AgN fl r r') μ (fun x a w hJ=>?_) a0 ⟨h1,r,h3 r a w hS,AgN.refl _ _⟩
   obtain⟨hc,r1,hS,hg1⟩:=hJ
   obtain⟨hfb,h2x⟩:=ifB_spec (h2 x hc)
   refine ih (keepS σ (I x)) (bd x) _ h2x (flB_ok hfb) r1 a w hS _ (fun d v c a w hq=>hQ d v c a w hq) (fun s σ' d' r' a' w' hk hS' hf' hg=>hP s σ' d' r' a' w' hk hS' hf' (hg1.trans hg)) fun e σ' d' r' a' w' hk hS' hf' hg=>?_
   cases e with
   | normal =>
    dsimp only at hk
    split at hk
    ·obtain⟨⟨k1,k2⟩,k3⟩:=subJ_spec (w0:=w0) hk
     exact⟨_,⟨k1,r',k3 _ _ _ hS',hg1.trans hg⟩,k2⟩
    ·exact hk.elim
   | exit id=>exact hK _ _ _ _ _ _ hk hS' hf' (hg1.trans hg)
   | ret=>exact hK _ _ _ _ _ _ hk hS' hf' (hg1.trans hg)
  ·rename_i n d'
   refine hV.loop (fun m a w=>∃σ1 d1 r1,loopN (fun σ d K=>exec P tt H fl w0 b σ d K) m σ1 d1 K∧Sat w0 σ1 r1 a w∧FlOk fl σ1∧AgN fl r r1) (fun m=>m) (fun m a w hJ=>?_) n ⟨σ,d',r,h,hS,hf,AgN.refl _ _⟩
   obtain⟨σ1,d1,r1,h1,hS1,hf1,hg1⟩:=hJ
   cases m with
   | zero=>exact False.elim h1
   | succ m =>
    refine ih σ1 d1 _ h1 hf1 r1 a w hS1 _ (fun d v c a w hq=>hQ d v c a w hq) (fun s σ' d' r' a' w' hk hS' hf' hg=>hP s σ' d' r' a' w' hk hS' hf' (hg1.trans hg)) fun e σ' d' r' a' w' hk hS' hf' hg=>?_
    cases e with
    | normal=>exact⟨m,⟨σ',d',r',hk,hS',hf',hg1.trans hg⟩,Nat.lt_succ_self m⟩
    | exit id=>exact hK _ _ _ _ _ _ hk hS' hf' (hg1.trans hg)
    | ret=>exact hK _ _ _ _ _ _ hk hS' hf' (hg1.trans hg)
  ·exact h.elim
 | exit id=>exact fun σ d K h hf r a w hS Q _ _ hK=>hV.exit (hK (.exit id) _ _ _ _ _ h hS hf (AgN.refl _ _))
 | ret=>exact fun σ d K h hf r a w hS Q _ _ hK=>hV.ret (hK .ret _ _ _ _ _ h hS hf (AgN.refl _ _))
 | label l=>exact fun σ d K h hf r a w hS Q _ _ hK=>hV.label (hK .normal _ _ _ _ _ h hS hf (AgN.refl _ _))
 | _=>intro σ d K h;exact False.elim h
theorem exec_ok(hT:TTOk P tt)(hm:P.follows .mixedOrders=true){H:Cx}(hH:HOk' P w0 H.inl)(fl:Nat×Nat)(c:Code)(σ:St)(d:List Dir)(K:Ex→St→List Dir→Prop)(h:exec P tt H fl w0 c σ d K)(hf:FlOk fl σ)(r:Env)(a:Act)(w:World)(hS:Sat w0 σ r a w)(Q:Exit→Act→World→Prop)(hQ:PanicOk Q)(hP:PanN w0 H fl r Q)(hK:∀e σ' d' r' a' w',K e σ' d'→Sat w0 σ' r' a' w'→FlOk fl σ'→AgN fl r r'→Q e.to a' w'): c.wp P Q a w :=
 exec_by (rules_wp hm) hT hH fl c σ d K h hf r a w hS Q hQ hP hK
end
open Go Go.RowKit
def ldS(tt:List (Nat×TI))(σ:St)(t:TypeId)(s:SV)(K:SV→Prop): Prop:=match s with
 | .ptr b o=>optK (nth σ.bs b) fun p=>tiK tt t fun ti=>match ti.k.agg with
  | true=>ifB (Nat.ble (o+ti.size) p.2.length) (K (.agg ((p.2.drop o).take ti.size)))
  | false=>optK (nthL p.2 o) K
 | _=>False
def resS(tt:List (Nat×TI))(σ:St)(v:ResultVar)(K:SV→Prop): Prop:=match v with
 | .tmp t=>evK σ (.tmp t) K
 | .cell a t=>evK σ (.tmp a) fun s=>ldS tt σ t s K
def resL(tt:List (Nat×TI))(σ:St): List ResultVar→(List SV→Prop)→Prop
 | [],K=>K []
 | v::l,K=>resS tt σ v fun s=>resL tt σ l fun m=>K (s::m)
def fin1(l:List SV)(K:SV→Prop): Prop:=match l with
 | [s]=>K s
 | l=>K (.tup l)
def finK(tt:List (Nat×TI))(rs:List ResultVar)(e:Ex)(σ:St)(K:SV→Prop): Prop:=match e with
 | .exit _=>False
 | _=>resL tt σ rs fun l=>fin1 l K
def enumV:List Value→Nat→List (Nat×SV)
 | [],_=>[]
 | v::l,k=>(k,.val v)::enumV l (k+1)
def enumS:List SV→Nat→List (Nat×SV)
 | [],_=>[]
 | s::l,k=>(k,s)::enumS l (k+1)
def inlK(P:Program)(tt:List (Nat×TI))(w0:World): Nat→Inl
 | 0=>fun _ _ _ _ _ _=>False
 | n+1=>fun fn l σ d K Kp=>match fn.body with
  | some c=>ifB (Nat.ble l.length fn.ntmps) (exec P tt ⟨inlK P tt w0 n,Kp⟩ (σ.bs.length,σ.rs.length) w0 c ⟨fn.ntmps,enumS l 0,σ.bs,σ.rs⟩ d fun e σ' d'=>finK tt fn.results.toList e σ' fun s=>ifB (σ'.lt s) (K s σ' d'))
  | none=>False
def cx0(P:Program)(tt:List (Nat×TI))(w0:World): Cx:=⟨inlK P tt w0 9,fun _ _ _=>False⟩
def st0(N:Nat)(args:List Value): St:=⟨N,enumV args 0,[],[]⟩
def resF(tmps:Array Value): ResultVar→Sem Value
 | .tmp t=>pure (tmps.getD t undef)
 | .cell a t=>do loadVar t (← asAddr (tmps.getD a undef))
theorem results_eq(fn:Func)(tmps:Array Value): results fn tmps=(do
 let vs ← fn.results.mapM (resF tmps)
 pure (if h:vs.size=1 then vs[0]else .tuple vs)):=rfl
section
variable {P:Program} {tt:List (Nat×TI)} {w0:World} {σ:St}
theorem resS_spec(hT:TTOk P tt){v:ResultVar}{K:SV→Prop}(h:resS tt σ v K): ∃s,K s∧∀r a w,Sat w0 σ r a w →
  (resF a.tmps v).run P w=.ok (s.den r) w:=by
 unfold resS at h
 split at h
 ·rename_i t
  obtain⟨s,h1,h⟩:=evK_spec h
  exact⟨s,h,fun r a w hS=>by rw[← (evS_den hS.see h1).1];rfl⟩
 ·rename_i x t
  obtain⟨s,h1,h⟩:=evK_spec h
  unfold ldS at h
  split at h
  ·rename_i b o
   obtain⟨p,h2,h⟩:=optK_spec h
   obtain⟨ti,h3,h⟩:=tiK_spec hT h
   have hx:∀r a w,Sat w0 σ r a w→a.tmps.getD x undef=.pointer (some ⟨r.b b,o,none⟩):=fun r a w hS=>(evS_den hS.see h1).1
   have hl:∀(r:Env) (w:World),(do loadVar t (← asAddr (.pointer (some ⟨r.b b,o,none⟩))):Sem Value).run P w=(Instr.loadAt t (.pointer (some ⟨r.b b,o,none⟩))).run P w:=fun r w=>rfl
   split at h
   ·rename_i ha
    obtain⟨hb,h⟩:=ifB_spec h
    refine⟨_,h,fun r a w hS=>?_⟩
    show(do loadVar t (← asAddr (a.tmps.getD x undef)):Sem Value).run P w=_
    rw[hx r a w hS,hl]
    simp only[SV.den,cut_den]
    exact load_agg h3 ha (hS.see.bs _ p.1 p.2 h2).1 (by rw[denL_len];exact Nat.le_of_ble_eq_true hb)
   ·rename_i ha
    obtain⟨c,hc,h⟩:=optK_spec h
    refine⟨_,h,fun r a w hS=>?_⟩
    show(do loadVar t (← asAddr (a.tmps.getD x undef)):Sem Value).run P w=_
    rw[hx r a w hS,hl]
    exact load_one h3 ha (hS.see.bs _ p.1 p.2 h2).1 (nthL_den hc)
  ·exact h.elim
theorem resL_spec(hT:TTOk P tt): ∀ {l:List ResultVar} {K:List SV→Prop},resL tt σ l K→∃m,K m∧∀r a w,Sat w0 σ r a w →
  (l.mapM (resF a.tmps)).run P w=.ok (denL r m) w
 | [],K,h=>⟨[],h,fun _ _ _ _=>rfl⟩
 | v::l,K,h=>by
  obtain⟨s,h,h1⟩:=resS_spec (w0:=w0) hT h
  obtain⟨m,h,h2⟩:=resL_spec hT (l:=l) h
  refine⟨s::m,h,fun r a w hS=>?_⟩
  rw[List.mapM_cons,Sem.run_bind,h1 r a w hS,Result.andThen_ok,Sem.run_bind,h2 r a w hS]
  rfl
theorem finK_spec(hT:TTOk P tt){fn:Func}{rs:List ResultVar}(hr:fn.results=rs.toArray){e:Ex}{K:SV→Prop}(h:finK tt rs e σ K): (e=.normal∨e=.ret)∧∃s,K s∧∀r a w,Sat w0 σ r a w→(results fn a.tmps).run P w=.ok (s.den r) w:=by
 have key:resL tt σ rs (fun l=>fin1 l K)→∃s,K s∧∀r a w,Sat w0 σ r a w→(results fn a.tmps).run P w=.ok (s.den r) w:=fun h=>by
  obtain⟨m,h,h1⟩:=resL_spec (w0:=w0) hT h
  have h2:∀r a w,Sat w0 σ r a w→(results fn a.tmps).run P w=.ok (if h:(denL r m).toArray.size=1 then(denL r m).toArray[0]else .tuple (denL r m).toArray) w:=fun r a w hS=>by
   rw[results_eq,hr,Array.mapM_eq_mapM_toList,Sem.run_bind,Sem.run_map,h1 r a w hS]
   rfl
  unfold fin1 at h
  split at h
  ·exact⟨_,h,fun r a w hS=>by rw[h2 r a w hS];rfl⟩
  ·rename_i hne
   refine⟨_,h,fun r a w hS=>?_⟩
   rw[h2 r a w hS,dif_neg ?_]
   ·rfl
   ·intro e
    have e2:m.length=1:=by rw[← denL_len r m];simpa using e
    obtain⟨s,rfl⟩:=List.length_eq_one_iff.1 e2
    exact hne s rfl
 unfold finK at h
 cases e with
 | exit id=>exact h.elim
 | normal=>exact⟨.inl rfl,key h⟩
 | ret=>exact⟨.inr rfl,key h⟩
theorem look_enum{k:Nat}{s:SV}: ∀ {l:List Value} {j:Nat},look k (enumV l j)=some s→∃i v,l[i]?=some v∧k=j+i∧s=.val v
 | [],_,h=>by cases h
 | v::l,j,h=>by
  simp only[enumV,look]at h
  cases e:Nat.beq j k with
  | true =>
   rw[e]at h
   obtain rfl:=Option.some.inj h
   exact⟨0,v,rfl,(Nat.eq_of_beq_eq_true e).symm,rfl⟩
  | false =>
   rw[e]at h
   obtain⟨i,u,h1,h2,h3⟩:=look_enum (l:=l) h
   exact⟨i+1,u,by simpa using h1,by omega,h3⟩
theorem sat0{N:Nat}{args:List Value}(hl:args.length≤N)(w:World): Sat w (st0 N args) e0 { tmps:=args.toArray++Array.replicate (N-args.toArray.size) undef,defers:=[] } w:=by
 refine⟨⟨Below.refl _ _,?_,fun k s hk=>?_,fun i t cs hi=>?_,fun i R hi=>?_,fun i hi=>?_⟩,⟨fun i p hi=>?_,fun i j p q hi=>?_,fun i R hi=>?_,fun i j R R' hi=>?_,fun i j p R hi=>?_⟩,rfl⟩
 ·simp[st0];omega
 ·obtain⟨i,v,h1,rfl,rfl⟩:=look_enum hk
  refine⟨?_,rfl⟩
  have h2:i<args.length:=(List.getElem?_eq_some_iff.1 h1).1
  rw[Nat.zero_add,Array.getD_eq_getD_getElem?,Array.getElem?_append_left (by simpa using h2)]
  simp[h1,SV.den]
 ·cases hi
 ·cases hi
 ·exact absurd hi (Nat.not_lt_zero _)
 ·cases hi
 ·cases hi
 ·cases hi
 ·cases hi
 ·cases hi
theorem look_enumS{k:Nat}{s:SV}: ∀ {l:List SV} {j:Nat},look k (enumS l j)=some s→∃i,l[i]?=some s∧k=j+i
 | [],_,h=>by cases h
 | v::l,j,h=>by
  simp only[enumS,look]at h
  cases e:Nat.beq j k with
  | true =>
   rw[e]at h
   obtain rfl:=Option.some.inj h
   exact⟨0,rfl,(Nat.eq_of_beq_eq_true e).symm⟩
  | false =>
   rw[e]at h
   obtain⟨i,h1,h2⟩:=look_enumS (l:=l) h
   exact⟨i+1,by simpa using h1,by omega⟩
theorem sat_in{σ:St}{r:Env}{w:World}{N:Nat}{l:List SV}(hl:l.length≤N)(hlt:σ.ltL l=true)(h:MemOk w0 σ r w): Sat w0 ⟨N,enumS l 0,σ.bs,σ.rs⟩ r { tmps:=(denL r l).toArray++Array.replicate (N-(denL r l).toArray.size) undef,defers:=[] } w:=by
 refine⟨⟨h.see.low,?_,fun k s hk=>?_,h.see.bs,h.see.rs,h.see.one⟩,⟨h.sep.own,h.sep.inj,h.sep.ownS,h.sep.disj,h.sep.apart⟩,rfl⟩
 ·simp[denL_len];omega
 ·obtain⟨i,h1,rfl⟩:=look_enumS hk
  refine⟨?_,okL_all.1 hlt s (List.mem_of_getElem? h1)⟩
  have h2:i<l.length:=(List.getElem?_eq_some_iff.1 h1).1
  rw[Nat.zero_add,Array.getD_eq_getD_getElem?,Array.getElem?_append_left (by simpa [denL_len]using h2)]
  simp[denL_map,h1]
theorem fin_calls(hT:TTOk P tt)(hm:P.follows .mixedOrders=true){H:Cx}(hH:HOk' P w0 H.inl){fl:Nat×Nat}{f:FuncId}{fn:Func}{c:Code}(hf:P.funcs[f]?=some fn)(hb:fn.body=some c){args:Array Value}{σ:St}{r:Env}{w:World}{d:List Dir}{K:SV→St→List Dir→Prop}(h:exec P tt H fl w0 c σ d fun e σ' d'=>finK tt fn.results.toList e σ' fun s=>K s σ' d')(hfl:FlOk fl σ)(hS:Sat w0 σ r { tmps:=args++Array.replicate (fn.ntmps-args.size) undef,defers:=[] } w){R:Ending→World→Prop}(hR:∀s σ' d' r' a' w',K s σ' d'→Sat w0 σ' r' a' w'→FlOk fl σ'→AgN fl r r'→R (.returned (s.den r')) w')(hP:∀s σ' d' r' a' w',H.pan s σ' d'→Sat w0 σ' r' a' w'→FlOk fl σ'→AgN fl r r'→σ'.lt s=true→R (.panicked [{ v:=s.den r',recovered:=false }]) w'): Calls P f args w R:=by
 refine calls_of_wp hf hb ?_
 refine exec_ok hT hm hH fl c _ d _ h hfl r _ w hS _ (fun d v ch a w hq=>?_) (fun s σ' d' r' a' w' hk hS' hf' hg hs=>⟨hS'.defers,hP s σ' d' r' a' w' hk hS' hf' hg hs⟩) fun e σ' d' r' a' w' hk hS' hf' hg=>?_
 ·exact⟨hq.1,hq.2⟩
 ·obtain⟨he,s,hK,hres⟩:=finK_spec (w0:=w0) hT (rs:=fn.results.toList) rfl hk
  have hr:=hR s σ' d' r' a' w' hK hS' hf' hg
  rcases he with rfl|rfl
  ·exact⟨hS'.defers,_,hres _ _ _ hS',hr⟩
  ·exact⟨hS'.defers,_,hres _ _ _ hS',hr⟩
theorem inl_ok(hT:TTOk P tt)(hm:P.follows .mixedOrders=true): ∀n,HOk' P w0 (inlK P tt w0 n)
 | 0=>fun _ _ _ _ _ _ h=>False.elim h
 | n+1=>fun fn l σ d K Kp h f hf hlt r w hM R hR hP=>by
  unfold inlK at h
  split at h
  ·rename_i c hb
   obtain⟨hl,h⟩:=ifB_spec h
   refine fin_calls hT hm (H:=⟨inlK P tt w0 n,Kp⟩) (inl_ok hT hm n) hf hb h ⟨Nat.le_refl _,Nat.le_refl _⟩ (sat_in (Nat.le_of_ble_eq_true hl) hlt hM) (fun s σ' d' r' a' w' hk hS' hf' hg=>?_) fun s σ' d' r' _ w' hk hS' hf' hg hs=>hP s σ' d' r' w' hk hS'.mem ⟨hg.1,hg.2⟩ ⟨hf'.1,hf'.2⟩ hs
   obtain⟨h1,h2⟩:=ifB_spec hk
   exact hR s σ' d' r' w' h2 hS'.mem ⟨hg.1,hg.2⟩ ⟨hf'.1,hf'.2⟩ h1
  ·exact h.elim
theorem call_sx(hT:TTOk P tt)(hm:P.follows .mixedOrders=true){f:FuncId}{fn:Func}{c:Code}(hf:P.funcs[f]?=some fn)(hb:fn.body=some c){args:List Value}(hl:Nat.ble args.length fn.ntmps=true){d:List Dir}{K:SV→St→Prop}(h:exec P tt (cx0 P tt w0) (0,0) w0 c (st0 fn.ntmps args) d fun e σ _=>finK tt fn.results.toList e σ fun s=>K s σ):
  Calls P f args.toArray w0 fun e w'=>∃s σ r a,e=.returned (s.den r)∧K s σ∧Sat w0 σ r a w' :=
 fin_calls hT hm (H:=cx0 P tt w0) (inl_ok hT hm 9) hf hb (K:=fun s σ _=>K s σ) h ⟨Nat.zero_le _,Nat.zero_le _⟩ (sat0 (Nat.le_of_ble_eq_true hl) w0) (fun s σ' _ r' a' _ hk hS' _ _=>⟨s,σ',r',a',rfl,hk,hS'⟩) fun _ _ _ _ _ _ h=>False.elim h
theorem ret_sx(hT:TTOk P tt)(hm:P.follows .mixedOrders=true){f:FuncId}{fn:Func}{c:Code}(he:Enters P f)(hf:P.funcs[f]?=some fn)(hb:fn.body=some c){args:List Value}(hl:Nat.ble args.length fn.ntmps=true){R:Value}{d:World→List Dir}(h:∀W,Below w0.heap.size w0 W→exec P tt (cx0 P tt W) (0,0) W c (st0 fn.ntmps args) (d W) fun e σ _=>finK tt fn.results.toList e σ fun s=>ifB s.plain (s.den e0=R)):
  RetAt P w0 f args.toArray R:=by
 refine⟨he,fun W hW=>(call_sx (w0:=W) (K:=fun s σ=>ifB s.plain (s.den e0=R)) hT hm hf hb hl (h W hW)).mono ?_⟩
 rintro e w' ⟨s,σ,r,a,rfl,hK,hS⟩
 obtain⟨h1,h2⟩:=ifB_spec hK
 rw[plain_den h1,h2]
 exact⟨rfl,hS.see.low⟩
def bodyX(P:Program)(tt:List (Nat×TI))(W:World)(fn:Func)(σ:St)(d:List Dir)(K:Ex→St→List Dir→Prop): Prop:=match fn.body with
 | some c=>exec P tt (cx0 P tt W) (0,0) W c σ d K
 | none=>False
theorem ret_sk(hT:TTOk P tt)(hm:P.follows .mixedOrders=true){f:FuncId}{fn:Func}(he:Enters P f)(hf:P.funcs[f]?=some fn){N:Nat}(hn:fn.ntmps=N){rs:Array ResultVar}(hr:fn.results=rs)(args:List Value)(hl:Nat.ble args.length N=true)(R:Value)(d:List Dir){T:World→Prop}(h:∀W,Below w0.heap.size w0 W→R=R→T W)(hk:∀W,T W=bodyX P tt W fn (st0 N args) d fun e σ _=>finK tt rs.toList e σ fun s=>ifB s.plain (s.den e0=R)):
  RetAt P w0 f args.toArray R:=by
 have key:∀W,Below w0.heap.size w0 W→bodyX P tt W fn (st0 N args) d fun e σ _=>finK tt rs.toList e σ fun s=>ifB s.plain (s.den e0=R):=fun W hW=>hk W▸h W hW rfl
 subst hn
 subst hr
 unfold bodyX at key
 cases hb:fn.body with
 | none =>
  rw[hb]at key
  exact(key w0 (Below.refl _ _)).elim
 | some c =>
  rw[hb]at key
  exact ret_sx hT hm he hf hb hl (d:=fun _=>d) key
theorem new_sk(hT:TTOk P tt)(hm:P.follows .mixedOrders=true){f:FuncId}{fn:Func}(hf:P.funcs[f]?=some fn){N:Nat}(hn:fn.ntmps=N){rs:Array ResultVar}(hr:fn.results=rs)(args:List Value)(hl:Nat.ble args.length N=true)(d:List Dir){T:Prop}{Z:Value→World→Prop}{E:SV→St→Prop}(h:T)(hk:T=bodyX P tt w0 fn (st0 N args) d fun e σ _=>finK tt rs.toList e σ fun s=>E s σ)(hE:∀s σ,E s σ→∀r a w',Sat w0 σ r a w'→Z (s.den r) w'):
  Calls P f args.toArray w0 fun e w'=>∃v,e=.returned v∧Z v w'∧Below w0.heap.size w0 w':=by
 have key:=hk▸h
 subst hn
 subst hr
 unfold bodyX at key
 cases hb:fn.body with
 | none =>
  rw[hb]at key
  exact key.elim
 | some c =>
  rw[hb]at key
  refine(call_sx hT hm hf hb hl (K:=E) key).mono ?_
  rintro e w' ⟨s,σ,r,a,rfl,hK,hS⟩
  exact⟨_,rfl,hE s σ hK r a w' hS,hS.see.low⟩
end
theorem ai{a b:Prop}(h:a)(k:b): a∧b:=⟨h,k⟩
theorem aj2{p0 p1 r:Prop}(x0:p0)(x1:p1)(h:r): p0∧p1∧r:=⟨x0,x1,h⟩
theorem aj3{p0 p1 p2 r:Prop}(x0:p0)(x1:p1)(x2:p2)(h:r): p0∧p1∧p2∧r:=⟨x0,x1,x2,h⟩
theorem aj4{p0 p1 p2 p3 r:Prop}(x0:p0)(x1:p1)(x2:p2)(x3:p3)(h:r): p0∧p1∧p2∧p3∧r:=⟨x0,x1,x2,x3,h⟩
theorem aj5{p0 p1 p2 p3 p4 r:Prop}(x0:p0)(x1:p1)(x2:p2)(x3:p3)(x4:p4)(h:r): p0∧p1∧p2∧p3∧p4∧r:=⟨x0,x1,x2,x3,x4,h⟩
theorem aj6{p0 p1 p2 p3 p4 p5 r:Prop}(x0:p0)(x1:p1)(x2:p2)(x3:p3)(x4:p4)(x5:p5)(h:r): p0∧p1∧p2∧p3∧p4∧p5∧r:=⟨x0,x1,x2,x3,x4,x5,h⟩
theorem aj7{p0 p1 p2 p3 p4 p5 p6 r:Prop}(x0:p0)(x1:p1)(x2:p2)(x3:p3)(x4:p4)(x5:p5)(x6:p6)(h:r): p0∧p1∧p2∧p3∧p4∧p5∧p6∧r:=⟨x0,x1,x2,x3,x4,x5,x6,h⟩
theorem aj8{p0 p1 p2 p3 p4 p5 p6 p7 r:Prop}(x0:p0)(x1:p1)(x2:p2)(x3:p3)(x4:p4)(x5:p5)(x6:p6)(x7:p7)(h:r): p0∧p1∧p2∧p3∧p4∧p5∧p6∧p7∧r:=⟨x0,x1,x2,x3,x4,x5,x6,x7,h⟩
abbrev OB:=Option (TypeId×List SV)
theorem qk(x:OB): x=x:=rfl
abbrev iV(n:Int): SV:=.val (.int .i64 n)
abbrev bV(b:Bool): SV:=.val (.bool b)
abbrev sV(s:ByteArray): SV:=.val (.string s)
abbrev lV(a:Option Addr)(n c:Nat): SV:=.val (.slice a n c)
theorem rc{P:Program}(w0:World){f:FuncId}{args:Array Value}{R:Value}(he:Enters P f)(h:∀W,Calls P f args W fun e w'=>e=.returned R∧Below W.heap.size W w'): RetAt P w0 f args R:=⟨he,fun W _=>h W⟩
theorem RetAt.at{P:Program}{w0:World}{f:FuncId}{args:Array Value}{R:Value}(h:RetAt P w0 f args R): Calls P f args w0 fun e w'=>e=.returned R∧Below w0.heap.size w0 w':=h.2 w0 (Below.refl _ _)
theorem ne_n{a b:Int}(h:a=b): (a != b)=false:=by subst h;simp
theorem wn{p n:Int}(h:IntKind.i64.wrap (-p)=n): IntKind.i64.wrap (0-p)=n:=by rw[Int.zero_sub];exact h
theorem max_ok(P:Program)(w0:World)(ts:Array TypeId)(t:TypeId)(k:IntKind)(x y:Int): RunOk P w0 (Builtin.max_ ts t #[.int k x,.int k y]) (.int k (max x y)):=fun W _=>by
 simp only[Builtin.max_,List.foldlM,Builtin.max2]
 rw[show(if x<y then y else x)=max x y by split<;>omega]
 rfl
theorem min_ok(P:Program)(w0:World)(ts:Array TypeId)(t:TypeId)(k:IntKind)(x y:Int): RunOk P w0 (Builtin.min_ ts t #[.int k x,.int k y]) (.int k (min x y)):=fun W _=>by
 simp only[Builtin.min_,List.foldlM,Builtin.min2]
 rw[show(if y<x then y else x)=min x y by split<;>omega]
 rfl
open Go Go.RowKit
def spineC:Nat→Code→Option Code
 | 0,c=>some c
 | n+1,.seq _ b=>spineC n b
 | _+1,_=>none
def spineB(n:Nat)(fn:Func): Option Code:=match fn.body with
 | some c=>spineC n c
 | none=>none
def escK(n:Nat)(d:List Dir)(p q:Prop): Prop:=match d with
 | .esc k::_=>(match Nat.beq k n with
  | true=>p
  | false=>q)
 | _=>q
theorem escK_spec{n:Nat}{d:List Dir}{p q:Prop}(h:escK n d p q): p∨q:=by
 unfold escK at h
 split at h
 ·split at h
  ·exact .inl h
  ·exact .inr h
 ·exact .inr h
def execT(P:Program)(tt:List (Nat×TI))(H:Cx)(fl:Nat×Nat)(w0:World)(E:Code→St→Prop): Code→St→List Dir→(Ex→St→List Dir→Prop)→Prop
 | .seq a b,σ,d,K=>exec P tt H fl w0 a σ d fun e σ d=>match e with
  | .normal=>(match isGh d with
   | true=>ghostK (firstN b) 99999 4 σ d fun σ d=>escK (firstN b) d (E b σ) (execT P tt H fl w0 E b σ d K)
   | false=>escK (firstN b) d (E b σ) (execT P tt H fl w0 E b σ d K))
  | .exit id=>K (.exit id) σ d
  | .ret=>K .ret σ d
 | c,σ,d,K=>exec P tt H fl w0 c σ d K
section
variable {P:Program} {tt:List (Nat×TI)} {w0:World}
theorem execT_by{V:Code→(Exit→Act→World→Prop)→Act→World→Prop}(hV:Rules P V)(hT:TTOk P tt){H:Cx}(hH:HOk' P w0 H.inl)(fl:Nat×Nat){E:Code→St→Prop}{Q:Exit→Act→World→Prop}(hQ:PanicOk Q)(hE:∀b σ r a w,E b σ→Sat w0 σ r a w→V b Q a w): ∀(c:Code) (σ:St) (d:List Dir) (K:Ex→St→List Dir→Prop),execT P tt H fl w0 E c σ d K→FlOk fl σ→∀r a w,Sat w0 σ r a w→PanN w0 H fl r Q →
  (∀e σ' d' r' a' w',K e σ' d'→Sat w0 σ' r' a' w'→FlOk fl σ'→AgN fl r r'→Q e.to a' w')→V c Q a w:=by
 intro c
 induction c with
 | seq x y ihx ihy =>
  intro σ d K h hf r a w hS hP hK
  refine hV.seq (exec_by hV hT hH fl x σ d _ h hf r a w hS _ (fun d v c a w hq=>hQ d v c a w hq) (fun s σ' d' r' a' w'=>hP s σ' d' r' a' w') fun e σ' d' r' a' w' hk hS' hf' hg=>?_)
  cases e with
  | normal =>
   dsimp only at hk
   split at hk
   ·obtain⟨σ1,d1,r1,k1,k2,k3,k4⟩:=ghostK_ok 4 hk r' a' w' hS'
    rcases escK_spec k1 with h1|h1
    ·exact hE _ _ _ _ _ h1 k2
    ·exact ihy _ _ K h1 (hf'.le k4) r1 a' w' k2 (hP.later (hg.trans (k3.n hf'))) fun e σ3 d3 r3 a3 w3 hk3 hS3 hf3 hg3=>hK e σ3 d3 r3 a3 w3 hk3 hS3 hf3 (hg.trans ((k3.n hf').trans hg3))
   ·rcases escK_spec hk with h1|h1
    ·exact hE _ _ _ _ _ h1 hS'
    ·exact ihy σ' _ K h1 hf' r' a' w' hS' (hP.later hg) fun e σ3 d3 r3 a3 w3 hk3 hS3 hf3 hg3=>hK e σ3 d3 r3 a3 w3 hk3 hS3 hf3 (hg.trans hg3)
  | exit id=>exact hK _ _ _ _ _ _ hk hS' hf' hg
  | ret=>exact hK _ _ _ _ _ _ hk hS' hf' hg
 | _ =>
  intro σ d K h hf r a w hS hP hK
  exact exec_by hV hT hH fl _ σ d K h hf r a w hS Q hQ hP hK
theorem execT_ok(hT:TTOk P tt)(hm:P.follows .mixedOrders=true){H:Cx}(hH:HOk' P w0 H.inl)(fl:Nat×Nat){E:Code→St→Prop}{Q:Exit→Act→World→Prop}(hQ:PanicOk Q)(hE:∀b σ r a w,E b σ→Sat w0 σ r a w→b.wp P Q a w)(c:Code)(σ:St)(d:List Dir)(K:Ex→St→List Dir→Prop)(h:execT P tt H fl w0 E c σ d K)(hf:FlOk fl σ)(r:Env)(a:Act)(w:World)(hS:Sat w0 σ r a w)(hP:PanN w0 H fl r Q)(hK:∀e σ' d' r' a' w',K e σ' d'→Sat w0 σ' r' a' w'→FlOk fl σ'→AgN fl r r'→Q e.to a' w'): c.wp P Q a w:=execT_by (rules_wp hm) hT hH fl hQ hE c σ d K h hf r a w hS hP hK
end
def noPan(Q:Exit→Act→World→Prop)(e:Exit)(a:Act)(w:World): Prop:=match e with
 | .panic _=>False
 | e=>Q e a w
theorem noPan_ok(Q:Exit→Act→World→Prop): PanicOk (noPan Q):=fun _ _ _ _ _ h=>h
theorem noPan_to{Q:Exit→Act→World→Prop}{e:Exit}{a:Act}{w:World}(h:noPan Q e a w): Q e a w:=by
 cases e<;>first|exact h|exact h.elim
