/- The walks and plain laws beneath the statements. -/
import Derived.Test.YtaelfkdjlioegaaGreatDoorQG2
import Derived.Laws.IdiomStrings
namespace Go.Proofs.YtaelfkdjlioegaaGreatDoor
open Go Go.RowKit
def e0:Env:=⟨fun _=>0,fun _=>undef,fun _ _=>False⟩
def SV.plain(s:SV): Bool:=s.ok (fun _=>false) (fun _=>false)
theorem J8{s:SV}(h:s.plain=true)(r:Env): s.den r=s.den e0:=Yn (β:=fun _=>false) (ξ:=fun _=>false) (fun _ h=>nomatch h) (fun _ h=>nomatch h) s h
theorem YK{l:List SV}(h:VL (fun _=>false) (fun _=>false) l=true)(r:Env): QI r l=QI e0 l:=Xm (β:=fun _=>false) (ξ:=fun _=>false) (fun _ h=>nomatch h) (fun _ h=>nomatch h) l h
def v1(σ:St)(x:Operand)(K:Value→Prop): Prop:=JR σ x fun s=>bif s.plain then K (s.den e0)else False
def vO(σ:St)(x:Option Operand)(K:Option Value→Prop): Prop:=match x with
 | none=>K none
 | some x=>v1 σ x fun v=>K (some v)
def vL(σ:St)(l:List Operand)(K:List Value→Prop): Prop:=Wf σ l fun m=>bif VL (fun _=>false) (fun _=>false) m then K (QI e0 m)else False
def Qt(P:Program)(w0:World)(m:Sem Value)(R:Value): Prop:=∀W,Below w0.heap.size w0 W→m.run P W=.ok R W
def gY(RO:Sem Value→Value→Prop)(σ:St)(o:Oper)(R:Value): Prop:=match o.op with
 | .binOp op t x y _=>v1 σ x fun a=>v1 σ y fun b=>RO (do eqGuard op t x y a b;binOp op t a b) R
 | .unOp op _ x=>v1 σ x fun a=>RO (Op.unary op a) R
 | .convert s d x=>v1 σ x fun a=>RO (Go.convert s d a) R
 | .index t x i=>v1 σ x fun a=>v1 σ i fun b=>RO (Instr.index t a b) R
 | .indexAddr t x i=>v1 σ x fun a=>v1 σ i fun b=>RO (Instr.indexAt t a b) R
 | .load t x=>v1 σ x fun a=>RO (Instr.loadAt t a) R
 | .slice t x lo hi mx=>v1 σ x fun a=>vO σ lo fun b=>vO σ hi fun c=>vO σ mx fun d=>RO (Instr.sliceAt t a b c d) R
 | .makeInterface t x=>v1 σ x fun a=>RO (Instr.makeInterface t a) R
 | .field t x f=>v1 σ x fun a=>RO (Instr.field t a f) R
 | .fieldAddr t x f=>v1 σ x fun a=>RO (Instr.fieldAt t a f) R
 | .nilCheck x=>v1 σ x fun a=>R=a∧(match a with | .pointer (some _)=>True | .func (.func _) _ _=>True | .slice _ _ _=>True|_=>False)
 | .typeAssert x t u ok=>v1 σ x fun a=>RO (Instr.typeAssert a t u ok) R
 | .call c=>match c.callee with
  | .builtin .min=>vL σ c.args.toList fun l=>RO (Builtin.min_ c.argTypes o.type l.toArray) R
  | .builtin .max=>vL σ c.args.toList fun l=>RO (Builtin.max_ c.argTypes o.type l.toArray) R
  | .builtin .cap=>vL σ c.args.toList fun l=>RO (Builtin.cap_ c.argTypes o.type l.toArray) R
  | .builtin .len=>vL σ c.args.toList fun l=>RO (Builtin.len_ c.argTypes o.type l.toArray) R
  | _=>False
 | _=>False
def mj(P:Program)(w0:World)(σ:St)(o:Oper)(R:Value): Prop:=gY (Qt P w0) σ o R
def Ol(σ:St): List Nat→(List Res→Prop)→Prop
 | [],K=>K []
 | i::l,K=>match Xk σ.rs i with
  | some ρ=>Ol σ l fun m=>K (ρ::m)
  | none=>False
def TT(W:World): List Res→Prop→Prop
 | [],p=>p
 | ρ::l,p=>∀x S,ρ.φ x S W→TT W l p
def Cy(P:Program)(w0:World)(l:List Res)(m:Sem Value)(R:Value): Prop:=∀W,Below w0.heap.size w0 W→TT W l (m.run P W=.ok R W)
section
variable {P:Program} {w0:World} {σ:St} {K:Out→Prop}
theorem XE{x:Operand}{K:Value→Prop}(h:v1 σ x K): ∃v,K v∧∀r a w,See w0 σ r a w→a.eval x=v:=by
 obtain⟨s,h1,h⟩:=Qy h
 obtain⟨h2,h⟩:=XS h
 exact⟨_,h,fun r a w hw=>by rw[(Qs hw h1).1,J8 h2]⟩
theorem Gm{x:Option Operand}{K:Option Value→Prop}(h:vO σ x K): ∃v,K v∧∀r a w,See w0 σ r a w→x.map a.eval=v:=by
 cases x with
 | none=>exact⟨none,h,fun _ _ _ _=>rfl⟩
 | some x =>
  obtain⟨v,h1,h2⟩:=XE (w0:=w0) (show v1 σ x (fun v=>K (some v))from h)
  exact⟨_,h1,fun r a w hw=>by rw[T4,h2 r a w hw]⟩
theorem GN{l:List Operand}{K:List Value→Prop}(h:vL σ l K): ∃v,K v∧∀r a w,See w0 σ r a w→l.map a.eval=v:=by
 obtain⟨m,h,h1⟩:=Za (w0:=w0) h
 obtain⟨h2,h⟩:=XS h
 exact⟨_,h,fun r a w hw=>by rw[(h1 r a w hw).1,YK h2]⟩
theorem O0{RO:Sem Value→Value→Prop}(hRO:∀m R,RO m R→∀r a w,See w0 σ r a w→m.run P w=.ok R w){o:Oper}{R:Value}(h:gY RO σ o R): ∀r a w,See w0 σ r a w→(execOp a.eval o).run P w=.ok (.value R) w:=by
 have ex:∀ {op:Op},o.op=op→∀ev,execOp ev o=execOp ev { o with op:=op }:=fun e ev=>by rw[← e]
 unfold gY at h
 split at h
 case h_1 e =>
  obtain⟨_,h,h1⟩:=XE (w0:=w0) h
  obtain⟨_,h,h2⟩:=XE (w0:=w0) h
  intro r a w hw
  rw[ex e];refine Xt ?_
  rw[h1 r a w hw,h2 r a w hw];exact hRO _ _ h r a w hw
 case h_2 e =>
  obtain⟨_,h,h1⟩:=XE (w0:=w0) h
  intro r a w hw
  rw[ex e];refine Xt ?_
  rw[h1 r a w hw];exact hRO _ _ h r a w hw
 case h_3 e =>
  obtain⟨_,h,h1⟩:=XE (w0:=w0) h
  intro r a w hw
  rw[ex e];refine Xt ?_
  rw[h1 r a w hw];exact hRO _ _ h r a w hw
 case h_4 e =>
  obtain⟨_,h,h1⟩:=XE (w0:=w0) h
  obtain⟨_,h,h2⟩:=XE (w0:=w0) h
  intro r a w hw
  rw[ex e];refine Xt ?_
  rw[h1 r a w hw,h2 r a w hw];exact hRO _ _ h r a w hw
 case h_5 e =>
  obtain⟨_,h,h1⟩:=XE (w0:=w0) h
  obtain⟨_,h,h2⟩:=XE (w0:=w0) h
  intro r a w hw
  rw[ex e];refine Xt ?_
  rw[h1 r a w hw,h2 r a w hw];exact hRO _ _ h r a w hw
 case h_6 e =>
  obtain⟨_,h,h1⟩:=XE (w0:=w0) h
  intro r a w hw
  rw[ex e];refine Xt ?_
  rw[h1 r a w hw];exact hRO _ _ h r a w hw
 case h_7 e =>
  obtain⟨_,h,h1⟩:=XE (w0:=w0) h
  obtain⟨_,h,h2⟩:=Gm (w0:=w0) h
  obtain⟨_,h,h3⟩:=Gm (w0:=w0) h
  obtain⟨_,h,h4⟩:=Gm (w0:=w0) h
  intro r a w hw
  rw[ex e];refine Xt ?_
  rw[h1 r a w hw,h2 r a w hw,h3 r a w hw,h4 r a w hw];exact hRO _ _ h r a w hw
 case h_8 e =>
  obtain⟨_,h,h1⟩:=XE (w0:=w0) h
  intro r a w hw
  rw[ex e];refine Xt ?_
  rw[h1 r a w hw];exact hRO _ _ h r a w hw
 case h_9 e =>
  obtain⟨_,h,h1⟩:=XE (w0:=w0) h
  intro r a w hw
  rw[ex e];refine Xt ?_
  rw[h1 r a w hw];exact hRO _ _ h r a w hw
 case h_10 e =>
  obtain⟨_,h,h1⟩:=XE (w0:=w0) h
  intro r a w hw
  rw[ex e];refine Xt ?_
  rw[h1 r a w hw];exact hRO _ _ h r a w hw
 case h_11 e =>
  obtain⟨v,⟨rfl,h⟩,h1⟩:=XE (w0:=w0) h
  intro r a w hw
  rw[ex e]
  unfold execOp
  simp only[h1 r a w hw]
  split at h
  ·rfl
  ·rfl
  ·rfl
  ·exact h.elim
 case h_12 e =>
  obtain⟨_,h,h1⟩:=XE (w0:=w0) h
  intro r a w hw
  rw[ex e];refine Xt ?_
  rw[h1 r a w hw];exact hRO _ _ h r a w hw
 case h_13 c e =>
  split at h
  case h_1 hc =>
   obtain⟨l,h,h1⟩:=GN (w0:=w0) h
   intro r a w hw
   rw[ex e];unfold execOp
   simp[resolve,hc,invoke,builtin,Zz _ _ _ (h1 r a w hw),hRO _ _ h r a w hw]
  case h_2 hc =>
   obtain⟨l,h,h1⟩:=GN (w0:=w0) h
   intro r a w hw
   rw[ex e];unfold execOp
   simp[resolve,hc,invoke,builtin,Zz _ _ _ (h1 r a w hw),hRO _ _ h r a w hw]
  case h_3 hc =>
   obtain⟨l,h,h1⟩:=GN (w0:=w0) h
   intro r a w hw
   rw[ex e];unfold execOp
   simp[resolve,hc,invoke,builtin,Zz _ _ _ (h1 r a w hw),hRO _ _ h r a w hw]
  case h_4 hc =>
   obtain⟨l,h,h1⟩:=GN (w0:=w0) h
   intro r a w hw
   rw[ex e];unfold execOp
   simp[resolve,hc,invoke,builtin,Zz _ _ _ (h1 r a w hw),hRO _ _ h r a w hw]
  case h_5=>exact h.elim
 case h_14=>exact h.elim
theorem fS{o:Oper}{R:Value}(h:mj P w0 σ o R): ∀r a w,See w0 σ r a w→(execOp a.eval o).run P w=.ok (.value R) w :=
 O0 (fun _ _ h _ _ w hw=>h w hw.low) h
theorem KR:∀ {is:List Nat} {K:List Res→Prop},Ol σ is K→∃l,K l∧∀r a w p,See w0 σ r a w→TT w l p→p
 | [],_,h=>⟨[],h,fun _ _ _ _ _ h=>h⟩
 | i::is,K,h=>by
  unfold Ol at h
  split at h
  ·rename_i ρ e
   obtain⟨l,h1,h2⟩:=KR (is:=is) h
   exact⟨ρ::l,h1,fun r a w p hw hp=>h2 r a w p hw (hp _ _ (hw.rs i ρ e).1)⟩
  ·exact h.elim
end
def Yf(P:Program)(f:FuncId): Prop:=∀(args:Array Value) (w:World),(callFunc f args).run P w=.ok (.enter f args) w
def RetAt(P:Program)(w0:World)(f:FuncId)(args:Array Value)(R:Value): Prop:=Yf P f∧∀W,Below w0.heap.size w0 W→Calls P f args W fun e w'=>e=.returned R∧Below W.heap.size W w'
def E1(P:Program)(w0:World)(l:List Res)(f:FuncId)(args:Array Value)(R:Value): Prop:=Yf P f∧∀W,Below w0.heap.size w0 W→TT W l (Calls P f args W fun e w'=>e=.returned R∧Below W.heap.size W w')
def YD(i:Nat): List Nat→Bool
 | []=>false
 | j::l=>Nat.beq i j||YD i l
theorem memB_mem{i:Nat}: ∀ {l:List Nat},YD i l=true↔i∈l
 | []=>by simp[YD]
 | j::l=>by
  rw[Lp,← memB_mem (l:=l)]
  show(Nat.beq i j||YD i l)=true↔_
  rw[Bool.or_eq_true]
  exact⟨fun h=>h.imp Lc id,fun h=>h.imp (fun e=>by subst e;exact Nat.beq_refl i) id⟩
def UK(b:Bool)(p:Prop): Prop:=match b with
 | true=>p
 | false=>False
theorem K7{b:Bool}{p:Prop}(h:UK b p): b=true∧p:=by cases b<;>first|exact⟨rfl,h⟩|exact False.elim h
mutual
def SV.refs:SV→List Nat→List Nat
 | .val _,l=>l
 | .ptr b _,l=>bif YD b l then l else b::l
 | .sli b _ _ _,l=>bif YD b l then l else b::l
 | .clo _ m n,l=>Zi n (Zi m l)
 | .agg m,l=>Zi m l
 | .tup m,l=>Zi m l
 | .han _,l=>l
def Zi:List SV→List Nat→List Nat
 | [],l=>l
 | s::m,l=>Zi m (s.refs l)
end
def Nt(σ:St)(W:World): List Nat→(Nat→Nat)→((Nat→Nat)→Prop)→Prop
 | [],β,K=>K β
 | b::l,β,K=>match Xk σ.bs b with
  | some (t,cs)=>bif VL (fun _=>false) (fun _=>false) cs then ∀g,Bx W g t (QI e0 cs).toArray→Nt σ W l (JH β b g) K else False
  | none=>False
def Mx(β:Nat→Nat): Env:=⟨β,fun _=>undef,fun _ _=>False⟩
def CallOk(P:Program)(w0:World)(σ:St)(f:FuncId)(args:List SV)(R:SV): Prop:=Yf P f∧∀W,Below w0.heap.size w0 W→Nt σ W (Zi args []) (fun _=>0) fun β =>
 UK (VL (fun b=>YD b (Zi args [])) (fun _=>false) args&&R.ok (fun b=>YD b (Zi args [])) (fun _=>false)) (Calls P f (QI (Mx β) args).toArray W fun e w'=>e=.returned (R.den (Mx β))∧Below W.heap.size W w')
theorem J3{σ:St}{w0:World}{r:Env}{a:Act}{W:World}(hw:See w0 σ r a W): ∀ {l:List Nat} {β:Nat→Nat} {K:(Nat→Nat)→Prop},Nt σ W l β K→∃β',K β'∧(∀b,b∈l→β' b=r.b b)∧∀b,b ∉ l→β' b=β b
 | [],β,K,h=>⟨β,h,fun _ h=>(nomatch h),fun _ _=>rfl⟩
 | c::l,β,K,h=>by
  unfold Nt at h
  split at h
  ·rename_i t cs e
   obtain⟨hp,h⟩:=XS h
   have hb:=(hw.bs c t cs e).1
   rw[YK hp]at hb
   obtain⟨β',h1,h2,h3⟩:=J3 hw (h _ hb)
   refine⟨β',h1,fun b hb=>?_,fun b hb=>?_⟩
   ·by_cases hl:b∈l
    ·exact h2 b hl
    ·rcases Lp.1 hb with rfl|hb
     ·rw[h3 b hl];exact Xw _ _ _
     ·exact absurd hb hl
   ·have h4:=h3 b fun hm=>hb (T2 _ hm)
    rw[h4]
    exact Yl _ _ fun e=>hb (by rw[e];simp)
  ·exact h.elim
theorem CallOk.use{P:Program}{w0:World}{σ:St}{f:FuncId}{args:List SV}{R:SV}(h:CallOk P w0 σ f args R){r:Env}{a:Act}{W:World}(hw:See w0 σ r a W): Calls P f (QI r args).toArray W fun e w'=>e=.returned (R.den r)∧Below W.heap.size W w':=by
 obtain⟨β,h1,h2,_⟩:=J3 hw (h.2 W hw.low)
 obtain⟨hc,h3⟩:=K7 h1
 obtain⟨c1,c2⟩:=L6.1 hc
 have e1:QI (Mx β) args=QI r args:=Xm (β:=fun b=>YD b (Zi args [])) (ξ:=fun _=>false) (fun b hb=>h2 b (memB_mem.1 hb)) (fun _ h=>nomatch h) args c1
 have e2:R.den (Mx β)=R.den r:=Yn (β:=fun b=>YD b (Zi args [])) (ξ:=fun _=>false) (fun b hb=>h2 b (memB_mem.1 hb)) (fun _ h=>nomatch h) R c2
 rw[e1,e2]at h3
 exact h3
def gK(P:Program)(w0:World)(σ:St)(f:FuncId)(args:List SV)(R:SV)(ρ:Res): Prop:=Yf P f∧∀r a W,See w0 σ r a W→Calls P f (QI r args).toArray W fun e w'=>∃x S,e=.returned (R.den (r.add' σ ⟨0,x,S⟩))∧ρ.φ x S w'∧(∀b,S b→W.heap.size≤b∧b<w'.heap.size)∧Below W.heap.size W w'
def Je(σ:St)(c:Call)(K:FuncId→List SV→Prop): Prop:=match c.callee with
 | .value f=>JR σ f fun s=>match s with
  | .clo (.func g) l m=>Wf σ c.args.toList fun n=>K g (l++n++m)
  | .val (.func (.func g) l m)=>Wf σ c.args.toList fun n=>K g (l.toList.map SV.val++n++m.toList.map SV.val)
  | _=>False
 | _=>False
def NewIn{β:Type}(P:Program)(w0:World)(l:List Res)(f:FuncId)(args:Array Value)(val:β→Value)(R:β→Res): Prop:=Yf P f∧∀W,Below w0.heap.size w0 W→TT W l (Calls P f args W fun e w'=>∃y x S,e=.returned (val y)∧(R y).φ x S w'∧(∀b,S b→W.heap.size≤b∧b<w'.heap.size)∧Below W.heap.size W w')
def KT{β:Type}(val:β→Value)(R:β→Res): Res where
 φ x S w:=x.oneCell'=true∧∃y x0,x=val y∧(R y).φ x0 S w
 one _ _ _ h:=h.1
 loc x S w w' h hφ:=by
  obtain⟨h1,y,x0,h2,h3⟩:=hφ
  exact⟨h1,y,x0,h2,(R y).loc x0 S w w' h h3⟩
def Ot(v:Value): Env:=⟨fun _=>0,fun _=>v,fun _ _=>False⟩
theorem Zn{β:Type}{val:β→Value}{R R':β→Res}(h:∀y x x' S w,x'.oneCell'=true→(R y).φ x S w→(R' y).φ x' S w): ∀x S w,(KT val R).φ x S w→∃y,x=val y∧(R' y).φ x S w:=fun x S w hφ=>by
 obtain⟨h1,y,x0,h2,h3⟩:=(show _∧_ from hφ)
 exact⟨y,h2,h y x0 x S w h1 h3⟩
def Kt(b:Builtin)(ts:Array TypeId)(t:TypeId)(l:List Value): Sem Value:=match b with
 | .append=>Builtin.append_ ts t l.toArray
 | .clear=>Builtin.clear_ ts t l.toArray
 | .copy=>Builtin.copy_ ts t l.toArray
 | _=>stuck ""
def NL{β:Type}(P:Program)(W:World)(val:β→Value)(R:β→Res)(m:Sem Value): Prop:=∃y x S w',m.run P W=.ok (val y) w'∧Below W.heap.size W w'∧(R y).φ x S w'∧∀b,S b→W.heap.size≤b∧b<w'.heap.size
def NewB{β:Type}(P:Program)(w0:World)(σ:St)(l:List SV)(m:List Value→Sem Value)(val:β→Value)(R:β→Res): Prop:=∀W,Below w0.heap.size w0 W→Nt σ W (Zi l []) (fun _=>0) fun β' =>
 UK (VL (fun b=>YD b (Zi l [])) (fun _=>false) l) (NL P W val R (m (QI (Mx β') l)))
theorem NewB.use{β:Type}{P:Program}{w0:World}{σ:St}{l:List SV}{m:List Value→Sem Value}{val:β→Value}{R:β→Res}(h:NewB P w0 σ l m val R){r:Env}{a:Act}{w:World}(hw:See w0 σ r a w): NL P w val R (m (QI r l)):=by
 obtain⟨β',h1,h2,_⟩:=J3 hw (h w hw.low)
 obtain⟨hc,h3⟩:=K7 h1
 have e1:QI (Mx β') l=QI r l:=Xm (β:=fun b=>YD b (Zi l [])) (ξ:=fun _=>false) (fun b hb=>h2 b (memB_mem.1 hb)) (fun _ h=>nomatch h) l hc
 rw[e1]at h3
 exact h3
def Fa(β:Nat→Nat)(ξ:Nat→Value): Env:=⟨β,ξ,fun _ _=>False⟩
def aG(σ:St)(W:World): List Nat→(Nat→Value)→((Nat→Value)→Prop)→Prop
 | [],ξ,K=>K ξ
 | i::l,ξ,K=>match Xk σ.rs i with
  | some ρ=>∀x S,ρ.φ x S W→aG σ W l (JH ξ i x) K
  | none=>False
theorem BW{σ:St}{w0:World}{r:Env}{a:Act}{W:World}(hw:See w0 σ r a W): ∀ {l:List Nat} {ξ:Nat→Value} {K:(Nat→Value)→Prop},aG σ W l ξ K→∃ξ',K ξ'∧(∀i,i∈l→ξ' i=r.x i)∧∀i,i ∉ l→ξ' i=ξ i
 | [],ξ,K,h=>⟨ξ,h,fun _ h=>(nomatch h),fun _ _=>rfl⟩
 | c::l,ξ,K,h=>by
  unfold aG at h
  split at h
  ·rename_i ρ e
   obtain⟨ξ',h1,h2,h3⟩:=BW hw (h _ _ (hw.rs c ρ e).1)
   refine⟨ξ',h1,fun b hb=>?_,fun b hb=>?_⟩
   ·by_cases hl:b∈l
    ·exact h2 b hl
    ·rcases Lp.1 hb with rfl|hb
     ·rw[h3 b hl];exact Xw _ _ _
     ·exact absurd hb hl
   ·have h4:=h3 b fun hm=>hb (T2 _ hm)
    rw[h4]
    exact Yl _ _ fun e=>hb (by rw[e];simp)
  ·exact h.elim
def RetH(P:Program)(w0:World)(σ:St)(is:List Nat)(f:FuncId)(args:List SV)(R:Value): Prop:=Yf P f∧∀W,Below w0.heap.size w0 W→Nt σ W (Zi args []) (fun _=>0) fun β=>aG σ W is (fun _=>undef) fun ξ =>
 UK (VL (fun b=>YD b (Zi args [])) (fun i=>YD i is) args) (Calls P f (QI (Fa β ξ) args).toArray W fun e w'=>e=.returned R∧Below W.heap.size W w')
theorem RetH.use{P:Program}{w0:World}{σ:St}{is:List Nat}{f:FuncId}{args:List SV}{R:Value}(h:RetH P w0 σ is f args R){r:Env}{a:Act}{W:World}(hw:See w0 σ r a W): Calls P f (QI r args).toArray W fun e w'=>e=.returned R∧Below W.heap.size W w':=by
 obtain⟨β,h1,h2,_⟩:=J3 hw (h.2 W hw.low)
 obtain⟨ξ,h3,h4,_⟩:=BW hw h1
 obtain⟨hc,h5⟩:=K7 h3
 have e1:QI (Fa β ξ) args=QI r args:=Xm (β:=fun b=>YD b (Zi args [])) (ξ:=fun i=>YD i is) (fun b hb=>h2 b (memB_mem.1 hb)) (fun i hi=>h4 i (memB_mem.1 hi)) args hc
 rw[e1]at h5
 exact h5
def NewH{β:Type}(P:Program)(w0:World)(σ:St)(is:List Nat)(f:FuncId)(args:List SV)(val:β→Value)(R:β→Res): Prop:=Yf P f∧∀W,Below w0.heap.size w0 W→Nt σ W (Zi args []) (fun _=>0) fun β'=>aG σ W is (fun _=>undef) fun ξ =>
 UK (VL (fun b=>YD b (Zi args [])) (fun i=>YD i is) args) (Calls P f (QI (Fa β' ξ) args).toArray W fun e w'=>∃y x S,e=.returned (val y)∧(R y).φ x S w'∧(∀b,S b→W.heap.size≤b∧b<w'.heap.size)∧Below W.heap.size W w')
theorem NewH.use{β:Type}{P:Program}{w0:World}{σ:St}{is:List Nat}{f:FuncId}{args:List SV}{val:β→Value}{R:β→Res}(h:NewH P w0 σ is f args val R){r:Env}{a:Act}{W:World}(hw:See w0 σ r a W): Calls P f (QI r args).toArray W fun e w'=>∃y x S,e=.returned (val y)∧(R y).φ x S w'∧(∀b,S b→W.heap.size≤b∧b<w'.heap.size)∧Below W.heap.size W w':=by
 obtain⟨β',h1,h2,_⟩:=J3 hw (h.2 W hw.low)
 obtain⟨ξ,h3,h4,_⟩:=BW hw h1
 obtain⟨hc,h5⟩:=K7 h3
 have e1:QI (Fa β' ξ) args=QI r args:=Xm (β:=fun b=>YD b (Zi args [])) (ξ:=fun i=>YD i is) (fun b hb=>h2 b (memB_mem.1 hb)) (fun i hi=>h4 i (memB_mem.1 hi)) args hc
 rw[e1]at h5
 exact h5
def el{β:Type}(P:Program)(w0:World)(f:FuncId)(args:Array Value)(val:β→Value)(blk:β→Nat)(t:TypeId)(cs:Array Value)(R:β→Res): Prop:=Yf P f∧∀W,Below w0.heap.size w0 W→Calls P f args W fun e w'=>∃y x S,e=.returned (val y)∧Bx w' (blk y) t cs∧W.heap.size≤blk y∧(R y).φ x S w'∧(∀b,S b→W.heap.size≤b∧b<w'.heap.size)∧¬ S (blk y)∧Below W.heap.size W w'
inductive DOp:Type 1 where
 | eq (R:SV)
 | set (R:Value)
 | ret (R:SV)
 | new (R:SV) (ρ:Res)
 | hook (out:Out)
 | pk (b:Bool)
 | byt (l:List UInt8)
 | rd (is:List Nat) (R:Value)
 | retr (is:List Nat) (R:Value)
 | nw {β:Type} (R:SV) (is:List Nat) (val:β→Value) (ρ:β→Res)
 | nb {β:Type} (R:SV) (val:β→Value) (ρ:β→Res)
 | nwb {β:Type} (R:SV) (t:TypeId) (cs:List SV) (val:β→Value) (blk:β→Nat) (ρ:β→Res)
 | rth (is:List Nat) (R:Value)
 | nwc {β:Type} (is:List Nat) (R:SV) (val:β→Value) (ρ:β→Res)
def ZQ(b:Bool)(p:Prop): Prop:=match b with
 | true=>p
 | false=>False
theorem Qp{b:Bool}{p:Prop}(h:ZQ b p): b=true∧p:=by cases b<;>first|exact⟨rfl,h⟩|exact False.elim h
def Ps(s R:SV)(p:Prop): Prop:=match s with
 | .val (.int k a)=>(match R with
  | .val (.int k' b)=>ZQ (Pn k k') (a=b∧p)
  | _=>False)
 | .val (.bool a)=>(match R with
  | .val (.bool b)=>a=b∧p
  | _=>False)
 | .val a=>(match R with
  | .val b=>a=b∧p
  | _=>False)
 | _=>False
theorem Eh{s R:SV}{p:Prop}(h:Ps s R p): p∧∃a,s=.val a∧R=.val a:=by
 unfold Ps at h
 split at h
 ·split at h
  ·obtain⟨hk,h1,h2⟩:=Qp h
   clear h
   obtain rfl:=CA hk
   subst h1
   have h:=h2
   exact⟨h,_,rfl,rfl⟩
  ·exact h.elim
 ·split at h
  ·obtain⟨rfl,h⟩:=h
   exact⟨h,_,rfl,rfl⟩
  ·exact h.elim
 ·split at h
  ·obtain⟨rfl,h⟩:=h
   exact⟨h,_,rfl,rfl⟩
  ·exact h.elim
 ·exact h.elim
def NK(v:Value)(c:UInt8)(p:Prop): Prop:=match v with
 | .int .u8 z=>z=(c.toNat:Int)∧p
 | _=>False
def II:List SV→List UInt8→Prop→Prop
 | [],[],p=>p
 | .val v::m,c::l,p=>NK v c (II m l p)
 | _,_,_=>False
theorem VW{r:Env}: ∀ {m:List SV} {l:List UInt8} {p:Prop},II m l p→p∧m.length=l.length∧∀(j:Nat) (hj:j<l.length),(QI r m)[j]?=some (.int .u8 (l[j].toNat:Int))
 | [],[],_,h=>⟨h,rfl,fun j hj=>absurd hj (Rc _)⟩
 | [],_::_,_,h=>False.elim h
 | .val v::m,[],_,h=>False.elim h
 | .val v::m,c::l,p,h=>by
  have h':NK v c (II m l p):=h
  unfold NK at h'
  split at h'
  ·obtain⟨rfl,h2⟩:=h'
   obtain⟨h3,h4,h5⟩:=VW (r:=r) h2
   refine⟨h3,R7 Nat.succ h4,fun j hj=>?_⟩
   cases j with
   | zero=>rfl
   | succ j=>exact h5 j (Nat.lt_of_succ_lt_succ hj)
  ·exact h'.elim
 | .ptr _ _::_,[],_,h=>False.elim h
 | .ptr _ _::_,_::_,_,h=>False.elim h
 | .sli _ _ _ _::_,[],_,h=>False.elim h
 | .sli _ _ _ _::_,_::_,_,h=>False.elim h
 | .clo _ _ _::_,[],_,h=>False.elim h
 | .clo _ _ _::_,_::_,_,h=>False.elim h
 | .agg _::_,[],_,h=>False.elim h
 | .agg _::_,_::_,_,h=>False.elim h
 | .tup _::_,[],_,h=>False.elim h
 | .tup _::_,_::_,_,h=>False.elim h
 | .han _::_,[],_,h=>False.elim h
 | .han _::_,_::_,_,h=>False.elim h
def mh(tt:List (Nat×TI))(src dst:TypeId)(p:Prop): Prop:=AB tt src fun ti=>AB tt dst fun td=>match ti.k with
 | .slice e _ _=>(match td.k with
  | .str=>AB tt e fun te=>(match te.k with
   | .int .u8=>p
   | _=>False)
  | _=>False)
 | _=>False
theorem UL{tt:List (Nat×TI)}{P:Program}(hT:YF P tt){src dst:TypeId}{p:Prop}(h:mh tt src dst p): p∧∃e,P.underlying src=some (.slice e)∧P.underlying e=some (.int .u8)∧P.underlying dst=some .string:=by
 obtain⟨ti,h1,h⟩:=Xa hT h
 obtain⟨td,h2,h⟩:=Xa hT h
 split at h
 ·rename_i e sz ag hk
  split at h
  ·rename_i hk2
   obtain⟨te,h3,h⟩:=Xa hT h
   split at h
   ·rename_i hk3
    exact⟨h,e,(Zp h1 hk).1,ac h3 hk3,bN h2 hk2⟩
   ·exact h.elim
  ·exact h.elim
 ·exact h.elim
def oy(tt:List (Nat×TI))(σ:St)(src dst:TypeId)(x:Operand)(l:List UInt8)(p:Prop): Prop:=mh tt src dst (JR σ x fun s=>match s with
 | .sli b o n _=>JG (Xk σ.bs b) fun q=>ZQ (Nat.beq n l.length) (II ((q.2.drop o).take n) l p)
 | _=>False)
def oi(P:Program)(tt:List (Nat×TI))(w0:World)(σ:St)(o:Oper)(x:DOp)(K:Out→Prop): Prop:=match x with
 | .eq R=>mM tt σ o.op fun out=>Ps out.s R (K ⟨R,out.b,out.r⟩)
 | .set R=>mj P w0 σ o R∧K (one (.val R))
 | .ret R=>(match o.op with
  | .call c=>Je σ c fun f l=>bif VL (fun _=>false) (fun _=>false) l&&R.plain then RetAt P w0 f (QI e0 l).toArray (R.den e0)∧K (one R)else CallOk P w0 σ f l R∧K (one R)
  | _=>False)
 | .new R ρ=>(match o.op with
  | .call c=>Je σ c fun f l=>gK P w0 σ f l R ρ∧K ⟨R,none,some ρ⟩
  | _=>False)
 | .hook out=>aF P w0 o σ (fun u=>u=out)∧K out
 | .pk b=>(match o.op with
  | .pick c x y=>JR σ c fun s=>match s with
   | .val (.bool v)=>v=b∧(match b with
    | true=>JR σ x fun s=>K (one s)
    | false=>JR σ y fun s=>K (one s))
   | _=>False
  | _=>False)
 | .byt l=>(match o.op with
  | .convert src dst x=>oy tt σ src dst x l (K (one (.val (.string ⟨l.toArray⟩))))
  | _=>False)
 | .rd is R=>Ol σ is fun m=>gY (Cy P w0 m) σ o R∧K (one (.val R))
 | .nw R is val ρ=>(match o.op with
  | .call c=>Je σ c fun f l=>ZQ (VL (fun _=>false) (fun _=>false) l&&R.ok (fun _=>false) (fun i=>Nat.beq i σ.rs.length)) (Ol σ is fun m=>NewIn P w0 m f (QI e0 l).toArray (fun y=>R.den (Ot (val y))) ρ∧(∀y,(val y).oneCell'=true)∧K ⟨R,none,some (KT val ρ)⟩)
  | _=>False)
 | .nb R val ρ=>(match o.op with
  | .call c=>(match c.callee with
   | .builtin b=>Wf σ c.args.toList fun l=>ZQ (R.ok (fun _=>false) (fun i=>Nat.beq i σ.rs.length)) (NewB P w0 σ l (Kt b c.argTypes o.type) (fun y=>R.den (Ot (val y))) ρ∧(∀y,(val y).oneCell'=true)∧K ⟨R,none,some (KT val ρ)⟩)
   | _=>False)
  | _=>False)
 | .nwb R t cs val blk ρ=>(match o.op with
  | .call c=>Je σ c fun f l=>ZQ (VL (fun _=>false) (fun _=>false) l&&(R.ok (fun b=>Nat.beq b σ.bs.length) (fun i=>Nat.beq i σ.rs.length)&&VL (fun _=>false) (fun _=>false) cs)) (el P w0 f (QI e0 l).toArray (fun y=>R.den (Fa (fun _=>blk y) (fun _=>val y))) blk t (QI e0 cs).toArray ρ∧(∀y,(val y).oneCell'=true)∧K ⟨R,some (t,cs),some (KT val ρ)⟩)
  | _=>False)
 | .rth is R=>(match o.op with
  | .call c=>Je σ c fun f l=>RetH P w0 σ is f l R∧K (one (.val R))
  | _=>False)
 | .nwc is R val ρ=>(match o.op with
  | .call c=>Je σ c fun f l=>ZQ (R.ok (fun _=>false) (fun i=>Nat.beq i σ.rs.length)) (NewH P w0 σ is f l (fun y=>R.den (Ot (val y))) ρ∧(∀y,(val y).oneCell'=true)∧K ⟨R,none,some (KT val ρ)⟩)
  | _=>False)
 | .retr is R=>(match o.op with
  | .call c=>Je σ c fun f l=>ZQ (VL (fun _=>false) (fun _=>false) l) (Ol σ is fun m=>E1 P w0 m f (QI e0 l).toArray R∧K (one (.val R)))
  | _=>False)
section
variable {P:Program} {tt:List (Nat×TI)} {w0:World} {σ:St} {K:Out→Prop}
theorem XY{c:Call}{K:FuncId→List SV→Prop}(h:Je σ c K): ∃f l,K f l∧σ.ltL l=σ.ltL l∧∀(o:Oper),o.op=.call c→Yf P f→∀r a w,See w0 σ r a w→(execOp a.eval o).run P w=.ok (.enter f (QI r l).toArray) w:=by
 unfold Je at h
 split at h
 ·rename_i f hc
  obtain⟨s,h1,h⟩:=Qy h
  split at h
  ·rename_i g l m
   obtain⟨n,h,h2⟩:=Za (w0:=w0) h
   refine⟨g,_,h,rfl,fun o ho he r a w hw=>?_⟩
   have h3:=(Qs hw h1).1
   unfold execOp
   rw[ho]
   simp only[resolve,hc,h3,SV.den,Deferred.ofValue,Sem.run_bind,Sem.run_pure,Result.andThen_ok,invoke]
   rw[Zz _ _ _ (h2 r a w hw).1]
   have h4:(QI r l).toArray++(QI r n).toArray++(QI r m).toArray=(QI r (l++n++m)).toArray:=by simp[Xi]
   rw[h4,he]
  ·rename_i g l m
   obtain⟨n,h,h2⟩:=Za (w0:=w0) h
   refine⟨g,_,h,rfl,fun o ho he r a w hw=>?_⟩
   have h3:=(Qs hw h1).1
   unfold execOp
   rw[ho]
   simp only[resolve,hc,h3,SV.den,Deferred.ofValue,Sem.run_bind,Sem.run_pure,Result.andThen_ok,invoke]
   rw[Zz _ _ _ (h2 r a w hw).1]
   have h4:l++(QI r n).toArray++m=(QI r (l.toList.map SV.val++n++m.toList.map SV.val)).toArray:=by
    have e1:∀x:Array Value,(QI r (x.toList.map SV.val))=x.toList:=fun x=>Ge r x.toList
    rw[Xi r (_++_++_),Sj,Sj,← Xi,← Xi,← Xi,e1,e1]
    simp
   rw[h4,he]
  ·exact h.elim
 ·exact h.elim
theorem On{o:Oper}{f:FuncId}{l:List SV}{R:SV}(h:K (one R))(hs:σ.lt R=true)(hr:∀r a w,See w0 σ r a w→(execOp a.eval o).run P w=.ok (.enter f (QI r l).toArray) w)(hc:∀r a W,See w0 σ r a W→Calls P f (QI r l).toArray W fun e w'=>e=.returned (R.den r)∧Below W.heap.size W w'): N6 P w0 o σ K :=
 ⟨_,h,fun r a w hw Q next hn=>by
  unfold Oper.wp
  rw[hr r a w hw]
  show Calls P f _ w _
  refine(hc r a w hw).mono ?_
  rintro e w' ⟨rfl,hb⟩
  have h1:=hn _ Gh.no w' rfl hb (by exact⟨rfl,(fun _ _ h=>nomatch h),(fun _ h=>nomatch h),(fun _ _ h=>nomatch h)⟩)
  rw[show(one R).s=R from rfl,IT hs]at h1
  exact h1⟩
theorem kB(hT:YF P tt)(hK:∀out,K out→σ.fits out=true){o:Oper}{x:DOp}(h:oi P tt w0 σ o x K): N6 P w0 o σ K:=by
 unfold oi at h
 split at h
 ·rename_i R
  obtain⟨out,h1,h2⟩:=NG (w0:=w0) hT (K:=fun out=>Ps out.s R (K ⟨R,out.b,out.r⟩)) (fun out ho=>by
   obtain⟨h1,a,e1,rfl⟩:=Eh ho
   have h2:=hK _ h1
   rw[← e1]at h2
   exact h2) h
  obtain⟨h3,a,e1,rfl⟩:=Eh h1
  refine⟨_,h3,fun r A w hw Q next hn=>h2 r A w hw Q next ?_⟩
  rintro u γ w' rfl hb hm
  have h4:=hn _ γ w' rfl hb ⟨hm.one,hm.b,hm.r,hm.apart⟩
  rw[e1]
  exact h4
 ·exact Yd hK _ h.2 fun r a w hw=>fS h.1 r a w hw
 ·rename_i R
  split at h
  ·rename_i c ho
   obtain⟨f,l,h,_,hr⟩:=XY (P:=P) (w0:=w0) h
   cases hp:VL (fun _=>false) (fun _=>false) l&&R.plain with
   | true =>
    rw[hp]at h
    obtain⟨⟨he,hc⟩,h⟩:=h
    obtain⟨p1,p2⟩:=L6.1 hp
    refine On h (O4 hK h) (hr o ho he) fun r a W hw=>?_
    rw[YK p1,J8 p2]
    exact hc W hw.low
   | false =>
    rw[hp]at h
    obtain⟨hc,h⟩:=h
    exact On h (O4 hK h) (hr o ho hc.1) fun r a W hw=>hc.use hw
  ·exact h.elim
 ·rename_i R ρ
  split at h
  ·rename_i c ho
   obtain⟨f,l,h,_,hr⟩:=XY (P:=P) (w0:=w0) h
   obtain⟨⟨he,hc⟩,h⟩:=h
   refine⟨_,h,fun r a w hw Q next hn=>?_⟩
   unfold Oper.wp
   rw[hr o ho he r a w hw]
   show Calls P f _ w _
   refine(hc r a w hw).mono ?_
   rintro e w' ⟨x,S,rfl,hφ,hS,hb⟩
   exact hn _ ⟨0,x,S⟩ w' rfl hb ⟨ρ.one x S w' hφ,(fun _ _ h=>nomatch h),(fun R' h=>by obtain rfl:=Option.some.inj h;exact⟨hφ,hS⟩),(fun _ _ h=>nomatch h)⟩
  ·exact h.elim
 ·exact⟨_,h.2,h.1⟩
 ·split at h
  ·rename_i b c x y e
   obtain⟨s,h1,h⟩:=Qy h
   have hx:∀ev,execOp ev o=execOp ev { o with op:=.pick c x y }:=fun ev=>by rw[← e]
   split at h
   ·rename_i v
    obtain⟨hv,h⟩:=h
    subst hv
    cases v with
    | true =>
     obtain⟨u,h2,h⟩:=Qy h
     refine Yd hK _ h fun r A w hw=>?_
     rw[hx,← (Qs hw h2).1]
     have h3:=(Qs hw h1).1
     unfold execOp
     simp only[h3,SV.den,asBool]
     rfl
    | false =>
     obtain⟨u,h2,h⟩:=Qy h
     refine Yd hK _ h fun r A w hw=>?_
     rw[hx,← (Qs hw h2).1]
     have h3:=(Qs hw h1).1
     unfold execOp
     simp only[h3,SV.den,asBool]
     rfl
   ·exact h.elim
  ·exact h.elim
 ·rename_i l
  split at h
  ·rename_i src dst x e
   obtain⟨h,ety,ht1,ht2,ht3⟩:=UL hT h
   obtain⟨s,h1,h⟩:=Qy h
   split at h
   ·rename_i b off n c
    obtain⟨q,h2,h⟩:=QY h
    obtain⟨hn,h⟩:=Qp h
    have hn:=Lc hn
    have hk:=(VW (r:=e0) h).1
    refine Yd hK _ hk fun r A w hw=>?_
    obtain⟨_,hlen,hcs⟩:=VW (r:=r) h
    have hx:∀ev,execOp ev o=execOp ev { o with op:=.convert src dst x }:=fun ev=>by rw[← e]
    have hv:=(Qs hw h1).1
    have hb:=(hw.bs b q.1 q.2 h2).1
    have hrun:=run_convert_bytes_back (P:=P) w src dst ety ⟨r.b b,off,none⟩ c l ht1 ht2 ht3 (fun j hj=>by
     rw[Q9,hb.cel]
     have h3:=hcs j hj
     rw[AG]at h3
     rw[List.getElem?_take_of_lt (by omega),List.getElem?_drop]at h3
     simpa using h3)
    rw[hx]
    rw[← hn]at hrun
    unfold execOp
    simp only[hv,SV.den,Sem.run_bind,hrun]
    rfl
   ·exact h.elim
  ·exact h.elim
 ·obtain⟨l,h,hl⟩:=KR (w0:=w0) h
  exact Yd hK _ h.2 fun r a w hw=>O0 (fun _ _ h r a w hw=>hl r a w _ hw (h w hw.low)) h.1 r a w hw
 ·rename_i β R is val ρ
  split at h
  ·rename_i c ho
   obtain⟨f,l,h,_,hr⟩:=XY (P:=P) (w0:=w0) h
   obtain⟨hp,h⟩:=Qp h
   obtain⟨p1,p2⟩:=L6.1 hp
   obtain⟨m,⟨⟨he,hc⟩,hone,h⟩,hm⟩:=KR (w0:=w0) h
   refine⟨_,h,fun r a w hw Q next hn=>?_⟩
   unfold Oper.wp
   rw[hr o ho he r a w hw,YK p1]
   show Calls P f _ w _
   refine(hm r a w _ hw (hc w hw.low)).mono ?_
   rintro e w' ⟨y,x0,S,rfl,hφ,hS,hb⟩
   have e2:R.den (Ot (val y))=R.den (r.add' σ ⟨0,val y,S⟩):=Yn (β:=fun _=>false) (ξ:=fun i=>Nat.beq i σ.rs.length) (fun _ h=>nomatch h) (fun i hi=>by rw[Lc hi];exact(Xw _ _ _).symm) R p2
   dsimp only
   rw[e2]
   exact hn _ ⟨0,val y,S⟩ w' rfl hb ⟨hone y,(fun _ _ h=>nomatch h),(fun R' h=>by obtain rfl:=Option.some.inj h;exact⟨⟨hone y,y,x0,rfl,hφ⟩,hS⟩),(fun _ _ h=>nomatch h)⟩
  ·exact h.elim
 ·rename_i β R val ρ
  split at h
  ·rename_i c ho
   split at h
   ·rename_i b hc
    obtain⟨l,h,h1⟩:=Za (w0:=w0) h
    obtain⟨p2,h,hone,hk⟩:=Qp h
    refine⟨_,hk,fun r a w hw Q next hn=>?_⟩
    obtain⟨y,x0,S,w',h2,hb,hφ,hS⟩:=h.use hw
    have h5:(execOp a.eval o).run P w=.ok (.value (R.den (Ot (val y)))) w':=by
     rw[show execOp a.eval o=execOp a.eval { o with op:=.call c } by rw[← ho]]
     unfold execOp
     unfold Kt at h2
     split at h2
     all_goals first|(simp[resolve,hc,invoke,builtin,Zz _ _ _ (h1 r a w hw).1,h2];done)|(cases h2;done)
    have e2:R.den (Ot (val y))=R.den (r.add' σ ⟨0,val y,S⟩):=Yn (β:=fun _=>false) (ξ:=fun i=>Nat.beq i σ.rs.length) (fun _ h=>nomatch h) (fun i hi=>by rw[Lc hi];exact(Xw _ _ _).symm) R p2
    unfold Oper.wp
    rw[h5,e2]
    exact hn _ ⟨0,val y,S⟩ w' rfl hb ⟨hone y,(fun _ _ h=>nomatch h),(fun R' h=>by obtain rfl:=Option.some.inj h;exact⟨⟨hone y,y,x0,rfl,hφ⟩,hS⟩),(fun _ _ h=>nomatch h)⟩
   ·exact h.elim
  ·exact h.elim
 ·rename_i β R t cs val blk ρ
  split at h
  ·rename_i c ho
   obtain⟨f,l,h,_,hr⟩:=XY (P:=P) (w0:=w0) h
   obtain⟨hp,⟨he,hc⟩,hone,hk⟩:=Qp h
   obtain⟨p1,hp⟩:=L6.1 hp
   obtain⟨p2,p3⟩:=L6.1 hp
   refine⟨_,hk,fun r a w hw Q next hn=>?_⟩
   unfold Oper.wp
   rw[hr o ho he r a w hw,YK p1]
   show Calls P f _ w _
   refine(hc w hw.low).mono ?_
   rintro e w' ⟨y,x0,S,rfl,hB,hge,hφ,hS,hap,hb⟩
   have e2:R.den (Fa (fun _=>blk y) (fun _=>val y))=R.den (r.add' σ ⟨blk y,val y,S⟩):=Yn (β:=fun b=>Nat.beq b σ.bs.length) (ξ:=fun i=>Nat.beq i σ.rs.length) (fun i hi=>by rw[Lc hi];exact(Xw _ _ _).symm) (fun i hi=>by rw[Lc hi];exact(Xw _ _ _).symm) R p2
   dsimp only
   rw[e2]
   exact hn _ ⟨blk y,val y,S⟩ w' rfl hb ⟨hone y,(fun t' cs' h=>by obtain⟨rfl,rfl⟩:=Prod.mk.inj (Option.some.inj h);exact⟨by rw[YK p3];exact hB,hge⟩),(fun R' h=>by obtain rfl:=Option.some.inj h;exact⟨⟨hone y,y,x0,rfl,hφ⟩,hS⟩),(fun _ _ _ _=>hap)⟩
  ·exact h.elim
 ·rename_i is R
  split at h
  ·rename_i c ho
   obtain⟨f,l,⟨h,hk⟩,_,hr⟩:=XY (P:=P) (w0:=w0) h
   refine⟨_,hk,fun r a w hw Q next hn=>?_⟩
   unfold Oper.wp
   rw[hr o ho h.1 r a w hw]
   show Calls P f _ w _
   refine(h.use hw).mono ?_
   rintro e w' ⟨rfl,hb⟩
   exact hn _ Gh.no w' rfl hb ⟨rfl,(fun _ _ h=>nomatch h),(fun _ h=>nomatch h),(fun _ _ h=>nomatch h)⟩
  ·exact h.elim
 ·rename_i β is R val ρ
  split at h
  ·rename_i c ho
   obtain⟨f,l,h,_,hr⟩:=XY (P:=P) (w0:=w0) h
   obtain⟨p2,h,hone,hk⟩:=Qp h
   refine⟨_,hk,fun r a w hw Q next hn=>?_⟩
   unfold Oper.wp
   rw[hr o ho h.1 r a w hw]
   show Calls P f _ w _
   refine(h.use hw).mono ?_
   rintro e w' ⟨y,x0,S,rfl,hφ,hS,hb⟩
   have e2:R.den (Ot (val y))=R.den (r.add' σ ⟨0,val y,S⟩):=Yn (β:=fun _=>false) (ξ:=fun i=>Nat.beq i σ.rs.length) (fun _ h=>nomatch h) (fun i hi=>by rw[Lc hi];exact(Xw _ _ _).symm) R p2
   dsimp only
   rw[e2]
   exact hn _ ⟨0,val y,S⟩ w' rfl hb ⟨hone y,(fun _ _ h=>nomatch h),(fun R' h=>by obtain rfl:=Option.some.inj h;exact⟨⟨hone y,y,x0,rfl,hφ⟩,hS⟩),(fun _ _ h=>nomatch h)⟩
  ·exact h.elim
 ·rename_i is R
  split at h
  ·rename_i c ho
   obtain⟨f,l,h,_,hr⟩:=XY (P:=P) (w0:=w0) h
   obtain⟨p1,h⟩:=Qp h
   obtain⟨m,⟨⟨he,hc⟩,h⟩,hm⟩:=KR (w0:=w0) h
   refine On h (O4 hK h) (hr o ho he) fun r a W hw=>?_
   rw[YK p1]
   exact hm r a W _ hw (hc W hw.low)
  ·exact h.elim
end
open Go Go.RowKit
abbrev Hp:Type:=Option Addr×Nat
def Ag(σ:St)(r r':Env): Prop:=(∀i,i<σ.bs.length→r'.b i=r.b i)∧∀i,i<σ.rs.length→r'.x i=r.x i
def St.le(σ σ':St): Prop:=σ.bs.length≤σ'.bs.length∧σ.rs.length≤σ'.rs.length
def ph(σ σ':St): Bool:=Nat.ble σ.bs.length σ'.bs.length&&Nat.ble σ.rs.length σ'.rs.length
structure Trn (S:Nat→Prop) (w w':World):Prop where
 os:w'.os=w.os
 tape:w'.tape=w.tape
 output:w'.output=w.output
 size:w.heap.size≤w'.heap.size
 block:∀k,k<w.heap.size→¬ S k→w'.heap[k]?=w.heap[k]?
theorem Trn.of_grown{S:Nat→Prop}{w w':World}{row:Option Nat}(h:w.grownBy w' row)(hr:∀k,row=some k→S k): Trn S w w' :=
 ⟨h.os,h.tape,h.output,h.size,fun k hk hn=>h.block k hk fun e=>hn (hr k e.symm)⟩
theorem Trn.refl(S:Nat→Prop)(w:World): Trn S w w:=⟨rfl,rfl,rfl,L3 _,fun _ _ _=>rfl⟩
theorem Trn.trans{S:Nat→Prop}{a b c:World}(h:Trn S a b)(k:Trn S b c): Trn S a c :=
 ⟨k.os.trans h.os,k.tape.trans h.tape,k.output.trans h.output,L8 h.size k.size,fun i hi hn=>(k.block i (Lb hi h.size) hn).trans (h.block i hi hn)⟩
theorem Trn.setCell{S:Nat→Prop}{w:World}{p:Addr}(hp:S p.block)(u:Value): Trn S w (w.setCell p u) :=
 ⟨rfl,rfl,rfl,by simp[World.setCell],fun k _ hn=>Sv w p u k fun e=>hn (e▸hp)⟩
def Yi(i:Nat)(R:Res)(σ:St): St:={ σ with rs:=KL σ.rs i R }
def Cp(R:Res)(σ:St): St:={ σ with rs:=Vd σ.rs (some R) }
def pb(e:TypeId)(k:Nat)(v:Value)(n:Nat)(xs:List Value): Res where
 φ x S w:=x.oneCell'=true∧w.ownsRow 0 e k v n xs∧∀b,S b↔v.ownBlock=some b
 one _ _ _ h:=h.1
 loc x S w w' h hφ:=by
  obtain⟨h1,h2,h3⟩:=hφ
  refine⟨h1,⟨h2.1,?_⟩,h3⟩
  rcases h2.2 with h4|⟨g,cap,cur,e1,hb,hg,rest⟩
  ·exact .inl h4
  ·exact .inr ⟨g,cap,cur,e1,hb,(h g ((h3 g).2 (by rw[e1];rfl))).trans hg,rest⟩
def Qd{α:Type}(e:TypeId)(k:Nat)(c:α→List Value)(l:List α)(A:Option Addr)(cp:Nat): Res:=pb e k (.slice A l.length cp) l.length (l.flatMap c)
theorem Xe{α β:Type}{e:TypeId}{k:Nat}{c:α→List Value}{c':β→List Value}{l:List α}{l':List β}{A:Option Addr}{cp:Nat}(hn:l.length=l'.length)(h:l.flatMap c=l'.flatMap c'){x:Value}{S:Nat→Prop}{w:World}(hφ:(Qd e k c l A cp).φ x S w): (Qd e k c' l' A cp).φ x S w:=by
 unfold Qd at hφ ⊢
 rw[← hn,← h]
 exact hφ
theorem QP{α:Type}{c:α→List Value}{k:Nat}(hc:∀x,(c x).length=k): ∀l:List α,(l.flatMap c).length=l.length*k
 | []=>by simp
 | x::l=>by rw[Rm,Lg,QP hc l,hc,Rb,Rr,Ta]
theorem YZ{α:Type}{c:α→List Value}{k:Nat}(hc:∀x,(c x).length=k): ∀ {l:List α} {j i:Nat} (hj:j<l.length),i<k→(l.flatMap c)[j*k+i]?=(c l[j])[i]?
 | x::l,0,i,_,hi=>by
  rw[Rm,Th,Ld,List.getElem?_append_left (by rw[hc];exact hi)]
  rfl
 | x::l,j+1,i,hj,hi=>by
  have hj':j<l.length:=Nat.lt_of_succ_lt_succ hj
  rw[Rm,List.getElem?_append_right (by rw[hc,Rr];omega),hc,show(j+1)*k+i-k=j*k+i by rw[Rr];omega]
  exact YZ hc hj' hi
section
variable {w0:World} {σ:St}
theorem Ag.refl(σ:St)(r:Env): Ag σ r r:=⟨fun _ _=>rfl,fun _ _=>rfl⟩
theorem Ag.trans{σ σ':St}{r r' r'':Env}(h:Ag σ r r')(hl:σ.le σ')(k:Ag σ' r' r''): Ag σ r r'' :=
 ⟨fun i hi=>(k.1 i (Lb hi hl.1)).trans (h.1 i hi),fun i hi=>(k.2 i (Lb hi hl.2)).trans (h.2 i hi)⟩
theorem Ag.le{σ σ':St}{r r':Env}(h:Ag σ' r r')(hl:σ.le σ'): Ag σ r r':=(Ag.refl σ r).trans hl h
theorem Ag.add(σ:St)(r:Env)(γ:Gh): Ag σ r (r.add' σ γ):=⟨fun _ hi=>Yl _ _ (Sk hi),fun _ hi=>Yl _ _ (Sk hi)⟩
theorem St.le.refl(σ:St): σ.le σ:=⟨L3 _,L3 _⟩
theorem St.le.trans{σ σ' σ'':St}(h:σ.le σ')(k:σ'.le σ''): σ.le σ'':=⟨L8 h.1 k.1,L8 h.2 k.2⟩
theorem fg(σ:St)(o:Out): σ.le (σ.grow o):=⟨Ha,IF⟩
theorem Zh(σ:St)(d:Option Tmp)(s:SV): σ.le (σ.push d s):=by cases d<;>exact St.le.refl σ
theorem Wp{σ σ':St}(h:ph σ σ'=true): σ.le σ':=by
 obtain⟨h1,h2⟩:=L6.1 h
 exact⟨Lr h1,Lr h2⟩
theorem Ag.den{σ:St}{r r':Env}(h:Ag σ r r'){s:SV}(hs:σ.lt s=true): s.den r'=s.den r:=Yn (fun i hi=>h.1 i (QX hi)) (fun i hi=>h.2 i (QX hi)) s hs
theorem B5{α:Type}: ∀ {l:List (Option α)} {i:Nat} {p y:α},Xk l i=some p→Xk (KL l i y) i=some y
 | [],_,_,_,h=>by cases h
 | _::_,0,_,_,_=>rfl
 | _::l,n+1,_,_,h=>B5 (l:=l) (i:=n) h
theorem Vy{α:Type}: ∀ {l:List (Option α)} {i j:Nat} {y:α},j≠i→Xk (KL l i y) j=Xk l j
 | [],_,_,_,_=>rfl
 | _::_,0,0,_,h=>absurd rfl h
 | _::_,0,_+1,_,_=>rfl
 | _::_,_+1,0,_,_=>rfl
 | _::l,i+1,j+1,_,h=>Vy (l:=l) (i:=i) (j:=j) (fun e=>h (by rw[e]))
theorem K6(r:Env)(S:Nat→Nat→Prop)(s:SV): s.den ⟨r.b,r.x,S⟩=s.den r :=
 Yn (r:=⟨r.b,r.x,S⟩) (r':=r) (β:=fun _=>true) (ξ:=fun _=>true) (fun _ _=>rfl) (fun _ _=>rfl) s (by
  exact SV.rec (motive_1:=fun s=>s.ok (fun _=>true) (fun _=>true)=true) (motive_2:=fun l=>VL (fun _=>true) (fun _=>true) l=true) (fun _=>rfl) (fun _ _=>rfl) (fun _ _ _ _=>rfl) (fun _ _ _ h1 h2=>L6.2 ⟨h1,h2⟩) (fun _ h=>h) (fun _ h=>h) (fun _=>rfl) rfl (fun _ _ h1 h2=>L6.2 ⟨h1,h2⟩) s)
theorem Ve(r:Env)(S:Nat→Nat→Prop)(l:List SV): QI ⟨r.b,r.x,S⟩ l=QI r l:=by
 rw[Xi,Xi]
 exact T5 fun s _=>K6 r S s
theorem Sat.turn{r:Env}{a:Act}{w w':World}{i:Nat}{R R':Res}{S':Nat→Prop}(h:Sat w0 σ r a w)(hi:Xk σ.rs i=some R)(ht:Trn (r.S i) w w')(hφ:R'.φ (r.x i) S' w')(hS:∀b,S' b→(r.S i b∨w.heap.size≤b)∧b<w'.heap.size):
  Sat w0 (Yi i R' σ) ⟨r.b,r.x,JH r.S i S'⟩ a w':=by
 have hlen:(Yi i R' σ).rs.length=σ.rs.length:=XQ _ _ _
 have hlt:∀s,(Yi i R' σ).lt s=σ.lt s:=fun s=>by simp only[St.lt,hlen];rfl
 have hltL:∀s,(Yi i R' σ).ltL s=σ.ltL s:=fun s=>by simp only[St.ltL,hlen];rfl
 have hlow:=h.see.low
 have hrs:∀j R2,Xk (Yi i R' σ).rs j=some R2→(j=i∧R2=R'∧JH r.S i S' j=S')∨(j≠i∧Xk σ.rs j=some R2∧JH r.S i S' j=r.S j):=fun j R2 hj=>by
  rcases qA hj with⟨e1,e2⟩|⟨e1,e2⟩
  ·subst e1;exact .inl ⟨rfl,e2,Xw _ _ _⟩
  ·exact .inr ⟨e1,e2,Yl _ _ e1⟩
 refine⟨⟨⟨ht.os.trans hlow.os,ht.tape.trans hlow.tape,ht.output.trans hlow.output,L8 hlow.size ht.size,fun k hk=>?_⟩,h.see.size,fun k s hk=>?_,fun j t cs hj=>?_,fun j R2 hj=>?_,fun j hj=>h.see.one j (by rwa [hlen]at hj)⟩,⟨h.sep.own,h.sep.inj,fun j R2 hj b hb=>?_,fun j m R2 R3 hj hm hne b hb hb2=>?_,fun j m p R2 hj hm hb=>?_⟩,h.defers⟩
 ·refine(ht.block k (Lb hk hlow.size) fun hs=>?_).trans (hlow.block k hk)
  exact absurd (h.sep.ownS i R hi k hs) (by omega)
 ·obtain⟨h1,h2⟩:=h.see.ts k s hk
  exact⟨by rw[K6];exact h1,by rw[hlt];exact h2⟩
 ·obtain⟨h1,h2⟩:=h.see.bs j t cs hj
  refine⟨?_,by rw[hltL];exact h2⟩
  rw[Ve]
  exact(ht.block _ h1.lt (h.sep.apart j i _ _ hj hi)).trans h1
 ·rcases hrs j R2 hj with⟨rfl,rfl,e⟩|⟨hne,h1,e⟩
  ·rw[show(⟨r.b,r.x,JH r.S j S'⟩:Env).S j=S' from e]
   exact⟨hφ,fun b hb=>(hS b hb).2⟩
  ·rw[show(⟨r.b,r.x,JH r.S i S'⟩:Env).S j=r.S j from e]
   obtain⟨h2,h3⟩:=h.see.rs j R2 h1
   exact⟨R2.loc _ _ _ _ (fun b hb=>ht.block b (h3 b hb) fun hs=>h.sep.disj j i R2 R h1 hi hne b hb hs) h2,fun b hb=>Lb (h3 b hb) ht.size⟩
 ·rcases hrs j R2 hj with⟨rfl,rfl,e⟩|⟨hne,h1,e⟩
  ·rw[show(⟨r.b,r.x,JH r.S j S'⟩:Env).S j=S' from e]at hb
   rcases(hS b hb).1 with h2|h2
   ·exact h.sep.ownS j R hi b h2
   ·exact L8 hlow.size h2
  ·rw[show(⟨r.b,r.x,JH r.S i S'⟩:Env).S j=r.S j from e]at hb
   exact h.sep.ownS j R2 h1 b hb
 ·rcases hrs j R2 hj with⟨e1,_,e⟩|⟨hn1,h1,e⟩<;>rcases hrs m R3 hm with⟨e3,_,e4⟩|⟨hn2,h2,e4⟩
  ·exact hne (e1.trans e3.symm)
  ·rw[show(⟨r.b,r.x,JH r.S i S'⟩:Env).S j=S' from e]at hb
   rw[show(⟨r.b,r.x,JH r.S i S'⟩:Env).S m=r.S m from e4]at hb2
   rcases(hS b hb).1 with h3|h3
   ·exact h.sep.disj i m R R3 hi h2 (Ne.symm hn2) b h3 hb2
   ·exact absurd ((h.see.rs m R3 h2).2 b hb2) (by omega)
  ·rw[show(⟨r.b,r.x,JH r.S i S'⟩:Env).S j=r.S j from e]at hb
   rw[show(⟨r.b,r.x,JH r.S i S'⟩:Env).S m=S' from e4]at hb2
   rcases(hS b hb2).1 with h3|h3
   ·exact h.sep.disj j i R2 R h1 hi hn1 b hb h3
   ·exact absurd ((h.see.rs j R2 h1).2 b hb) (by omega)
  ·rw[show(⟨r.b,r.x,JH r.S i S'⟩:Env).S j=r.S j from e]at hb
   rw[show(⟨r.b,r.x,JH r.S i S'⟩:Env).S m=r.S m from e4]at hb2
   exact h.sep.disj j m R2 R3 h1 h2 hne b hb hb2
 ·rcases hrs m R2 hm with⟨e1,_,e⟩|⟨hne,h1,e⟩
  ·rw[show(⟨r.b,r.x,JH r.S i S'⟩:Env).S m=S' from e]at hb
   have hbx:=(h.see.bs j p.1 p.2 hj).1.lt
   rcases(hS _ hb).1 with h2|h2
   ·exact h.sep.apart j i p R hj hi h2
   ·have:r.b j<w.heap.size:=hbx
    have h3:w.heap.size≤r.b j:=h2
    omega
  ·rw[show(⟨r.b,r.x,JH r.S i S'⟩:Env).S m=r.S m from e]at hb
   exact h.sep.apart j m p R2 hj h1 hb
theorem AE(r:Env)(S:Nat→Nat→Prop): Ag σ r ⟨r.b,r.x,S⟩:=⟨fun _ _=>rfl,fun _ _=>rfl⟩
theorem GL(j:Nat)(R:Res): σ.le (Yi j R σ):=⟨L3 _,by simp[Yi,XQ]⟩
theorem Sat.fresh{r:Env}{a:Act}{w w':World}{R:Res}{x:Value}{S:Nat→Prop}(h:Sat w0 σ r a w)(hb:Below w.heap.size w w')(hφ:R.φ x S w')(hS:∀b,S b→w.heap.size≤b∧b<w'.heap.size):
  Sat w0 (Cp R σ) (r.add' σ ⟨0,x,S⟩) a w':=by
 have h1:Made (r.add' σ ⟨0,x,S⟩) ⟨.val undef,none,some R⟩ ⟨0,x,S⟩ w w':=⟨R.one x S w' hφ,(fun _ _ h=>nomatch h),(fun R' e=>by obtain rfl:=Option.some.inj e;exact⟨hφ,hS⟩),(fun _ _ h=>nomatch h)⟩
 have h2:σ.fits ⟨.val undef,none,some R⟩=true:=rfl
 exact⟨h.see.grow hb h2 h1,h.sep.grow h.see hb h1,h.defers⟩
theorem Hj(R:Res): σ.le (Cp R σ):=⟨L3 _,by simp[Cp,YN]⟩
end
section
variable {w0:World} {σ:St}
def WH{β:Type}(w0:World)(σ:St)(out:β→St): Prop:=∀r a w,Sat w0 σ r a w→∃b r',Sat w0 (out b) r' a w∧Ag σ r r'
theorem fF{α:Type}(e k:Nat)(c:α→List Value): WH w0 σ (fun _:Unit=>Cp (Qd e k c ([]:List α) none 0) σ):=fun r a w hS =>
 ⟨(),_,hS.fresh (x:=.bool false) (S:=fun _=>False) (Below.refl _ _) (show _∧_∧_ from⟨rfl,World.ownsRow_nil w 0 e k,fun b=>⟨fun h=>h.elim,fun h=>by simp[Value.ownBlock]at h⟩⟩) (fun _ h=>h.elim),Ag.add _ _ _⟩
def VV{α:Type}: List (Option α)→Nat→List (Option α)
 | [],_=>[]
 | _::l,0=>none::l
 | x::l,n+1=>x::VV l n
theorem Jt{α:Type}: ∀(l:List (Option α)) (i:Nat),(VV l i).length=l.length
 | [],_=>rfl
 | _::_,0=>rfl
 | _::l,n+1=>R7 Nat.succ (Jt l n)
theorem Hk{α:Type}: ∀ {l:List (Option α)} {i j:Nat} {z:α},Xk (VV l i) j=some z→j≠i∧Xk l j=some z
 | [],_,_,_,h=>by cases h
 | _::_,0,0,_,h=>by cases h
 | _::_,0,_+1,_,h=>⟨by simp,h⟩
 | _::_,_+1,0,_,h=>⟨by simp,h⟩
 | _::l,i+1,j+1,_,h=>(Hk (l:=l) (i:=i) (j:=j) h).imp (fun e=>by simpa using e) id
def ix(ds:List Nat)(s:SV)(l:List (Nat×SV)): List (Nat×SV):=match ds with
 | []=>l
 | d::ds=>(d,s)::ix ds s l
def fB(σ:St)(b m:Nat): List Nat→Bool
 | []=>true
 | d::ds=>(match Yv d σ.ts with
  | some (.sli b' o n c)=>Nat.beq b' b&&Nat.beq o 0&&Nat.beq n m&&Nat.beq c m
  | _=>false)&&fB σ b m ds
theorem Fj{s u:SV}{k:Nat}{l:List (Nat×SV)}: ∀ {ds:List Nat},Yv k (ix ds s l)=some u→(k∈ds∧u=s)∨Yv k l=some u
 | [],h=>.inr h
 | d::ds,h=>by
  simp only[ix,Yv]at h
  cases e:Nat.beq d k with
  | true=>rw[e]at h;exact .inl ⟨by rw[← Lc e];simp,(Option.some.inj h).symm⟩
  | false=>rw[e]at h;exact(Fj (ds:=ds) h).imp (fun h=>⟨T2 _ h.1,h.2⟩) id
theorem Fm{b m:Nat}: ∀ {ds:List Nat},fB σ b m ds=true→∀d,d∈ds→Yv d σ.ts=some (.sli b 0 m m)
 | [],_,_,h=>by cases h
 | d::ds,h,d',hd=>by
  obtain⟨h1,h2⟩:=L6.1 h
  rcases Lp.1 hd with rfl|hd
  ·split at h1
   ·rename_i b' o n c e
    obtain⟨h1,h6⟩:=L6.1 h1
    obtain⟨h1,h5⟩:=L6.1 h1
    obtain⟨h3,h4⟩:=L6.1 h1
    rw[e,Lc h3,Lc h4,Lc h5,Lc h6]
   ·cases h1
  ·exact Fm h2 d' hd
def Ej{α:Type}(b:Nat)(ds:List Nat)(e k:Nat)(c:α→List Value)(l:List α)(y:Hp)(σ:St): St:=⟨σ.n,ix ds (.val (.slice y.1 l.length y.2)) σ.ts,VV σ.bs b,Vd σ.rs (some (Qd e k c l y.1 y.2))⟩
theorem gW{α:Type}{b m e k:Nat}{ds:List Nat}{c:α→List Value}{l:List α}{cs:List SV}(hb:Xk σ.bs b=some (e,cs))(hp:VL (fun _=>false) (fun _=>false) cs=true)(hl:QI e0 cs=l.flatMap c)(hm:m=l.length)(hc:∀x,(c x).length=k)(hmax:l.length≤maxLen)(hds:fB σ b m ds=true): WH w0 σ (fun y:Hp=>Ej b ds e k c l y σ):=fun r a w hS=>by
 subst hm
 have h1:=(hS.see.bs b e cs hb).1
 rw[YK hp,hl]at h1
 have hbs:∀j p,Xk (VV σ.bs b) j=some p→j≠b∧Xk σ.bs j=some p:=fun j p h=>Hk h
 have hh:w.heap[r.b b]?=some (.cells (l.flatMap c).toArray e):=h1
 have hown:w.ownsRow 0 e k (.slice (some ⟨r.b b,0,none⟩) l.length l.length) l.length (l.flatMap c):=⟨QP hc l,.inr ⟨r.b b,l.length,(l.flatMap c).toArray,rfl,L9 _,hh,L3 _,hmax,by simpa using QP hc l,by simp[QP hc l,Rh]⟩⟩
 let γ:Gh:=⟨0,.bool false,fun g=>g=r.b b⟩
 have ag:Ag σ r (r.add' σ γ):=Ag.add σ r γ
 have hr1:∀j R,Xk (Vd σ.rs (some (Qd e k c l (some ⟨r.b b,0,none⟩) l.length))) j=some R→(Xk σ.rs j=some R∧(r.add' σ γ).x j=r.x j∧(r.add' σ γ).S j=r.S j)∨(R=Qd e k c l (some ⟨r.b b,0,none⟩) l.length∧j=σ.rs.length∧(r.add' σ γ).x j=.bool false∧(r.add' σ γ).S j=fun g=>g=r.b b):=fun j R hj=>by
  rw[YN]at hj
  rcases AU hj with h2|⟨rfl,h2⟩
  ·exact .inl ⟨h2,ag.2 j (X0 h2),Yl _ _ (Sk (X0 h2))⟩
  ·exact .inr ⟨(Option.some.inj h2).symm,rfl,Xw _ _ _,Xw _ _ _⟩
 have hown0:=hS.sep.own b _ hb
 refine⟨(some ⟨r.b b,0,none⟩,l.length),r.add' σ γ,⟨⟨hS.see.low,hS.see.size,fun j s hj=>?_,fun j t cs' hj=>?_,fun j R hj=>?_,fun j hj=>?_⟩,⟨fun j p hj=>?_,fun i j p q hi hj hne=>?_,fun j R hj g hg=>?_,fun i j R R' hi hj hne g hg hg2=>?_,fun i j p R hi hj hg=>?_⟩,hS.defers⟩,ag⟩
 ·rcases Fj hj with⟨h2,rfl⟩|h2
  ·obtain⟨h3,_⟩:=hS.see.ts j _ (Fm hds j h2)
   exact⟨h3,rfl⟩
  ·obtain⟨h3,h4⟩:=hS.see.ts j s h2
   refine⟨by rw[ag.den h4];exact h3,Jz (fun i hi=>?_) (fun i hi=>?_) s h4⟩
   ·show Nat.blt i (VV σ.bs b).length=true
    rw[Jt];exact hi
   ·show Nat.blt i (Vd σ.rs _).length=true
    exact XW (by rw[YN,Lg];have:=QX hi;simp;omega)
 ·obtain⟨hne,h2⟩:=hbs j _ hj
  obtain⟨h3,h4⟩:=hS.see.bs j t cs' h2
  refine⟨?_,Y0 (fun i hi=>?_) (fun i hi=>?_) cs' h4⟩
  ·rw[ag.1 j (X0 h2),Xm (r:=r.add' σ γ) (r':=r) (β:=fun i=>Nat.blt i σ.bs.length) (ξ:=fun i=>Nat.blt i σ.rs.length) (fun i hi=>ag.1 i (QX hi)) (fun i hi=>ag.2 i (QX hi)) cs' h4]
   exact h3
  ·show Nat.blt i (VV σ.bs b).length=true
   rw[Jt];exact hi
  ·show Nat.blt i (Vd σ.rs _).length=true
   exact XW (by rw[YN,Lg];have:=QX hi;simp;omega)
 ·rcases hr1 j R hj with⟨h2,h3,h4⟩|⟨rfl,_,h3,h4⟩
  ·rw[h3,h4];exact hS.see.rs j R h2
  ·rw[h3,h4]
   exact⟨(show _∧_∧_ from⟨rfl,hown,fun g=>⟨fun h=>by rw[h];rfl,fun h=>by simpa [Value.ownBlock,eq_comm]using h⟩⟩),fun g hg=>by rw[hg];exact h1.lt⟩
 ·have hj':j<σ.rs.length+1:=by
   have h2:j<(Vd σ.rs (some (Qd e k c l (some ⟨r.b b,0,none⟩) l.length))).length:=hj
   rw[YN]at h2
   simpa using h2
  rcases Ra j σ.rs.length with h2|h2
  ·rw[ag.2 j h2];exact hS.see.one j h2
  ·have:j=σ.rs.length:=by omega
   subst this
   rw[show(r.add' σ γ).x σ.rs.length=.bool false from Xw _ _ _]
   rfl
 ·obtain⟨_,h2⟩:=hbs j p hj
  rw[ag.1 j (X0 h2)]
  exact hS.sep.own j p h2
 ·obtain⟨_,h2⟩:=hbs i p hi
  obtain⟨_,h3⟩:=hbs j q hj
  rw[ag.1 i (X0 h2),ag.1 j (X0 h3)]
  exact hS.sep.inj i j p q h2 h3 hne
 ·rcases hr1 j R hj with⟨h2,_,h4⟩|⟨rfl,_,_,h4⟩
  ·rw[h4]at hg;exact hS.sep.ownS j R h2 g hg
  ·rw[h4]at hg;rw[hg];exact hown0
 ·rcases hr1 i R hi with⟨h2,_,h4⟩|⟨rfl,e2,_,h4⟩<;>rcases hr1 j R' hj with⟨h5,_,h6⟩|⟨rfl,e5,_,h6⟩
  ·rw[h4]at hg;rw[h6]at hg2
   exact hS.sep.disj i j R R' h2 h5 hne g hg hg2
  ·rw[h4]at hg;rw[h6]at hg2
   subst hg2
   exact hS.sep.apart b i _ R hb h2 hg
  ·rw[h4]at hg;rw[h6]at hg2
   subst hg
   exact hS.sep.apart b j _ R' hb h5 hg2
  ·exact hne (e2.trans e5.symm)
 ·obtain⟨hne,h2⟩:=hbs i p hi
  rw[ag.1 i (X0 h2)]at hg
  rcases hr1 j R hj with⟨h5,_,h6⟩|⟨rfl,_,_,h6⟩
  ·rw[h6]at hg;exact hS.sep.apart i j p R h2 h5 hg
  ·rw[h6]at hg
   exact hS.sep.inj i b p _ h2 hb hne hg
def mF{α:Type}(σ:St)(b:Nat)(ds:List Nat)(e k:Nat)(c:α→List Value)(l:List α)(K:(Hp→St)→Prop): Prop:=JG (Xk σ.bs b) fun p=>ZQ (Nat.beq p.1 e&&VL (fun _=>false) (fun _=>false) p.2&&fB σ b l.length ds) (QI e0 p.2=l.flatMap c∧((∀x,(c x).length=k)∧l.length≤maxLen)∧K fun y=>Ej b ds e k c l y σ)
theorem UE{α:Type}{b:Nat}{ds:List Nat}{e k:Nat}{c:α→List Value}{l:List α}{K:(Hp→St)→Prop}(h:mF σ b ds e k c l K): WH w0 σ (fun y:Hp=>Ej b ds e k c l y σ)∧K fun y=>Ej b ds e k c l y σ:=by
 obtain⟨⟨t,cs⟩,hb,h⟩:=QY h
 obtain⟨hc,h1,⟨h2,h3⟩,h4⟩:=Qp h
 obtain⟨hc,c3⟩:=L6.1 hc
 obtain⟨c1,c2⟩:=L6.1 hc
 have e1:t=e:=Lc c1
 subst e1
 exact⟨gW hb c2 h1 rfl h2 h3 c3,h4⟩
theorem kO{α:Type}(b:Nat)(ds:List Nat)(e k:Nat)(c:α→List Value)(l:List α)(y:Hp): σ.le (Ej b ds e k c l y σ):=⟨by simp[Ej,Jt],by simp[Ej,YN]⟩
def QD(R1 R2:Res): Res where
 φ x S w:=∃S1 S2 x2,R1.φ x S1 w∧R2.φ x2 S2 w∧(∀b,S1 b→¬ S2 b)∧∀b,S b↔S1 b∨S2 b
 one x S w h:=by
  obtain⟨S1,_,_,h1,_⟩:=h
  exact R1.one x S1 w h1
 loc x S w w' h hφ:=by
  obtain⟨S1,S2,x2,h1,h2,h3,h4⟩:=hφ
  exact⟨S1,S2,x2,R1.loc _ _ _ _ (fun b hb=>h b ((h4 b).2 (.inl hb))) h1,R2.loc _ _ _ _ (fun b hb=>h b ((h4 b).2 (.inr hb))) h2,h3,h4⟩
def BZ(x y:Nat)(R1 R2:Res)(σ:St): St:={ σ with rs:=KL (VV σ.rs y) x (QD R1 R2) }
theorem fz{x y:Nat}{R1 R2:Res}(hx:Xk σ.rs x=some R1)(hy:Xk σ.rs y=some R2)(hne:x≠y){r:Env}{a:Act}{w:World}(hS:Sat w0 σ r a w): ∃r',Sat w0 (BZ x y R1 R2 σ) r' a w∧Ag σ r r':=by
 let S:Nat→Prop:=fun b=>r.S x b∨r.S y b
 have hlen:(BZ x y R1 R2 σ).rs.length=σ.rs.length:=by simp[BZ,XQ,Jt]
 have hlt:∀s,(BZ x y R1 R2 σ).lt s=σ.lt s:=fun s=>by simp only[St.lt,hlen];rfl
 have hltL:∀s,(BZ x y R1 R2 σ).ltL s=σ.ltL s:=fun s=>by simp only[St.ltL,hlen];rfl
 have hrs:∀j R,Xk (BZ x y R1 R2 σ).rs j=some R→(j=x∧R=QD R1 R2∧JH r.S x S j=S)∨(j≠x∧j≠y∧Xk σ.rs j=some R∧JH r.S x S j=r.S j):=fun j R hj=>by
  rcases qA hj with⟨e1,e2⟩|⟨e1,e2⟩
  ·subst e1;exact .inl ⟨rfl,e2,Xw _ _ _⟩
  ·obtain⟨h1,h2⟩:=Hk e2
   exact .inr ⟨e1,h1,h2,Yl _ _ e1⟩
 obtain⟨f1,f2⟩:=hS.see.rs x R1 hx
 obtain⟨g1,g2⟩:=hS.see.rs y R2 hy
 have dis:=hS.sep.disj x y R1 R2 hx hy hne
 have far:∀j R,Xk σ.rs j=some R→j≠x→j≠y→∀b,r.S j b→¬ S b:=fun j R hj h1 h2 b hb hs=>by
  rcases hs with hs|hs
  ·exact hS.sep.disj j x R R1 hj hx h1 b hb hs
  ·exact hS.sep.disj j y R R2 hj hy h2 b hb hs
 refine⟨⟨r.b,r.x,JH r.S x S⟩,⟨⟨hS.see.low,hS.see.size,fun k s hk=>?_,fun j t cs hj=>?_,fun j R hj=>?_,fun j hj=>hS.see.one j (by rwa [hlen]at hj)⟩,⟨hS.sep.own,hS.sep.inj,fun j R hj b hb=>?_,fun j m R R' hj hm hn b hb hb2=>?_,fun j m p R hj hm hb=>?_⟩,hS.defers⟩,AE r _⟩
 ·obtain⟨h1,h2⟩:=hS.see.ts k s hk
  exact⟨by rw[K6];exact h1,by rw[hlt];exact h2⟩
 ·obtain⟨h1,h2⟩:=hS.see.bs j t cs hj
  exact⟨by rw[Ve];exact h1,by rw[hltL];exact h2⟩
 ·rcases hrs j R hj with⟨rfl,rfl,e⟩|⟨h1,h2,h3,e⟩
  ·rw[show(⟨r.b,r.x,JH r.S j S⟩:Env).S j=S from e]
   exact⟨(show ∃S1 S2 x2,_ from⟨_,_,_,f1,g1,dis,fun _=>Iff.rfl⟩),fun b hb=>hb.elim (f2 b) (g2 b)⟩
  ·rw[show(⟨r.b,r.x,JH r.S x S⟩:Env).S j=r.S j from e]
   exact hS.see.rs j R h3
 ·rcases hrs j R hj with⟨rfl,rfl,e⟩|⟨h1,h2,h3,e⟩
  ·rw[show(⟨r.b,r.x,JH r.S j S⟩:Env).S j=S from e]at hb
   exact hb.elim (hS.sep.ownS j R1 hx b) (hS.sep.ownS y R2 hy b)
  ·rw[show(⟨r.b,r.x,JH r.S x S⟩:Env).S j=r.S j from e]at hb
   exact hS.sep.ownS j R h3 b hb
 ·rcases hrs j R hj with⟨e1,_,e⟩|⟨h1,h2,h3,e⟩<;>rcases hrs m R' hm with⟨e2,_,e'⟩|⟨h4,h5,h6,e'⟩
  ·exact hn (e1.trans e2.symm)
  ·rw[show(⟨r.b,r.x,JH r.S x S⟩:Env).S j=S from e]at hb
   rw[show(⟨r.b,r.x,JH r.S x S⟩:Env).S m=r.S m from e']at hb2
   exact far m R' h6 h4 h5 b hb2 hb
  ·rw[show(⟨r.b,r.x,JH r.S x S⟩:Env).S j=r.S j from e]at hb
   rw[show(⟨r.b,r.x,JH r.S x S⟩:Env).S m=S from e']at hb2
   exact far j R h3 h1 h2 b hb hb2
  ·rw[show(⟨r.b,r.x,JH r.S x S⟩:Env).S j=r.S j from e]at hb
   rw[show(⟨r.b,r.x,JH r.S x S⟩:Env).S m=r.S m from e']at hb2
   exact hS.sep.disj j m R R' h3 h6 hn b hb hb2
 ·rcases hrs m R hm with⟨e1,_,e⟩|⟨h1,h2,h3,e⟩
  ·rw[show(⟨r.b,r.x,JH r.S x S⟩:Env).S m=S from e]at hb
   exact hb.elim (hS.sep.apart j x p R1 hj hx) (hS.sep.apart j y p R2 hj hy)
  ·rw[show(⟨r.b,r.x,JH r.S x S⟩:Env).S m=r.S m from e]at hb
   exact hS.sep.apart j m p R hj h3 hb
def jp(σ:St)(x y:Nat)(K:St→Prop): Prop:=JG (Xk σ.rs x) fun R1=>JG (Xk σ.rs y) fun R2=>ZQ (!Nat.beq x y) (K (BZ x y R1 R2 σ))
def mc(σ:St)(x:Nat)(R:Res)(K:St→Prop): Prop:=JG (Xk σ.rs x) fun R0=>(∀u S w,R0.φ u S w→R.φ u S w)∧K (Yi x R σ)
theorem NI{x y:Nat}{K:St→Prop}(h:jp σ x y K){r:Env}{a:Act}{w:World}(hS:Sat w0 σ r a w): ∃σ' r',K σ'∧Sat w0 σ' r' a w∧Ag σ r r'∧σ.le σ':=by
 obtain⟨R1,h1,h⟩:=QY h
 obtain⟨R2,h2,h⟩:=QY h
 obtain⟨h3,h⟩:=Qp h
 have hne:x≠y:=fun e=>by subst e;rw[Nat.beq_refl]at h3;cases h3
 obtain⟨r',h4,h5⟩:=fz h1 h2 hne hS
 exact⟨_,r',h,h4,h5,⟨L3 _,by simp[BZ,XQ,Jt]⟩⟩
theorem TS{x:Nat}{R:Res}{K:St→Prop}(h:mc σ x R K){r:Env}{a:Act}{w:World}(hS:Sat w0 σ r a w): ∃σ' r',K σ'∧Sat w0 σ' r' a w∧Ag σ r r'∧σ.le σ':=by
 obtain⟨R0,h1,h2,h⟩:=QY h
 obtain⟨h3,h4⟩:=hS.see.rs x R0 h1
 exact⟨_,_,h,hS.turn h1 (Trn.refl _ _) (h2 _ _ _ h3) (fun b hb=>⟨.inl hb,h4 b hb⟩),AE r _,GL x R⟩
end
mutual
def SV.sub(j:Nat)(v:Value): SV→SV
 | .val x=>.val x
 | .ptr b o=>.ptr b o
 | .sli b o n c=>.sli b o n c
 | .clo f l m=>.clo f (VN j v l) (VN j v m)
 | .agg l=>.agg (VN j v l)
 | .tup l=>.tup (VN j v l)
 | .han i=>match Nat.beq i j with
  | true=>.val v
  | false=>.han i
def VN(j:Nat)(v:Value): List SV→List SV
 | []=>[]
 | s::l=>s.sub j v::VN j v l
end
mutual
theorem PD{r:Env}{j:Nat}{v:Value}(h:r.x j=v): ∀s:SV,(s.sub j v).den r=s.den r
 | .val _=>rfl
 | .ptr _ _=>rfl
 | .sli _ _ _ _=>rfl
 | .clo f l m=>by simp only[SV.sub,SV.den,J0 h l,J0 h m]
 | .agg l=>by simp only[SV.sub,SV.den,J0 h l]
 | .tup l=>by simp only[SV.sub,SV.den,J0 h l]
 | .han i=>by
  simp only[SV.sub]
  split
  ·rename_i e
   rw[Lc e]
   exact h.symm
  ·rfl
theorem J0{r:Env}{j:Nat}{v:Value}(h:r.x j=v): ∀l:List SV,QI r (VN j v l)=QI r l
 | []=>rfl
 | s::l=>by simp only[VN,QI,PD h s,J0 h l]
end
mutual
theorem bo{β ξ:Nat→Bool}{j:Nat}{v:Value}: ∀s:SV,s.ok β ξ=true→(s.sub j v).ok β ξ=true
 | .val _,h=>h
 | .ptr _ _,h=>h
 | .sli _ _ _ _,h=>h
 | .clo f l m,h=>by
  obtain⟨h1,h2⟩:=L6.1 h
  exact L6.2 ⟨K4 l h1,K4 m h2⟩
 | .agg l,h=>K4 l h
 | .tup l,h=>K4 l h
 | .han i,h=>by
  simp only[SV.sub]
  split
  ·rfl
  ·exact h
theorem K4{β ξ:Nat→Bool}{j:Nat}{v:Value}: ∀l:List SV,VL β ξ l=true→VL β ξ (VN j v l)=true
 | [],_=>rfl
 | s::l,h=>by
  obtain⟨h1,h2⟩:=L6.1 h
  exact L6.2 ⟨bo s h1,K4 l h2⟩
end
def Vr(j:Nat)(v:Value)(σ:St): St:={ σ with ts:=σ.ts.map fun p=>(p.1,p.2.sub j v),bs:=σ.bs.map fun o=>o.map fun p=>(p.1,VN j v p.2) }
theorem I9{j:Nat}{v:Value}: ∀ {l:List (Nat×SV)} {k:Nat} {s:SV},Yv k (l.map fun p=>(p.1,p.2.sub j v))=some s→∃s',Yv k l=some s'∧s=s'.sub j v
 | [],_,_,h=>by cases h
 | (i,u)::l,k,s,h=>by
  simp only[List.map_cons,Yv]at h ⊢
  cases e:Nat.beq i k with
  | true =>
   rw[e]at h
   exact⟨u,rfl,(Option.some.inj h).symm⟩
  | false =>
   rw[e]at h
   exact I9 (l:=l) h
theorem Hi{j:Nat}{v:Value}: ∀ {l:List (Option (TypeId×List SV))} {i:Nat} {t:TypeId} {cs:List SV},Xk (l.map fun o=>o.map fun p=>(p.1,VN j v p.2)) i=some (t,cs)→∃cs',Xk l i=some (t,cs')∧cs=VN j v cs'
 | [],_,_,_,h=>by cases h
 | x::_,0,t,cs,h=>by
  cases x with
  | none=>cases h
  | some p =>
   obtain⟨t',cs'⟩:=p
   have h1:=Option.some.inj h
   injection h1 with h1 h2
   subst h1
   exact⟨cs',rfl,h2.symm⟩
 | _::l,i+1,t,cs,h=>Hi (l:=l) (i:=i) h
section
variable {w0:World} {σ:St}
theorem Sat.subst{r:Env}{a:Act}{w:World}{j:Nat}{v:Value}(h:Sat w0 σ r a w)(hx:r.x j=v): Sat w0 (Vr j v σ) r a w:=by
 have hb:(Vr j v σ).bs.length=σ.bs.length:=by simp[Vr]
 have hlt:∀s,σ.lt s=true→(Vr j v σ).lt (s.sub j v)=true:=fun s hs=>by
  unfold St.lt at hs ⊢
  rw[hb]
  exact bo s hs
 have hltL:∀l,σ.ltL l=true→(Vr j v σ).ltL (VN j v l)=true:=fun l hs=>by
  unfold St.ltL at hs ⊢
  rw[hb]
  exact K4 l hs
 have hn:∀i p,Xk (Vr j v σ).bs i=some p→∃q,Xk σ.bs i=some q:=fun i p hi=>by
  obtain⟨cs',h1,_⟩:=Hi (t:=p.1) (cs:=p.2) hi
  exact⟨_,h1⟩
 refine⟨⟨h.see.low,h.see.size,fun k s hk=>?_,fun i t cs hi=>?_,h.see.rs,h.see.one⟩,⟨fun i p hi=>?_,fun i k p q hi hk=>?_,h.sep.ownS,h.sep.disj,fun i k p R hi hk=>?_⟩,h.defers⟩
 ·obtain⟨s',h1,rfl⟩:=I9 hk
  obtain⟨h2,h3⟩:=h.see.ts k s' h1
  exact⟨by rw[PD hx];exact h2,hlt s' h3⟩
 ·obtain⟨cs',h1,rfl⟩:=Hi hi
  obtain⟨h2,h3⟩:=h.see.bs i t cs' h1
  exact⟨by rw[J0 hx];exact h2,hltL cs' h3⟩
 ·obtain⟨q,h1⟩:=hn i p hi;exact h.sep.own i q h1
 ·obtain⟨z,h1⟩:=hn i p hi;obtain⟨z',h2⟩:=hn k q hk;exact h.sep.inj i k z z' h1 h2
 ·obtain⟨z,h1⟩:=hn i p hi;exact h.sep.apart i k z R h1 hk
theorem WG(j:Nat)(v:Value)(σ:St): σ.le (Vr j v σ):=⟨by simp[Vr],L3 _⟩
def nJ{β:Type}(σ:St)(j:Nat)(val:β→Value)(R:β→Res)(K:(β→St)→Prop): Prop:=JG (Xk σ.rs j) fun ρ=>(∀x S w,ρ.φ x S w→∃y,x=val y∧(R y).φ x S w)∧K fun y=>Vr j (val y) (Yi j (R y) σ)
theorem RZ{β:Type}{j:Nat}{val:β→Value}{R:β→Res}{K:(β→St)→Prop}(h:nJ σ j val R K){r:Env}{a:Act}{w:World}(hS:Sat w0 σ r a w): ∃out y r',K out∧Sat w0 (out y) r' a w∧Ag σ r r'∧σ.le (out y):=by
 obtain⟨R0,h1,h2,h⟩:=QY h
 obtain⟨h3,h4⟩:=hS.see.rs j R0 h1
 obtain⟨y,h5,h6⟩:=h2 _ _ _ h3
 refine⟨_,y,_,h,(hS.turn h1 (Trn.refl _ _) h6 (fun b hb=>⟨.inl hb,h4 b hb⟩)).subst h5,AE r _,((GL j (R y)).trans (WG _ _ _))⟩
end
inductive Dir:Type 1 where
 | o (rid i:Nat) (x:DOp)
 | g (rid i:Nat) (b:Bool)
 | gb (rid i:Nat) (x y:List Dir)
 | reg (n:Nat) (late:List Nat)
 | br (b:Bool)
 | both (x y:List Dir)
 | loop {α:Type} (I:α→St) (C:α→Prop) (μ:α→Nat) (a0:α) (nx:α→Nat→α) (bd:α→List Dir)
 | next (k:Nat)
 | seq (rid i:Nat) (σ':St)
 | eff {β:Type} (rid i j:Nat) (val:β→Value) (R:β→Res) (bd:β→List Dir)
 | mk {β:Type} (rid i:Nat) (is:List Nat) (val:β→Value) (R:β→Res) (bd:β→List Dir)
 | inl (rid i:Nat) (fn:Func)
 | lop {α:Type} (I:α→St) (C:α→Prop) (μ:α→Nat) (a0:α) (nx:α→List Hp→α) (bd:α→List Dir)
 | nxt (u:List Hp)
 | row {α:Type} (rid i b:Nat) (ds:List Nat) (e k:Nat) (c:α→List Value) (l:List α) (bd:Hp→List Dir)
 | nil {α:Type} (rid i e k:Nat) (c:α→List Value)
 | join (rid i x y:Nat)
 | cnv (rid i x:Nat) (R:Res)
 | esc (at_:Nat)
 | opn {β:Type} (rid i j:Nat) (val:β→Value) (R:β→Res) (bd:β→List Dir)
 | unr (n:Nat)
def G7(r j rid i:Nat): Bool:=Nat.beq r rid&&Nat.beq j i
def Ih(P:Program)(tt:List (Nat×TI))(w0:World)(rid i:Nat)(o:Oper)(σ:St)(d:List Dir)(K:Out→List Dir→Prop): Prop:=match d with
 | .o r j x::d'=>bif G7 r j rid i then oi P tt w0 σ o x (fun out=>K out d')else mM tt σ o.op (fun out=>K out d)
 | d=>mM tt σ o.op (fun out=>K out d)
def Pa(σ:St)(ops:Array Oper)(g:Nat): Option Bool:=match ops[g]? with
 | some og=>(match og.dst with
  | some t=>(match Yv t σ.ts with
   | some (.val (.bool x))=>some x
   | _=>none)
  | none=>none)
 | none=>none
def OS(σ:St)(ops:Array Oper)(g:Nat): Bool:=match ops[g]? with
 | some og=>(match og.dst with
  | some t=>(match Yv t σ.ts with
   | some (.val (.tuple _))=>true
   | _=>false)
  | none=>false)
 | none=>false
def fP(x c:Bool)(K:Bool→Prop): Prop:=match x with
 | true=>K c
 | false=>K (!c)
def Iw(ops:Array Oper)(o:Oper)(rid i:Nat)(σ:St)(d:List Dir)(K:Bool→List Dir→Prop): Prop:=match o.guard with
 | none=>K true d
 | some (g,c)=>(match Pa σ ops g with
  | some x=>(match d with
   | .g r j b::d'=>bif G7 r j rid i then x=(bif b then c else !c)∧K b d' else fP x c fun b=>K b d
   | .gb r j dx dy::_=>bif G7 r j rid i then(x=c→K true dx)∧(x=(!c)→K false dy)else fP x c fun b=>K b d
   | d=>fP x c fun b=>K b d)
  | none=>ZQ (OS σ ops g) (K false d))
def aX(t:Nat)(c:Bool): List (Nat×SV)→List (Nat×SV)
 | []=>[]
 | (k,v)::l=>bif Nat.beq k t then(match v with | .val (.bool _)=>(k,.val (.bool c))::l|v=>(k,v)::l)else(k,v)::aX t c l
def jQ(ops:Array Oper)(o:Oper)(b:Bool)(σ:St): St:=match o.guard with
 | none=>σ
 | some (g,c)=>(match ops[g]? with
  | some og=>(match og.dst with
   | some t=>{ σ with ts:=aX t (bif b then c else !c) σ.ts }
   | none=>σ)
  | none=>σ)
def Bl(d:Option Tmp)(n:Nat): Bool:=match d with
 | none=>true
 | some k=>Nat.blt k n
def bQ(tt:List (Nat×TI))(σ:St)(t:TypeId)(x y:Operand)(K:St→Prop): Prop:=JR σ x fun s=>match s with
 | .ptr b o=>JG (Xk σ.bs b) fun p=>JR σ y fun u=>AB tt t fun ti=>ZQ (Nat.beq u.cells.length ti.size&&Nat.ble (o+ti.size) p.2.length&&u.cells.all SV.okCell) (K { σ with bs:=KL σ.bs b (p.1,VR p.2 o u.cells) })
 | _=>False
def jt(P:Program)(w0:World)(o:Oper)(σ σ':St): Prop:=∀r a w,Sat w0 σ r a w→∀(Q:Exit→Act→World→Prop) (next:Act→World→Prop),(∀r' a' w',Sat w0 σ' r' a' w'→Ag σ r r'→next a' w')→o.wp P a w next Q
def FU(t:TypeId)(l:List Value): Sem Value:=match l with
 | [p,v]=>do Instr.storeAt t p v;pure undef
 | _=>stuck ""
def VP{β:Type}(P:Program)(W:World)(val:β→Value)(R:β→Res)(x:Value)(S:Nat→Prop)(m:Sem Value): Prop:=∃y S' w',m.run P W=.ok (val y) w'∧Trn S W w'∧(R y).φ x S' w'∧∀b,S' b→(S b∨W.heap.size≤b)∧b<w'.heap.size
def EffP{β:Type}(P:Program)(w0:World)(σ:St)(R0:Res)(l:List SV)(m:List Value→Sem Value)(val:β→Value)(R:β→Res): Prop:=∀W,Below w0.heap.size w0 W→Nt σ W (Zi l []) (fun _=>0) fun β =>
 UK (VL (fun b=>YD b (Zi l [])) (fun _=>false) l) (∀x S,R0.φ x S W→VP P W val R x S (m (QI (Mx β) l)))
def Id{β:Type}(P:Program)(w0:World)(l:List Res)(val:β→Value)(R:β→Res)(m:Sem Value): Prop:=∀W,Below w0.heap.size w0 W→TT W l (NL P W val R m)
abbrev oC:Type 1:=Func→List SV→St→List Dir→(SV→St→List Dir→Prop)→(SV→St→List Dir→Prop)→Prop
structure Cx:Type 1 where
 inl:oC
 pan:SV→St→List Dir→Prop
def oN(σ:St)(x:Operand)(K:SV→Prop): Prop:=JR σ x fun s=>match s with
 | .val (.iface _ _)=>K s
 | _=>False
def mZ(rid i:Nat): List Dir→Bool
 | .seq r j _::_=>G7 r j rid i
 | .eff r j _ _ _ _::_=>G7 r j rid i
 | .mk r j _ _ _ _::_=>G7 r j rid i
 | .inl r j _::_=>G7 r j rid i
 | _=>false
def jn(P:Program)(H:Cx)(w0:World)(o:Oper)(σ:St)(d:List Dir)(K:St→List Dir→Prop): Prop:=match d with
 | .seq _ _ σ'::d'=>jt P w0 o σ σ'∧ZQ (ph σ σ') (K σ' d')
 | .eff _ _ j val R bd::_=>JG (Xk σ.rs j) fun R0=>ZQ (Bl o.dst σ.n) (match o.op with
  | .call c=>(match c.callee with
   | .builtin b=>Wf σ c.args.toList fun l=>EffP P w0 σ R0 l (Kt b c.argTypes o.type) val R∧∀y,K ((Yi j (R y) σ).push o.dst (.val (val y))) (bd y)
   | _=>False)
  | .store t x y=>Wf σ [x,y] fun l=>EffP P w0 σ R0 l (FU t) (fun _=>undef) R∧∀y,K ((Yi j (R y) σ).push o.dst (.val undef)) (bd y)
  | .slice t x lo hi mx=>Wf σ [x] fun l=>vO σ lo fun a=>vO σ hi fun b=>vO σ mx fun c=>EffP P w0 σ R0 l (fun l=>Instr.sliceAt t (l.headD undef) a b c) val R∧∀y,K ((Yi j (R y) σ).push o.dst (.val (val y))) (bd y)
  | .next it isS=>Wf σ [it] fun l=>EffP P w0 σ R0 l (fun l=>Instr.next (l.headD undef) isS o.type) val R∧∀y,K ((Yi j (R y) σ).push o.dst (.val (val y))) (bd y)
  | _=>False)
 | .mk _ _ is val R bd::_=>ZQ (Bl o.dst σ.n) (Ol σ is fun m=>match o.op with
  | .call c=>(match c.callee with
   | .builtin b=>vL σ c.args.toList fun l=>Id P w0 m val R (Kt b c.argTypes o.type l)∧∀y,K ((Cp (R y) σ).push o.dst (.val (val y))) (bd y)
   | _=>Je σ c fun f l=>ZQ (VL (fun _=>false) (fun _=>false) l) (NewIn P w0 m f (QI e0 l).toArray val R∧∀y,K ((Cp (R y) σ).push o.dst (.val (val y))) (bd y)))
  | .makeSlice t x y=>v1 σ x fun a=>v1 σ y fun b=>Id P w0 m val R (Instr.makeSlice t a b)∧∀y,K ((Cp (R y) σ).push o.dst (.val (val y))) (bd y)
  | .convert s t x=>v1 σ x fun a=>Id P w0 m val R (Go.convert s t a)∧∀y,K ((Cp (R y) σ).push o.dst (.val (val y))) (bd y)
  | .range t x=>v1 σ x fun a=>Id P w0 m val R (Instr.range t a)∧∀y,K ((Cp (R y) σ).push o.dst (.val (val y))) (bd y)
  | _=>False)
 | .inl _ _ fn::d'=>(match o.op with
  | .call c=>Je σ c fun f l=>P.funcs[f]?=some fn∧Yf P f∧ZQ (σ.ltL l&&Bl o.dst σ.n) (H.inl fn l σ d' (fun s σ' d''=>K (({ σ with bs:=σ'.bs,rs:=σ'.rs }:St).push o.dst s) d'') fun s σ' d''=>H.pan s { σ with bs:=σ'.bs,rs:=σ'.rs } d'')
  | _=>False)
 | _=>False
def J9(rid i:Nat): Nat→St→List Dir→(St→List Dir→Prop)→Prop
 | 0,σ,d,K=>K σ d
 | n+1,σ,d,K=>match d with
  | .row r j b ds e k c l bd::d'=>(match G7 r j rid i with
   | true=>mF σ b ds e k c l fun out=>∀y,J9 rid i n (out y) (bd y) K
   | false=>K σ (.row r j b ds e k c l bd::d'))
  | .nil r j e k c::d'=>(match G7 r j rid i with
   | true=>J9 rid i n (Cp (Qd e k c [] none 0) σ) d' K
   | false=>K σ (.nil r j e k c::d'))
  | .join r j x y::d'=>(match G7 r j rid i with
   | true=>jp σ x y fun σ'=>J9 rid i n σ' d' K
   | false=>K σ (.join r j x y::d'))
  | .cnv r j x R::d'=>(match G7 r j rid i with
   | true=>mc σ x R fun σ'=>J9 rid i n σ' d' K
   | false=>K σ (.cnv r j x R::d'))
  | .opn r i' j val R bd::d'=>(match G7 r i' rid i with
   | true=>nJ σ j val R fun out=>∀y,J9 rid i n (out y) (bd y) K
   | false=>K σ (.opn r i' j val R bd::d'))
  | d=>K σ d
def dY(P:Program)(tt:List (Nat×TI))(H:Cx)(w0:World)(rid i:Nat)(o:Oper)(σ:St)(d:List Dir)(K:St→List Dir→Prop): Prop:=match mZ rid i d with
 | true=>jn P H w0 o σ d K
 | false=>(match o.op with
  | .store t x y=>ZQ (Bl o.dst σ.n) (bQ tt σ t x y fun σ'=>K (σ'.push o.dst (.val undef)) d)
  | .panic x=>oN σ x fun s=>H.pan s σ d
  | _=>ZQ (Bl o.dst σ.n) (Ih P tt w0 rid i o σ d fun out d'=>ZQ (σ.fits out) (K ((σ.grow out).push o.dst out.s) d')))
def Kv(P:Program)(tt:List (Nat×TI))(H:Cx)(w0:World)(rid:Nat)(ops:Array Oper): List Oper→Nat→St→List Dir→(St→List Dir→Prop)→Prop
 | [],_,σ,d,K=>K σ d
 | o::l,i,σ,d,K=>Iw ops o rid i σ d fun b d=>(fun σ=>match b with
  | true=>J9 rid i 4 σ d fun σ d=>dY P tt H w0 rid i o σ d fun σ d=>Kv P tt H w0 rid ops l (i+1) σ d K
  | false=>ZQ (Bl o.dst σ.n) (Kv P tt H w0 rid ops l (i+1) (σ.push o.dst (.val undef)) d K)) (jQ ops o b σ)
section
variable {P:Program} {tt:List (Nat×TI)} {w0:World} {σ:St}
theorem qC(hT:YF P tt){rid i:Nat}{o:Oper}{d:List Dir}{K:Out→List Dir→Prop}(hK:∀out d,K out d→σ.fits out=true)(h:Ih P tt w0 rid i o σ d K): ∃d',N6 P w0 o σ fun out=>K out d':=by
 unfold Ih at h
 split at h
 ·rename_i r j x d'
  cases hk:G7 r j rid i with
  | true=>rw[hk]at h;exact⟨d',kB hT (fun out=>hK out d') h⟩
  | false=>rw[hk]at h;exact⟨_,NG hT (fun out=>hK out _) h⟩
 ·exact⟨_,NG hT (fun out=>hK out _) h⟩
theorem Cf{ops:Array Oper}{g:Nat}{x:Bool}(h:Pa σ ops g=some x){r:Env}{a:Act}{w:World}(hw:See w0 σ r a w): yielded ops a.tmps g=some x:=by
 unfold Pa at h
 split at h
 ·rename_i og h1
  split at h
  ·rename_i t h2
   split at h
   ·rename_i y h3
    obtain rfl:=Option.some.inj h
    have h4:=(hw.ts _ _ h3).1
    unfold yielded
    rw[h1,Sw,h2,Sw]
    have h5:a.tmps[t]?=some (.bool y):=by
     rcases Ra t a.tmps.size with hl|hl
     ·simp[hl]at h4 ⊢;exact h4
     ·simp[hl,SV.den,undef]at h4
    rw[h5]
   ·cases h
  ·cases h
 ·cases h
theorem Nn{ops:Array Oper}{g:Nat}(h:OS σ ops g=true){r:Env}{a:Act}{w:World}(hw:See w0 σ r a w): yielded ops a.tmps g=none:=by
 unfold OS at h
 split at h
 ·rename_i og h1
  split at h
  ·rename_i t h2
   split at h
   ·rename_i y h3
    have h4:=(hw.ts _ _ h3).1
    unfold yielded
    rw[h1,Sw,h2,Sw]
    rcases Ra t a.tmps.size with hl|hl
    ·have h5:a.tmps[t]?=some (.tuple y):=by simp[hl]at h4 ⊢;exact h4
     rw[h5]
    ·have h5:a.tmps[t]?=none:=by simp[hl]
     rw[h5]
   ·cases h
  ·cases h
 ·cases h
theorem Ao{ops:Array Oper}{o:Oper}{rid i:Nat}{d:List Dir}{K:Bool→List Dir→Prop}(h:Iw ops o rid i σ d K): ∃b d',K b d'∧∀r a w,See w0 σ r a w→Region.wanted o (yielded ops a.tmps)=b:=by
 unfold Iw at h
 split at h
 ·rename_i hg
  exact⟨true,d,h,fun r a w _=>by simp[Region.wanted,hg]⟩
 ·rename_i g c hg
  split at h
  ·rename_i x hx
   have key:∀r a w,See w0 σ r a w→Region.wanted o (yielded ops a.tmps)=(x==c):=fun r a w hw=>by
    have h1:=Cf hx hw
    unfold Region.wanted
    rw[hg]
    show(yielded ops a.tmps g==some c)=(x==c)
    rw[h1];rfl
   have hlit:∀d,fP x c (fun b=>K b d)→∃b d',K b d'∧∀r a w,See w0 σ r a w→Region.wanted o (yielded ops a.tmps)=b:=fun d h=>by
    cases x with
    | true=>exact⟨c,d,h,fun r a w hw=>by rw[key r a w hw];cases c<;>rfl⟩
    | false=>exact⟨!c,d,h,fun r a w hw=>by rw[key r a w hw];cases c<;>rfl⟩
   split at h
   ·rename_i r' j b d'
    cases hk:G7 r' j rid i with
    | true =>
     rw[hk]at h
     refine⟨b,d',h.2,fun r a w hw=>?_⟩
     rw[key r a w hw,h.1]
     cases b<;>cases c<;>rfl
    | false=>rw[hk]at h;exact hlit _ h
   ·rename_i r' j dx dy _
    cases hk:G7 r' j rid i with
    | true =>
     rw[hk]at h
     by_cases e:x=c
     ·exact⟨true,dx,h.1 e,fun r a w hw=>by rw[key r a w hw,e];simp⟩
     ·exact⟨false,dy,h.2 (by cases x<;>cases c<;>simp_all),fun r a w hw=>by rw[key r a w hw];simpa using e⟩
    | false=>rw[hk]at h;exact hlit _ h
   ·exact hlit _ h
  ·obtain⟨h1,h2⟩:=Qp h
   refine⟨false,d,h2,fun r a w hw=>?_⟩
   unfold Region.wanted
   rw[hg]
   show(yielded ops a.tmps g==some c)=false
   rw[Nn h1 hw];rfl
theorem Pc{t:Nat}{c:Bool}: ∀ {l:List (Nat×SV)},(∀x,Yv t l=some (.val (.bool x))→x=c)→aX t c l=l
 | [],_=>rfl
 | (k,v)::l,h=>by
  unfold aX
  cases hk:Nat.beq k t with
  | true =>
   show(match v with | .val (.bool _)=>(k,SV.val (.bool c))::l|v=>(k,v)::l)=_
   split
   ·rename_i x
    rw[h x (by unfold Yv;rw[hk];rfl)]
   ·rfl
  | false =>
   show(k,v)::aX t c l=_
   rw[Pc fun x hx=>h x (by unfold Yv;rw[hk];exact hx)]
theorem gk{ops:Array Oper}{o:Oper}{b:Bool}{r:Env}{a:Act}{w:World}(hw:See w0 σ r a w)(hg:Region.wanted o (yielded ops a.tmps)=b): jQ ops o b σ=σ:=by
 unfold jQ
 split
 ·rfl
 ·rename_i g c hoc
  split
  ·rename_i og h1
   split
   ·rename_i t h2
    rw[Pc]
    intro x hx
    have h3:=Cf (ops:=ops) (g:=g) (x:=x) (by unfold Pa;rw[h1];show(match og.dst with|some t=>_|none=>_)=_;rw[h2];show(match Yv t σ.ts with|some (.val (.bool x))=>some x|_=>none)=_;rw[hx]) hw
    unfold Region.wanted at hg
    rw[hoc]at hg
    have h4:(yielded ops a.tmps g==some c)=b:=hg
    rw[h3]at h4
    cases x<;>cases c<;>cases b<;>first|rfl|exact absurd h4 (by decide)
   ·rfl
  ·rfl
theorem fU{d:Option Tmp}{n:Nat}(h:Bl d n=true): ∀k,d=some k→k<n:=by
 rintro k rfl;exact QX h
theorem Sat.put{r:Env}{a:Act}{w:World}(h:Sat w0 σ r a w){d:Option Tmp}{s:SV}(hd:Bl d σ.n=true)(hs:σ.lt s=true): Sat w0 (σ.push d s) r (a.put d (s.den r)) w:=by
 refine⟨h.see.push (fU hd) hs,?_,?_⟩
 ·obtain⟨h1,h2,h3,h4,h5⟩:=h.sep
  cases d<;>exact⟨h1,h2,h3,h4,h5⟩
 ·have:=h.defers
  cases d<;>exact this
theorem Sat.yield{r:Env}{a:Act}{w w':World}(h:Sat w0 σ r a w){o:Out}{γ:Gh}{d:Option Tmp}(hb:Below w.heap.size w w')(hf:σ.fits o=true)(hd:Bl d σ.n=true)(hm:Made (r.add' σ γ) o γ w w'):
  Sat w0 ((σ.grow o).push d o.s) (r.add' σ γ) (a.put d (o.s.den (r.add' σ γ))) w':=by
 have h1:=h.see.grow hb hf hm
 have h2:=h.sep.grow h.see hb hm
 exact Sat.put ⟨h1,h2,h.defers⟩ hd (gA hf)
def EY(w0:World)(σ:St)(r:Env)(w:World): Prop:=Sat w0 ⟨0,[],σ.bs,σ.rs⟩ r ⟨#[],[]⟩ w
theorem Sat.mem{r:Env}{a:Act}{w:World}(h:Sat w0 σ r a w): EY w0 σ r w :=
 ⟨⟨h.see.low,rfl,(fun _ _ h=>nomatch h),h.see.bs,h.see.rs,h.see.one⟩,⟨h.sep.own,h.sep.inj,h.sep.ownS,h.sep.disj,h.sep.apart⟩,rfl⟩
theorem Sat.back{σ':St}{r r':Env}{a:Act}{w w':World}(h:Sat w0 σ r a w)(hm:EY w0 σ' r' w')(hl:σ.le σ')(hg:Ag σ r r'): Sat w0 { σ with bs:=σ'.bs,rs:=σ'.rs } r' a w':=by
 refine⟨⟨hm.see.low,h.see.size,fun k s hk=>?_,hm.see.bs,hm.see.rs,hm.see.one⟩,⟨hm.sep.own,hm.sep.inj,hm.sep.ownS,hm.sep.disj,hm.sep.apart⟩,h.defers⟩
 obtain⟨h1,h2⟩:=h.see.ts k s hk
 exact⟨by rw[hg.den h2];exact h1,Jz (fun i hi=>XW (Lb (QX hi) hl.1)) (fun i hi=>XW (Lb (QX hi) hl.2)) s h2⟩
def HJ(P:Program)(w0:World)(H:oC): Prop:=∀fn l σ d K Kp,H fn l σ d K Kp→∀f,P.funcs[f]?=some fn→σ.ltL l=true→∀r w,EY w0 σ r w→∀R:Ending→World→Prop,
 (∀s σ' d' r' w',K s σ' d'→EY w0 σ' r' w'→Ag σ r r'→σ.le σ'→σ'.lt s=true→R (.returned (s.den r')) w') →
 (∀s σ' d' r' w',Kp s σ' d'→EY w0 σ' r' w'→Ag σ r r'→σ.le σ'→σ'.lt s=true→R (.panicked [{ v:=s.den r',recovered:=false }]) w')→Calls P f (QI r l).toArray w R
def PanTo(w0:World)(H:Cx)(σ:St)(r:Env)(Q:Exit→Act→World→Prop): Prop:=∀s σ' d' r' a' w',H.pan s σ' d'→Sat w0 σ' r' a' w'→Ag σ r r'→σ.le σ'→σ'.lt s=true→Q (.panic [{ v:=s.den r',recovered:=false }]) a' w'
theorem PanTo.later{H:Cx}{σ':St}{r r':Env}{Q:Exit→Act→World→Prop}(h:PanTo w0 H σ r Q)(hg:Ag σ r r')(hl:σ.le σ'): PanTo w0 H σ' r' Q :=
 fun s σ2 d2 r2 a2 w2 hk hS hg2 hl2 hs=>h s σ2 d2 r2 a2 w2 hk hS (hg.trans hl hg2) (hl.trans hl2) hs
theorem EffP.use{β:Type}{R0:Res}{l:List SV}{m:List Value→Sem Value}{val:β→Value}{R:β→Res}(h:EffP P w0 σ R0 l m val R){r:Env}{a:Act}{w:World}{j:Nat}(hS:Sat w0 σ r a w)(hj:Xk σ.rs j=some R0):
  ∃y w' r',(m (QI r l)).run P w=.ok (val y) w'∧Sat w0 (Yi j (R y) σ) r' a w'∧Ag σ r r':=by
 obtain⟨β',h1,h2,_⟩:=J3 hS.see (h w hS.see.low)
 obtain⟨hc,h3⟩:=K7 h1
 have e1:QI (Mx β') l=QI r l:=Xm (β:=fun b=>YD b (Zi l [])) (ξ:=fun _=>false) (fun b hb=>h2 b (memB_mem.1 hb)) (fun _ h=>nomatch h) l hc
 rw[e1]at h3
 obtain⟨y,S',w',h4,h5,h6,h7⟩:=h3 _ _ (hS.see.rs j R0 hj).1
 exact⟨y,w',_,h4,hS.turn hj h5 h6 h7,AE r _⟩
theorem Ut{t:TypeId}{p v u:Value}{w w':World}(h:(FU t [p,v]).run P w=.ok u w'): (Instr.storeAt t p v).run P w=.ok () w':=by
 unfold FU at h
 rw[Sem.run_bind]at h
 cases e:(Instr.storeAt t p v).run P w with
 | ok x w2 =>
  rw[e]at h
  injection h with _ h
  rw[h]
 | halt x w2=>rw[e]at h;cases h
theorem Vt:∀(vs:List Value) (k:Nat) (w:World) (g b:Nat),b≠g→(VQ w g k vs).heap[b]?=w.heap[b]?
 | [],_,_,_,_,_=>rfl
 | v::vs,k,w,g,b,h=>(Vt vs (k+1) (w.setCell ⟨g,k,none⟩ v) g b h).trans (Sv w ⟨g,k,none⟩ v b h)
theorem UR(hT:YF P tt){o:Oper}{t:TypeId}{x y:Operand}(ho:o.op=.store t x y){K:St→Prop}(h:bQ tt σ t x y K)(hd:Bl o.dst σ.n=true):
  ∃σ',K σ'∧σ.le σ'∧jt P w0 o σ (σ'.push o.dst (.val undef)):=by
 obtain⟨s,h1,h⟩:=Qy h
 split at h
 case h_2=>exact h.elim
 rename_i b p
 obtain⟨⟨bt,cs⟩,h2,h⟩:=QY h
 obtain⟨u,h3,h⟩:=Qy h
 obtain⟨ti,h4,h⟩:=Xa hT h
 obtain⟨hc,h⟩:=Qp h
 obtain⟨hc,c3⟩:=L6.1 hc
 obtain⟨c1,c2⟩:=L6.1 hc
 have c1:=Lc c1
 have c2:=Lr c2
 refine⟨_,h,⟨by simp[XQ],L3 _⟩,fun r a w hw Q next hn=>?_⟩
 obtain⟨e1,l1⟩:=Qs hw.see h1
 obtain⟨e3,l3⟩:=Qs hw.see h3
 obtain⟨hb,hbl⟩:=hw.see.bs b bt cs h2
 have hcell:=Bw hw.see l3
 have hsz:(u.den r).cells.size=ti.size:=by rw[← Tc,← hcell,Z9,c1]
 have hrun:=BI (P:=P) (t:=t) (o:=p) h4 hb hsz (by rw[Z9];exact c2) (fun v hv=>by
  rw[← hcell,Xi]at hv
  obtain⟨z,hz,rfl⟩:=R5.1 hv
  exact ON hw.see (okL_all.1 (Ct l3) z hz) (Ls.1 c3 z hz))
 unfold Oper.wp
 have hex:(execOp a.eval o).run P w=.ok .skip (VQ w (r.b b) p (u.den r).cells.toList):=by
  unfold execOp
  rw[ho]
  simp only[e1,e3,SV.den,Sem.run_bind,hrun,Result.andThen_ok]
  rfl
 rw[hex]
 refine hn r _ _ (Sat.put (s:=.val undef) ⟨?_,?_,hw.defers⟩ hd rfl) (Ag.refl _ _)
 ·have hown:=hw.sep.own b _ h2
  have hne:∀i q,Xk σ.bs i=some q→i≠b→r.b i≠r.b b:=fun i q hi hne=>hw.sep.inj i b _ _ hi h2 hne
  refine⟨pr hown _ _ hw.see.low,hw.see.size,fun k s hk=>(by have h5:=hw.see.ts k s hk;simp only[St.lt,XQ]at h5 ⊢;exact h5),fun i t' cs' hi=>?_,fun i R hi=>?_,hw.see.one⟩
  ·have hlt:∀l,({ σ with bs:=KL σ.bs b (bt,VR cs p u.cells) }:St).ltL l=σ.ltL l:=fun l=>by simp only[St.ltL,XQ]
   rw[hlt]
   by_cases e:i=b
   ·subst e
    rw[B5 h2]at hi
    simp only[Option.some.injEq,Prod.mk.injEq]at hi
    obtain⟨rfl,rfl⟩:=hi
    have h5:=Bx.stores (u.den r).cells.toList p hb
    have hs:QI r (VR cs p u.cells)=VR (QI r cs) p (QI r u.cells):=by simp only[Xi,AM]
    rw[I1,← hcell,← hs]at h5
    rw[← hcell]
    exact⟨h5,A7 hbl (Ct l3)⟩
   ·rw[Vy e]at hi
    obtain⟨h5,h6⟩:=hw.see.bs i t' cs' hi
    exact⟨Bx.farN (hne i _ hi e) _ _ h5,h6⟩
  ·obtain⟨h5,h6⟩:=hw.see.rs i R hi
   refine⟨R.loc _ _ _ _ (fun b' hb'=>Vt _ _ _ _ _ fun e=>hw.sep.apart b i _ _ h2 hi (e▸hb')) h5,fun b' hb'=>?_⟩
   rw[GQ];exact h6 b' hb'
 ·have hex:∀i q,Xk (KL σ.bs b (bt,VR cs p u.cells)) i=some q→∃q',Xk σ.bs i=some q':=fun i q hi=>by
   by_cases e:i=b
   ·subst e;exact⟨_,h2⟩
   ·rw[Vy e]at hi;exact⟨_,hi⟩
  obtain⟨s1,s2,s3,s4,s5⟩:=hw.sep
  refine⟨fun i q hi=>?_,fun i j q q' hi hj=>?_,s3,s4,fun i j q R hi hj=>?_⟩
  ·obtain⟨q',hi⟩:=hex i q hi;exact s1 i q' hi
  ·obtain⟨z,hi⟩:=hex i q hi;obtain⟨z',hj⟩:=hex j q' hj;exact s2 i j z z' hi hj
  ·obtain⟨z,hi⟩:=hex i q hi;exact s5 i j z R hi hj
theorem WK(hT:YF P tt){H:Cx}(hH:HJ P w0 H.inl){rid i:Nat}{o:Oper}{d:List Dir}{K:St→List Dir→Prop}(h:dY P tt H w0 rid i o σ d K):
  ∀r a w,Sat w0 σ r a w→∀(Q:Exit→Act→World→Prop) (next:Act→World→Prop),PanTo w0 H σ r Q→(∀σ' d' r' a' w',K σ' d'→Sat w0 σ' r' a' w'→Ag σ r r'→σ.le σ'→next a' w')→o.wp P a w next Q:=by
 unfold dY at h
 split at h
 ·unfold jn at h
  split at h
  ·rename_i σ' d'
   intro r a w hS Q next hP hn
   obtain⟨hl,hk⟩:=Qp h.2
   exact h.1 r a w hS Q next fun r' a' w' h1 h2=>hn _ _ r' a' w' hk h1 h2 (Wp hl)
  ·rename_i _ _ j val R bd _ _
   intro r a w hS Q next hP hn
   obtain⟨R0,hj,h⟩:=QY h
   obtain⟨hd,h⟩:=Qp h
   have ex:∀ {op:Op},o.op=op→∀ev,execOp ev o=execOp ev { o with op:=op }:=fun e ev=>by rw[← e]
   split at h
   ·rename_i c e
    split at h
    ·rename_i b hc
     obtain⟨l,⟨h,hk⟩,h1⟩:=Za (w0:=w0) h
     obtain⟨y,w',r',h2,h3,h4⟩:=h.use hS hj
     have h5:(execOp a.eval o).run P w=.ok (.value (val y)) w':=by
      rw[ex e];unfold execOp
      unfold Kt at h2
      split at h2
      all_goals first|(simp[resolve,hc,invoke,builtin,Zz _ _ _ (h1 r a w hS.see).1,h2];done)|(cases h2;done)
     unfold Oper.wp
     rw[h5]
     exact hn _ _ r' _ w' (hk y) (Sat.put (s:=.val _) h3 hd rfl) h4 ((GL j _).trans (Zh _ _ _))
    ·exact h.elim
   ·rename_i t x y0 e
    obtain⟨l,⟨h,hk⟩,h1⟩:=Za (w0:=w0) h
    obtain⟨y,w',r',h2,h3,h4⟩:=h.use hS hj
    rw[← (h1 r a w hS.see).1]at h2
    have h6:=Ut h2
    have h5:(execOp a.eval o).run P w=.ok .skip w':=by
     rw[ex e];unfold execOp
     simp only[Sem.run_bind,h6,Result.andThen_ok]
     rfl
    unfold Oper.wp
    rw[h5]
    exact hn _ _ r' _ w' (hk y) (Sat.put (s:=.val undef) h3 hd rfl) h4 ((GL j _).trans (Zh _ _ _))
   ·rename_i t x lo hi mx e
    obtain⟨l,h,h1⟩:=Za (w0:=w0) h
    obtain⟨va,h,ha⟩:=Gm (w0:=w0) h
    obtain⟨vb,h,hb⟩:=Gm (w0:=w0) h
    obtain⟨vc,⟨h,hk⟩,hc⟩:=Gm (w0:=w0) h
    obtain⟨y,w',r',h2,h3,h4⟩:=h.use hS hj
    rw[← (h1 r a w hS.see).1,← ha r a w hS.see,← hb r a w hS.see,← hc r a w hS.see]at h2
    unfold Oper.wp
    rw[show execOp a.eval o=(do pure (.value (← Instr.sliceAt t (([x].map a.eval).headD undef) (lo.map a.eval) (hi.map a.eval) (mx.map a.eval))):Sem Next)by rw[ex e];rfl,Xt h2]
    exact hn _ _ r' _ w' (hk y) (Sat.put (s:=.val _) h3 hd rfl) h4 ((GL j _).trans (Zh _ _ _))
   ·rename_i it isS e
    obtain⟨l,⟨h,hk⟩,h1⟩:=Za (w0:=w0) h
    obtain⟨y,w',r',h2,h3,h4⟩:=h.use hS hj
    rw[← (h1 r a w hS.see).1]at h2
    unfold Oper.wp
    rw[show execOp a.eval o=(do pure (.value (← Instr.next (([it].map a.eval).headD undef) isS o.type)):Sem Next)by rw[ex e];rfl,Xt h2]
    exact hn _ _ r' _ w' (hk y) (Sat.put (s:=.val _) h3 hd rfl) h4 ((GL j _).trans (Zh _ _ _))
   ·exact h.elim
  ·rename_i _ _ is val R bd _ _
   intro r a w hS Q next hP hn
   obtain⟨hd,h⟩:=Qp h
   obtain⟨m,h,hm⟩:=KR (w0:=w0) h
   have ex:∀ {op:Op},o.op=op→∀ev,execOp ev o=execOp ev { o with op:=op }:=fun e ev=>by rw[← e]
   have fin:∀ {s:Sem Value},Id P w0 m val R s→execOp a.eval o=(do pure (.value (← s)):Sem Next)→(∀y,K ((Cp (R y) σ).push o.dst (.val (val y))) (bd y))→o.wp P a w next Q:=fun {s} h1 h2 hk=>by
    obtain⟨y,x,S,w',h3,h4,h5,h6⟩:=hm r a w _ hS.see (h1 w hS.see.low)
    unfold Oper.wp
    rw[h2,Xt h3]
    exact hn _ _ _ _ w' (hk y) (Sat.put (s:=.val _) (hS.fresh h4 h5 h6) hd rfl) (Ag.add _ _ _) ((Hj _).trans (Zh _ _ _))
   split at h
   ·rename_i c e
    split at h
    ·rename_i b hc
     obtain⟨l,⟨h,hk⟩,h1⟩:=GN (w0:=w0) h
     obtain⟨y,x,S,w',h3,h4,h5,h6⟩:=hm r a w _ hS.see (h w hS.see.low)
     have h7:(execOp a.eval o).run P w=.ok (.value (val y)) w':=by
      rw[ex e];unfold execOp
      unfold Kt at h3
      split at h3
      all_goals first|(simp[resolve,hc,invoke,builtin,Zz _ _ _ (h1 r a w hS.see),h3];done)|(cases h3;done)
     unfold Oper.wp
     rw[h7]
     exact hn _ _ _ _ w' (hk y) (Sat.put (s:=.val _) (hS.fresh h4 h5 h6) hd rfl) (Ag.add _ _ _) ((Hj _).trans (Zh _ _ _))
    ·obtain⟨f,l,h,_,hr⟩:=XY (P:=P) (w0:=w0) h
     obtain⟨p1,⟨he,hc⟩,hk⟩:=Qp h
     unfold Oper.wp
     rw[hr o e he r a w hS.see,YK p1]
     show Calls P f _ w _
     refine(hm r a w _ hS.see (hc w hS.see.low)).mono ?_
     rintro e w' ⟨y,x,S,rfl,h5,h6,h4⟩
     exact hn _ _ _ _ w' (hk y) (Sat.put (s:=.val _) (hS.fresh h4 h5 h6) hd rfl) (Ag.add _ _ _) ((Hj _).trans (Zh _ _ _))
   ·rename_i t x y e
    obtain⟨v,h,h1⟩:=XE (w0:=w0) h
    obtain⟨u,h,h2⟩:=XE (w0:=w0) h
    exact fin h.1 (by rw[ex e];unfold execOp;simp only[h1 r a w hS.see,h2 r a w hS.see]) h.2
   ·rename_i s t x e
    obtain⟨v,h,h1⟩:=XE (w0:=w0) h
    exact fin h.1 (by rw[ex e];unfold execOp;simp only[h1 r a w hS.see]) h.2
   ·rename_i t x e
    obtain⟨v,h,h1⟩:=XE (w0:=w0) h
    exact fin h.1 (by rw[ex e];unfold execOp;simp only[h1 r a w hS.see]) h.2
   ·exact h.elim
  ·rename_i fn d' _
   split at h
   ·rename_i c e
    obtain⟨f,l,h,_,hr⟩:=XY (P:=P) (w0:=w0) h
    obtain⟨hf,he,h⟩:=h
    obtain⟨hl,h⟩:=Qp h
    obtain⟨hl,hd⟩:=L6.1 hl
    intro r a w hS Q next hP hn
    unfold Oper.wp
    rw[hr o e he r a w hS.see]
    show Calls P f _ w _
    refine hH fn l σ d' _ _ h f hf hl r w hS.mem _ (fun s σ' d'' r' w' hk hm hg hle hs=>?_) fun s σ' d'' r' w' hk hm hg hle hs=>hP s _ d'' r' a w' hk (hS.back hm hle hg) hg ⟨hle.1,hle.2⟩ hs
    exact hn _ _ r' _ w' hk ((hS.back hm hle hg).put hd hs) hg (St.le.trans (σ':={ σ with bs:=σ'.bs,rs:=σ'.rs }) ⟨hle.1,hle.2⟩ (Zh _ _ _))
   ·exact h.elim
  ·exact h.elim
 ·split at h
  ·rename_i t x y ho
   obtain⟨hd,h⟩:=Qp h
   obtain⟨σ',h1,hle,h2⟩:=UR (w0:=w0) hT ho h hd
   exact fun r a w hS Q next _ hn=>h2 r a w hS Q next fun r' a' w' h3 h4=>hn _ _ r' a' w' h1 h3 h4 (hle.trans (Zh _ _ _))
  ·rename_i x e
   obtain⟨s,h1,h⟩:=Qy h
   split at h
   ·rename_i t v
    intro r a w hS Q next hP hn
    have h2:(execOp a.eval o).run P w=.halt (.panic (.iface t v)) w:=by
     have ex:execOp a.eval o=execOp a.eval { o with op:=.panic x }:=by rw[← e]
     rw[ex];unfold execOp
     simp only[(Qs hS.see h1).1,SV.den,Sem.run_bind]
     simp[Instr.panic,goPanic,go_sem]
    unfold Oper.wp
    rw[h2]
    exact hP _ _ _ r a w h hS (Ag.refl _ _) (St.le.refl _) rfl
   ·exact h.elim
  ·obtain⟨hd,h⟩:=Qp h
   obtain⟨d',out,h1,h2⟩:=qC hT (fun out d h=>(Qp h).1) h
   obtain⟨hf,h3⟩:=Qp h1
   exact fun r a w hw Q next _ hn=>h2 r a w hw.see Q next fun u γ w' hu hb hm=>by
    subst hu
    exact hn _ _ _ _ _ h3 (hw.yield hb hf hd hm) (Ag.add _ _ _) ((fg _ _).trans (Zh _ _ _))
theorem Gt{rid i:Nat}{K:St→List Dir→Prop}: ∀(n:Nat) {σ:St} {d:List Dir},J9 rid i n σ d K→∀r a w,Sat w0 σ r a w→∃σ' d' r',K σ' d'∧Sat w0 σ' r' a w∧Ag σ r r'∧σ.le σ'
 | 0,σ,d,h,r,a,w,hS=>⟨σ,d,r,h,hS,Ag.refl _ _,St.le.refl _⟩
 | n+1,σ,d,h,r,a,w,hS=>by
  have step:∀ {σ1:St} {d1:List Dir} {r1:Env},J9 rid i n σ1 d1 K→Sat w0 σ1 r1 a w→Ag σ r r1→σ.le σ1→∃σ' d' r',K σ' d'∧Sat w0 σ' r' a w∧Ag σ r r'∧σ.le σ':=fun h1 h2 h3 h4=>by
   obtain⟨σ2,d2,r2,k1,k2,k3,k4⟩:=Gt n h1 _ a w h2
   exact⟨σ2,d2,r2,k1,k2,h3.trans h4 k3,h4.trans k4⟩
  have same:∀ {d1:List Dir},K σ d1→∃σ' d' r',K σ' d'∧Sat w0 σ' r' a w∧Ag σ r r'∧σ.le σ':=fun h1=>⟨σ,_,r,h1,hS,Ag.refl _ _,St.le.refl _⟩
  unfold J9 at h
  split at h
  ·split at h
   ·obtain⟨h1,h2⟩:=UE (w0:=w0) h
    obtain⟨y,r',h3,h4⟩:=h1 r a w hS
    exact step (h2 y) h3 h4 (kO _ _ _ _ _ _ y)
   ·exact same h
  ·split at h
   ·obtain⟨_,r',h3,h4⟩:=fF _ _ _ r a w hS
    exact step h h3 h4 (Hj _)
   ·exact same h
  ·split at h
   ·obtain⟨σ1,r1,h1,h2,h3,h4⟩:=NI h hS
    exact step h1 h2 h3 h4
   ·exact same h
  ·split at h
   ·obtain⟨σ1,r1,h1,h2,h3,h4⟩:=TS h hS
    exact step h1 h2 h3 h4
   ·exact same h
  ·split at h
   ·obtain⟨out,y,r1,h1,h2,h3,h4⟩:=RZ h hS
    exact step (h1 y) h2 h3 h4
   ·exact same h
  ·exact same h
theorem Vb(hT:YF P tt){H:Cx}(hH:HJ P w0 H.inl){rid:Nat}{ops:Array Oper}: ∀(l:List Oper) (i:Nat) (σ:St) (d:List Dir) (K:St→List Dir→Prop),Kv P tt H w0 rid ops l i σ d K →
  ∀r a w,Sat w0 σ r a w→∀(Q:Exit→Act→World→Prop),PanTo w0 H σ r Q→(∀σ' d' r' a' w',K σ' d'→Sat w0 σ' r' a' w'→Ag σ r r'→σ.le σ'→Q .normal a' w')→wpList P ops Q l a w
 | [],i,σ,d,K,h=>fun r a w hw Q _ hQ=>hQ σ d r a w h hw (Ag.refl _ _) (St.le.refl _)
 | o::l,i,σ,d,K,h=>by
  obtain⟨b,d1,h1,hg⟩:=Ao (w0:=w0) h
  intro r a w hw Q hP hQ
  rw[gk hw.see (hg r a w hw.see)]at h1
  cases b with
  | true =>
   unfold wpList
   rw[if_pos (hg r a w hw.see)]
   obtain⟨σ1,d1',r1,k1,k2,k3,k4⟩:=Gt 4 h1 r a w hw
   exact .inl (WK hT hH k1 r1 a w k2 Q _ (hP.later k3 k4) fun σ2 d2 r' a' w' h2 hw' hg0 hl0=>(fun(hg':Ag σ r r') (hl':σ.le σ2)=>Vb hT hH l (i+1) σ2 d2 K h2 r' a' w' hw' Q (hP.later hg' hl') fun σ3 d3 r3 a3 w3 h3 hw3 hg3 hl3=>hQ σ3 d3 r3 a3 w3 h3 hw3 (hg'.trans hl' hg3) (hl'.trans hl3)) (k3.trans k4 hg0) (k4.trans hl0))
  | false =>
   obtain⟨hd,h2⟩:=Qp h1
   unfold wpList
   rw[if_neg (by rw[hg r a w hw.see];simp)]
   exact Vb hT hH l (i+1) _ d1 K h2 r _ w (hw.put (s:=.val undef) hd rfl) Q (hP.later (Ag.refl _ _) (Zh _ _ _)) fun σ3 d3 r3 a3 w3 h3 hw3 hg3 hl3=>hQ σ3 d3 r3 a3 w3 h3 hw3 (hg3.le (Zh _ _ _)) ((Zh _ _ _).trans hl3)
end
structure Hd where
 d:Nat
 out:Out
 cl:List Nat
def VJ(ds:List Nat): List (Nat×SV)→List (Nat×SV)
 | []=>[]
 | (k,s)::l=>bif YD k ds then VJ ds l else(k,s)::VJ ds l
def an(cl:List Nat): List Hd→Nat→List (Nat×SV)→List (Nat×SV)
 | [],_,t=>t
 | h::l,j,t=>bif YD j cl then(h.d,h.out.s)::an cl l (j+1) t else an cl l (j+1) t
def iB(cl:List Nat): List Hd→Nat→List (Option (TypeId×List SV))
 | [],_=>[]
 | h::l,j=>(bif YD j cl then h.out.b else none)::iB cl l (j+1)
def fV(cl:List Nat): List Hd→Nat→List (Option Res)
 | [],_=>[]
 | h::l,j=>(bif YD j cl then h.out.r else none)::fV cl l (j+1)
def ki{α:Type}: List α→List α→List α
 | [],m=>m
 | x::l,m=>x::ki l m
theorem En{α:Type}: ∀l m:List α,ki l m=l++m
 | [],_=>rfl
 | x::l,m=>R7 (x::·) (En l m)
def Zk(σ:St)(base:List (Nat×SV))(hs:List Hd)(cl:List Nat): St:=⟨σ.n,an cl hs 0 base,ki σ.bs (iB cl hs 0),ki σ.rs (fV cl hs 0)⟩
def RN:List Hd→List (Nat×SV)→List (Nat×SV)
 | [],t=>t
 | h::l,t=>(h.d,h.out.s)::RN l t
def PF:List Hd→List (Option (TypeId×List SV))
 | []=>[]
 | h::l=>h.out.b::PF l
def PM:List Hd→List (Option Res)
 | []=>[]
 | h::l=>h.out.r::PM l
def Jd(σ:St)(hs:List Hd): St:=⟨σ.n,RN hs σ.ts,ki σ.bs (PF hs),ki σ.rs (PM hs)⟩
def P8:List Hd→Nat→List Nat
 | [],_=>[]
 | h::_,0=>h.cl
 | _::l,n+1=>P8 l n
def mw:List Nat→List Nat→List Nat
 | [],m=>m
 | j::l,m=>bif YD j m then mw l m else mw l (j::m)
theorem Iq{x:Nat}: ∀ {l m:List Nat},x∈mw l m→x∈l∨x∈m
 | [],_,h=>.inr h
 | j::l,m,h=>by
  unfold mw at h
  cases e:YD j m with
  | true=>rw[e]at h;exact(Iq h).imp (T2 _) id
  | false =>
   rw[e]at h
   rcases Iq h with h|h
   ·exact .inl (T2 _ h)
   ·rcases Lp.1 h with rfl|h
    ·exact .inl (by simp)
    ·exact .inr h
def UN(hs:List Hd): List Nat→List Nat
 | []=>[]
 | j::l=>mw (j::P8 hs j) (UN hs l)
def N3(n:Nat)(cl:List Nat)(b:Nat): Bool:=Nat.blt b n||(Nat.ble n b&&YD (b-n) cl)
def aZ(σ:St)(i:Nat)(cl:List Nat)(o:Out): Bool :=
 o.s.ok (N3 σ.bs.length (i::cl)) (N3 σ.rs.length (i::cl))&&(match o.b with|some (_,cs)=>VL (N3 σ.bs.length cl) (N3 σ.rs.length cl) cs|none=>true)
def dS(σ:St)(o:Op)(K:Out→Prop): Prop:=match o with
 | .extract x i=>JR σ x fun s=>fo s fun l=>JG (Ks l i) fun c=>K (one c)
 | _=>False
def De(P:Program)(tt:List (Nat×TI))(w0:World)(rid:Nat)(ops:Array Oper)(late:List Nat)(σ:St)(base:List (Nat×SV)): List Oper→Nat→Nat→List Hd→List Dir→(List Hd→List Dir→Prop)→Prop
 | _,0,_,hs,d,K=>K hs d
 | [],_+1,_,_,_,_=>False
 | o::l,n+1,i,hs,d,K=>(fun cl=>(fun σi=>Iw ops o rid i σi d fun b d=>JG o.dst fun k=>match b with
  | true=>(match YD i late with
   | true=>dS σi o.op fun out=>ZQ (σi.fits out&&aZ σ i cl out) (De P tt w0 rid ops late σ base l n (i+1) (Vd hs ⟨k,out,cl⟩) d K)
   | false=>Ih P tt w0 rid i o σi d fun out d=>ZQ (σi.fits out&&aZ σ i cl out) (De P tt w0 rid ops late σ base l n (i+1) (Vd hs ⟨k,out,cl⟩) d K))
  | false=>ZQ (!YD i late) (De P tt w0 rid ops late σ base l n (i+1) (Vd hs ⟨k,one (.val undef),cl⟩) d K)) (Zk σ base hs cl)) (UN hs (Gg o))
def Vf:List Oper→Nat→List Nat
 | _,0=>[]
 | [],_+1=>[]
 | o::l,n+1=>(match o.dst with|some d=>d|none=>0)::Vf l n
def AO(P:Program)(tt:List (Nat×TI))(H:Cx)(w0:World)(id:Nat)(ops:Array Oper)(σ:St)(d:List Dir)(K:St→List Dir→Prop): Prop:=match d with
 | .reg n late::d=>ZQ (mP ops.toList (Vf ops.toList n) late σ.n) (De P tt w0 id ops late σ (VJ (Vf ops.toList n) σ.ts) ops.toList n 0 [] d fun hs d =>
  Kv P tt H w0 id ops (ops.toList.drop n) n (Jd σ hs) d K)
 | _=>False
def ni(P:Program)(w0:World)(ops:Array Oper)(late:List Nat)(σ:St)(base:List (Nat×SV))(hs:List Hd)(i:Nat)(h:Hd)(o:Oper): Prop :=
 o.dst=some h.d∧(∀j,j∈h.cl→Rch ops i j)∧(Zk σ base (hs.take i) h.cl).fits h.out=true∧aZ σ i h.cl h.out=true ∧
 (((∀r a w,See w0 (Zk σ base (hs.take i) h.cl) r a w→Region.wanted o (yielded ops a.tmps)=true) ∧
   ((YD i late=false∧aF P w0 o (Zk σ base (hs.take i) h.cl) fun u=>u=h.out) ∨
    (YD i late=true∧h.out.b=none∧h.out.r=none∧∀r a w,See w0 (Zk σ base (hs.take i) h.cl) r a w→∀w',(execOp a.eval o).run P w'=.ok (.value (h.out.s.den r)) w'))) ∨
  ((∀r a w,See w0 (Zk σ base (hs.take i) h.cl) r a w→Region.wanted o (yielded ops a.tmps)=false)∧YD i late=false∧h.out=one (.val undef)))
section
variable {P:Program} {tt:List (Nat×TI)} {w0:World} {σ:St}
theorem RR{ops:Array Oper}{hs:List Hd}(hcl:∀k h,hs[k]?=some h→∀j,j∈h.cl→Rch ops k j): ∀ {k j:Nat},j∈P8 hs k→Rch ops k j:=by
 have key:∀(l:List Hd) (k j:Nat),j∈P8 l k→∃h,l[k]?=some h∧j∈h.cl:=by
  intro l
  induction l with
  | nil=>intro k j h;cases h
  | cons x l ih =>
   intro k j h
   cases k with
   | zero=>exact⟨x,rfl,h⟩
   | succ k=>simpa using ih k j h
 intro k j h
 obtain⟨x,h1,h2⟩:=key hs k j h
 exact hcl k x h1 j h2
theorem Ni{ops:Array Oper}{hs:List Hd}(hcl:∀k h,hs[k]?=some h→∀j,j∈h.cl→Rch ops k j){i:Nat}: ∀ {l:List Nat},(∀j,j∈l→j∈X6 ops i)→∀j,j∈UN hs l→Rch ops i j
 | [],_,_,h=>by cases h
 | k::l,hl,j,h=>by
  unfold UN at h
  rcases Iq h with h|h
  ·rcases Lp.1 h with rfl|h
   ·exact .one (hl j (by simp))
   ·exact .more (hl k (by simp)) (RR hcl h)
  ·exact Ni hcl (fun m hm=>hl m (by simp[hm])) j h
theorem dD{o:Oper}{K:Out→Prop}(h:dS σ o.op K): ∃out,K out∧out.b=none∧out.r=none∧∀r a w,See w0 σ r a w→∀w',(execOp a.eval o).run P w'=.ok (.value (out.s.den r)) w':=by
 unfold dS at h
 split at h
 ·rename_i x i e
  obtain⟨s,h1,h⟩:=Qy h
  obtain⟨l,h,hl⟩:=Fc h
  obtain⟨c,hc,h⟩:=QY h
  refine⟨_,h,rfl,rfl,fun r A w hw w'=>?_⟩
  have e2:execOp A.eval o=execOp A.eval { o with op:=.extract x i }:=by rw[← e]
  rw[e2]
  refine Xt ?_
  rw[(Qs hw h1).1,hl]
  simp[Instr.extract,VY hc,one]
 ·exact h.elim
theorem E6(hT:YF P tt){rid:Nat}{ops:Array Oper}{late:List Nat}{base:List (Nat×SV)}{K:List Hd→List Dir→Prop}: ∀(n:Nat) (l:List Oper) (i:Nat) (acc:List Hd) (d:List Dir),
  (∀j,l[j]?=ops[i+j]?)→acc.length=i→(∀k h,acc[k]?=some h→∀j,j∈h.cl→Rch ops k j)→De P tt w0 rid ops late σ base l n i acc d K →
  ∃hs d',K hs d'∧hs.length=i+n∧hs.take i=acc∧∀j,i≤j→j<i+n→∃h o,hs[j]?=some h∧ops[j]?=some o∧ni P w0 ops late σ base hs j h o
 | 0,l,i,acc,d,_,ha,_,h=>by
  refine⟨acc,d,(by cases l<;>exact h),ha,by rw[← ha];exact List.take_length,fun j h1 h2=>by omega⟩
 | n+1,[],i,acc,d,_,_,_,h=>False.elim h
 | n+1,o::l,i,acc,d,hl,ha,hcl,h=>by
  have ho:ops[i]?=some o:=by have:=hl 0;simpa using this.symm
  have hl':∀j,l[j]?=ops[i+1+j]?:=fun j=>by have:=hl (j+1);rw[show i+1+j=i+(j+1)by omega];simpa using this
  have hw:∀j,j∈UN acc (Gg o)→Rch ops i j:=Ni hcl fun j hj=>by unfold X6;rw[ho];exact hj
  have hnext:∀x:Hd,x.cl=UN acc (Gg o)→∀d,De P tt w0 rid ops late σ base l n (i+1) (Vd acc x) d K →
    (∀hs:List Hd,hs.take i=acc→ni P w0 ops late σ base hs i x o)→∃hs d',K hs d'∧hs.length=i+(n+1)∧hs.take i=acc∧∀j,i≤j→j<i+(n+1)→∃h o,hs[j]?=some h∧ops[j]?=some o∧ni P w0 ops late σ base hs j h o:=fun x hx d h hok=>by
   rw[YN]at h
   obtain⟨hs,d',h1,h2,h3,h4⟩:=E6 hT n l (i+1) (acc++[x]) d hl' (by simp[ha]) (fun k y hk j hj=>by
    rcases Ra k acc.length with h5|h5
    ·rw[List.getElem?_append_left h5]at hk;exact hcl k y hk j hj
    ·have h6:k=i:=by
      have h7:=(List.getElem?_eq_some_iff.1 hk).1
      simp at h7;omega
     subst h6
     rw[← ha]at hk
     simp at hk
     subst hk
     rw[hx]at hj
     exact hw j hj) h
   have h5:hs.take i=acc:=by
    have:=R7 (List.take i) h3
    rw[List.take_take,Ug (by omega),List.take_append_of_le_length (by omega),← ha,List.take_length]at this
    rw[← ha];exact this
   refine⟨hs,d',h1,by omega,h5,fun j h6 h7=>?_⟩
   by_cases e:j=i
   ·subst e
    refine⟨x,o,?_,ho,hok hs h5⟩
    have h8:(hs.take (j+1))[j]?=(acc++[x])[j]?:=by rw[h3]
    rw[List.getElem?_take_of_lt (by omega)]at h8
    rw[h8,← ha]
    simp
   ·exact h4 j (by omega) (by omega)
  simp only[De]at h
  obtain⟨b,d1,h1,hg⟩:=Ao (w0:=w0) h
  obtain⟨k,hk,h1⟩:=QY h1
  cases b with
  | true =>
   cases hm:YD i late with
   | true =>
    rw[hm]at h1
    obtain⟨out,h2,h3,h4,h5⟩:=dD (P:=P) (w0:=w0) h1
    obtain⟨hc,h6⟩:=Qp h2
    obtain⟨hf,hr⟩:=L6.1 hc
    exact hnext _ rfl _ h6 fun hs e=>⟨hk,hw,by rw[e];exact hf,hr,.inl ⟨by rw[e];exact hg,.inr ⟨hm,h3,h4,by rw[e];exact h5⟩⟩⟩
   | false =>
    rw[hm]at h1
    obtain⟨d2,out,h2,h3⟩:=qC (w0:=w0) hT (fun out d h=>(L6.1 (Qp h).1).1) h1
    obtain⟨hc,h6⟩:=Qp h2
    obtain⟨hf,hr⟩:=L6.1 hc
    exact hnext _ rfl _ h6 fun hs e=>⟨hk,hw,by rw[e];exact hf,hr,.inl ⟨by rw[e];exact hg,.inl ⟨hm,by rw[e];exact h3⟩⟩⟩
  | false =>
   obtain⟨hm,h6⟩:=Qp h1
   have hm:YD i late=false:=by simpa using hm
   exact hnext _ rfl _ h6 fun hs e=>⟨hk,hw,rfl,rfl,.inr ⟨by rw[e];exact hg,hm,rfl⟩⟩
end
def EO(v:Value): Value:=if v.oneCell' then v else .bool false
theorem MH(v:Value): (EO v).oneCell'=true:=by
 unfold EO;split
 ·assumption
 ·rfl
theorem H9{v:Value}(h:v.oneCell'=true): EO v=v:=if_pos h
def rg(σ:St)(r:Env)(γ:Nat→Gh): Env :=
 ⟨fun k=>if k<σ.bs.length then r.b k else(γ (k-σ.bs.length)).b,fun k=>if k<σ.rs.length then r.x k else EO (γ (k-σ.rs.length)).x,fun k=>if k<σ.rs.length then r.S k else(γ (k-σ.rs.length)).S⟩
theorem ld{σ:St}{r:Env}{γ:Nat→Gh}{g:Gh}(hg:g.x.oneCell'=true)(i:Nat): rg σ r (JH γ i g)=(rg σ r γ).add (σ.bs.length+i) (σ.rs.length+i) g:=by
 unfold rg Env.add JH
 congr 1
 ·funext k
  show(if k<σ.bs.length then r.b k else(if k-σ.bs.length=i then g else γ (k-σ.bs.length)).b)=if k=σ.bs.length+i then g.b else if k<σ.bs.length then r.b k else(γ (k-σ.bs.length)).b
  by_cases h:k<σ.bs.length
  ·rw[if_pos h,if_neg (by omega),if_pos h]
  ·by_cases e:k=σ.bs.length+i
   ·rw[if_neg h,if_pos e,if_pos (by omega)]
   ·rw[if_neg h,if_neg e,if_neg h,if_neg (by omega)]
 ·funext k
  show(if k<σ.rs.length then r.x k else EO (if k-σ.rs.length=i then g else γ (k-σ.rs.length)).x)=if k=σ.rs.length+i then g.x else if k<σ.rs.length then r.x k else EO (γ (k-σ.rs.length)).x
  by_cases h:k<σ.rs.length
  ·rw[if_pos h,if_neg (by omega),if_pos h]
  ·by_cases e:k=σ.rs.length+i
   ·rw[if_neg h,if_pos e,if_pos (by omega),H9 hg]
   ·rw[if_neg h,if_neg e,if_neg h,if_neg (by omega)]
 ·funext k
  show(if k<σ.rs.length then r.S k else(if k-σ.rs.length=i then g else γ (k-σ.rs.length)).S)=if k=σ.rs.length+i then g.S else if k<σ.rs.length then r.S k else(γ (k-σ.rs.length)).S
  by_cases h:k<σ.rs.length
  ·rw[if_pos h,if_neg (by omega),if_pos h]
  ·by_cases e:k=σ.rs.length+i
   ·rw[if_neg h,if_pos e,if_pos (by omega)]
   ·rw[if_neg h,if_neg e,if_neg h,if_neg (by omega)]
theorem WJ{σ:St}{r:Env}{γ:Nat→Gh}{s:SV}(h:σ.lt s=true): s.den (rg σ r γ)=s.den r :=
 Yn (fun _ hi=>if_pos (QX hi)) (fun _ hi=>if_pos (QX hi)) s h
theorem Pg{σ:St}{r:Env}{γ:Nat→Gh}{l:List SV}(h:σ.ltL l=true): QI (rg σ r γ) l=QI r l :=
 Xm (fun _ hi=>if_pos (QX hi)) (fun _ hi=>if_pos (QX hi)) l h
theorem EV{n:Nat}{cl:List Nat}{b:Nat}(h:N3 n cl b=true): b<n∨(n≤b∧b-n∈cl):=by
 rcases Bool.or_eq_true_iff.1 h with h|h
 ·exact .inl (QX h)
 ·obtain⟨h1,h2⟩:=L6.1 h
  exact .inr ⟨Lr h1,memB_mem.1 h2⟩
theorem mY{σ:St}{r:Env}{γ γ':Nat→Gh}{cl:List Nat}(h:∀j,j∈cl→γ j=γ' j){i:Nat}(hi:N3 σ.bs.length cl i=true): (rg σ r γ).b i=(rg σ r γ').b i:=by
 unfold rg
 rcases EV hi with h1|⟨h1,h2⟩
 ·simp only[if_pos h1]
 ·have h3:¬ i<σ.bs.length:=by omega
  simp only[if_neg h3,h _ h2]
theorem m7{σ:St}{r:Env}{γ γ':Nat→Gh}{cl:List Nat}(h:∀j,j∈cl→γ j=γ' j){i:Nat}(hi:N3 σ.rs.length cl i=true): (rg σ r γ).x i=(rg σ r γ').x i:=by
 unfold rg
 rcases EV hi with h1|⟨h1,h2⟩
 ·simp only[if_pos h1]
 ·have h3:¬ i<σ.rs.length:=by omega
  simp only[if_neg h3,h _ h2]
theorem BR{cl:List Nat}{k:Nat}{s:SV}: ∀ {hs:List Hd} {j0:Nat} {t:List (Nat×SV)},Yv k (an cl hs j0 t)=some s→(∃j,∃h:Hd,hs[j]?=some h∧(j0+j)∈cl∧h.d=k∧s=h.out.s)∨Yv k t=some s
 | [],_,_,h=>.inr h
 | x::hs,j0,t,h=>by
  unfold an at h
  cases e:YD j0 cl with
  | true =>
   rw[e]at h
   simp only[cond_true,Yv]at h
   cases e2:Nat.beq x.d k with
   | true =>
    rw[e2]at h
    obtain rfl:=Option.some.inj h
    exact .inl ⟨0,x,rfl,memB_mem.1 e,Lc e2,rfl⟩
   | false =>
    rw[e2]at h
    rcases BR (hs:=hs) h with⟨j,y,h1,h2,h3⟩|h1
    ·exact .inl ⟨j+1,y,by simpa using h1,by rw[show j0+(j+1)=j0+1+j by omega];exact h2,h3⟩
    ·exact .inr h1
  | false =>
   rw[e]at h
   rcases BR (hs:=hs) h with⟨j,y,h1,h2,h3⟩|h1
   ·exact .inl ⟨j+1,y,by simpa using h1,by rw[show j0+(j+1)=j0+1+j by omega];exact h2,h3⟩
   ·exact .inr h1
theorem Bu{ds:List Nat}{k:Nat}{s:SV}: ∀ {t:List (Nat×SV)},Yv k (VJ ds t)=some s→k ∉ ds∧Yv k t=some s
 | [],h=>by cases h
 | (j,u)::t,h=>by
  unfold VJ at h
  cases e:YD j ds with
  | true =>
   rw[e]at h
   obtain⟨h1,h2⟩:=Bu (t:=t) h
   refine⟨h1,?_⟩
   unfold Yv
   cases e2:Nat.beq j k with
   | true=>exact absurd (memB_mem.1 e) (Lc e2▸h1)
   | false=>exact h2
  | false =>
   rw[e]at h
   simp only[cond_false,Yv]at h
   unfold Yv
   cases e2:Nat.beq j k with
   | true =>
    rw[e2]at h
    refine⟨fun hm=>?_,h⟩
    rw[← Lc e2]at hm
    rw[memB_mem.2 hm]at e;cases e
   | false=>rw[e2]at h;exact Bu (t:=t) h
theorem E4{k:Nat}{s:SV}: ∀ {hs:List Hd} {t:List (Nat×SV)},Yv k (RN hs t)=some s→(∃(j:Nat) (h:Hd),hs[j]?=some h∧h.d=k∧s=h.out.s)∨((∀(j:Nat) (h:Hd),hs[j]?=some h→h.d≠k)∧Yv k t=some s)
 | [],_,h=>.inr ⟨fun _ _ h=>by simp at h,h⟩
 | x::hs,t,h=>by
  simp only[RN,Yv]at h
  cases e2:Nat.beq x.d k with
  | true =>
   rw[e2]at h
   obtain rfl:=Option.some.inj h
   exact .inl ⟨0,x,rfl,Lc e2,rfl⟩
  | false =>
   rw[e2]at h
   rcases E4 (hs:=hs) h with⟨j,y,h1,h2⟩|⟨h1,h2⟩
   ·exact .inl ⟨j+1,y,by simpa using h1,h2⟩
   ·refine .inr ⟨fun j y hj=>?_,h2⟩
    cases j with
    | zero=>simp at hj;subst hj;exact Nat.ne_of_beq_eq_false e2
    | succ j=>exact h1 j y (by simpa using hj)
theorem V4{α:Type}: ∀ {l m:List (Option α)} {i:Nat} {y:α},Xk (ki l m) i=some y→Xk l i=some y∨(l.length≤i∧Xk m (i-l.length)=some y)
 | [],_,_,_,h=>.inr ⟨L9 _,h⟩
 | _::_,_,0,_,h=>.inl h
 | _::l,m,i+1,_,h=>(V4 (l:=l) (m:=m) (i:=i) h).imp id fun⟨h1,h2⟩=>⟨T7 h1,by rw[Rb,Nat.add_sub_add_right];exact h2⟩
theorem Mh{cl:List Nat}{y:TypeId×List SV}: ∀ {hs:List Hd} {j0 j:Nat},Xk (iB cl hs j0) j=some y→∃h,hs[j]?=some h∧(j0+j)∈cl∧h.out.b=some y
 | [],_,_,h=>by cases h
 | x::hs,j0,0,h=>by
  change (bif YD j0 cl then x.out.b else none)=some y at h
  cases e:YD j0 cl with
  | true=>rw[e]at h;exact⟨x,rfl,memB_mem.1 e,h⟩
  | false=>rw[e]at h;cases h
 | x::hs,j0,j+1,h=>by
  obtain⟨z,h1,h2,h3⟩:=Mh (hs:=hs) (j0:=j0+1) (j:=j) h
  exact⟨z,by simpa using h1,by rw[show j0+(j+1)=j0+1+j by omega];exact h2,h3⟩
theorem Ng{cl:List Nat}{y:Res}: ∀ {hs:List Hd} {j0 j:Nat},Xk (fV cl hs j0) j=some y→∃h,hs[j]?=some h∧(j0+j)∈cl∧h.out.r=some y
 | [],_,_,h=>by cases h
 | x::hs,j0,0,h=>by
  change (bif YD j0 cl then x.out.r else none)=some y at h
  cases e:YD j0 cl with
  | true=>rw[e]at h;exact⟨x,rfl,memB_mem.1 e,h⟩
  | false=>rw[e]at h;cases h
 | x::hs,j0,j+1,h=>by
  obtain⟨z,h1,h2,h3⟩:=Ng (hs:=hs) (j0:=j0+1) (j:=j) h
  exact⟨z,by simpa using h1,by rw[show j0+(j+1)=j0+1+j by omega];exact h2,h3⟩
theorem FL{y:TypeId×List SV}: ∀ {hs:List Hd} {j:Nat},Xk (PF hs) j=some y→∃h,hs[j]?=some h∧h.out.b=some y
 | [],_,h=>by cases h
 | x::hs,0,h=>⟨x,rfl,h⟩
 | x::hs,j+1,h=>by
  obtain⟨z,h1,h2⟩:=FL (hs:=hs) (j:=j) h
  exact⟨z,by simpa using h1,h2⟩
theorem EZ{y:Res}: ∀ {hs:List Hd} {j:Nat},Xk (PM hs) j=some y→∃h,hs[j]?=some h∧h.out.r=some y
 | [],_,h=>by cases h
 | x::hs,0,h=>⟨x,rfl,h⟩
 | x::hs,j+1,h=>by
  obtain⟨z,h1,h2⟩:=EZ (hs:=hs) (j:=j) h
  exact⟨z,by simpa using h1,h2⟩
theorem Ms(cl:List Nat): ∀(hs:List Hd) (j:Nat),(iB cl hs j).length=hs.length
 | [],_=>rfl
 | _::hs,j=>R7 Nat.succ (Ms cl hs (j+1))
theorem MF(cl:List Nat): ∀(hs:List Hd) (j:Nat),(fV cl hs j).length=hs.length
 | [],_=>rfl
 | _::hs,j=>R7 Nat.succ (MF cl hs (j+1))
theorem FB:∀(hs:List Hd),(PF hs).length=hs.length
 | []=>rfl
 | _::hs=>R7 Nat.succ (FB hs)
theorem FJ:∀(hs:List Hd),(PM hs).length=hs.length
 | []=>rfl
 | _::hs=>R7 Nat.succ (FJ hs)
theorem IU(σ:St)(base:List (Nat×SV))(hs:List Hd)(cl:List Nat): (Zk σ base hs cl).bs.length=σ.bs.length+hs.length:=by simp[Zk,En,Ms]
theorem Hh(σ:St)(base:List (Nat×SV))(hs:List Hd)(cl:List Nat): (Zk σ base hs cl).rs.length=σ.rs.length+hs.length:=by simp[Zk,En,MF]
theorem Pm(σ:St)(hs:List Hd): (Jd σ hs).bs.length=σ.bs.length+hs.length:=by simp[Jd,En,FB]
theorem Pu(σ:St)(hs:List Hd): (Jd σ hs).rs.length=σ.rs.length+hs.length:=by simp[Jd,En,FJ]
theorem RP:∀ {l:List Oper} {n:Nat},(∀j,j<n→∃o d,l[j]?=some o∧o.dst=some d)→(Vf l n).length=n∧∀j o d,j<n→l[j]?=some o→o.dst=some d→(Vf l n)[j]?=some d
 | l,0,_=>⟨by cases l<;>rfl,fun _ _ _ h=>by omega⟩
 | [],n+1,h=>by obtain⟨o,d,h1,_⟩:=h 0 (by omega);simp at h1
 | x::l,n+1,h=>by
  obtain⟨h1,h2⟩:=RP (l:=l) (n:=n) fun j hj=>by simpa using h (j+1) (by omega)
  refine⟨by simp[Vf,h1],fun j o d hj ho hd=>?_⟩
  cases j with
  | zero=>simp at ho;subst ho;simp[Vf,hd]
  | succ j=>simpa [Vf]using h2 j o d (by omega) (by simpa using ho) hd
theorem CN{k:Nat}: ∀ {ds:List Nat} {i:Nat},k ∉ ds→Nw k ds i=none
 | [],_,_=>rfl
 | d::ds,i,h=>by
  unfold Nw
  rw[if_neg fun e=>h (by simp[e])]
  exact CN fun hm=>h (by simp[hm])
def iS(σ:St)(r:Env)(hs:List Hd)(j:Nat)(u:Nat→Value)(γ:Nat→Gh)(W:World): Prop:=∀h,hs[j]?=some h →
 u j=h.out.s.den (rg σ r γ)∧(∀t cs,h.out.b=some (t,cs)→Bx W (γ j).b t (QI (rg σ r γ) cs).toArray)∧(∀R,h.out.r=some R→(R.φ (γ j).x (γ j).S W∧∀b,(γ j).S b→b<W.heap.size)∧(γ j).x.oneCell'=true)∧(∀p R,h.out.b=some p→h.out.r=some R→¬(γ j).S (γ j).b)
def n7(hs:List Hd)(i:Nat)(g:Gh)(b:Nat): Prop:=∃h,hs[i]?=some h∧((∃p,h.out.b=some p∧b=g.b)∨(∃R,h.out.r=some R∧g.S b))
section
variable {P:Program} {tt:List (Nat×TI)} {w0:World} {σ:St} {r:Env} {a:Act} {w:World} {ops:Array Oper} {late:List Nat} {base:List (Nat×SV)} {hs:List Hd} {ds:List Nat} {n:Nat}
theorem gV(hS:See w0 σ r a w)(hbase:∀k s,Yv k base=some s→k ∉ ds∧Yv k σ.ts=some s)(hnd:ds.Nodup)(hlen:hs.length=n)(hds:∀(j:Nat) (h:Hd),hs[j]?=some h→ds[j]?=some h.d)(hdl:ds.length=n)(hlt:∀d,d∈ds→d<a.tmps.size)(hfit:∀(j:Nat) (h:Hd),hs[j]?=some h→∃cl,(Zk σ base (hs.take j) cl).fits h.out=true){i:Nat}(hi:i<n){cl:List Nat}(_hcl:∀j,j∈cl→j<i){W:World}(hb:Below w.heap.size w W){u:Nat→Value}{γ:Nat→Gh}(hΦ:∀j,j∈cl→iS σ r hs j u γ W):
  See w0 (Zk σ base (hs.take i) cl) (rg σ r γ) (Gl a ds u) W:=by
 have h':=hS.later hb
 have hti:(hs.take i).length=i:=by rw[Rt];omega
 have hget:∀(j:Nat) (h:Hd),(hs.take i)[j]?=some h→hs[j]?=some h∧j<i:=fun j h hj=>by
  have h1:=(List.getElem?_eq_some_iff.1 hj).1
  rw[hti]at h1
  rw[List.getElem?_take_of_lt h1]at hj
  exact⟨hj,h1⟩
 have hbl:=IU σ base (hs.take i) cl
 have hrl:=Hh σ base (hs.take i) cl
 rw[hti]at hbl hrl
 have hold:∀s:SV,σ.lt s=true→(Zk σ base (hs.take i) cl).lt s=true:=fun s h=>Jz (fun k hk=>XW (by have:=QX hk;rw[hbl];omega)) (fun k hk=>XW (by have:=QX hk;rw[hrl];omega)) s h
 have holdL:∀s:List SV,σ.ltL s=true→(Zk σ base (hs.take i) cl).ltL s=true:=fun s h=>Y0 (fun k hk=>XW (by have:=QX hk;rw[hbl];omega)) (fun k hk=>XW (by have:=QX hk;rw[hrl];omega)) s h
 have hfitj:∀(j:Nat) (h:Hd),hs[j]?=some h→j<i→(Zk σ base (hs.take i) cl).lt h.out.s=true∧∀t cs,h.out.b=some (t,cs)→(Zk σ base (hs.take i) cl).ltL cs=true:=fun j h hj hji=>by
  obtain⟨cl',hf⟩:=hfit j h hj
  have hjl:(hs.take j).length=j:=by rw[Rt];omega
  have b1:=IU σ base (hs.take j) cl'
  have b2:=Hh σ base (hs.take j) cl'
  rw[hjl]at b1 b2
  obtain⟨f1,f2⟩:=L6.1 hf
  refine⟨Jz (fun k hk=>XW ?_) (fun k hk=>XW ?_) _ f1,fun t cs e=>?_⟩
  ·have h5:=QX hk
   cases e:h.out.b<;>rw[e]at h5<;>simp only[b1]at h5<;>rw[hbl]<;>omega
  ·have h5:=QX hk
   cases e:h.out.r<;>rw[e]at h5<;>simp only[b2]at h5<;>rw[hrl]<;>omega
  ·rw[e]at f2
   exact Y0 (fun k hk=>XW (by have h5:=QX hk;rw[b1]at h5;rw[hbl];omega)) (fun k hk=>XW (by have h5:=QX hk;rw[b2]at h5;rw[hrl];omega)) cs f2
 refine⟨h'.low,by rw[DZ];exact h'.size,fun k s hk=>?_,fun k t cs hk=>?_,fun k R hk=>?_,fun k hk=>?_⟩
 ·rcases BR hk with⟨j,h,h1,h2,rfl,rfl⟩|h1
  ·obtain⟨h3,h4⟩:=hget j h h1
   rw[Ld]at h2
   have h5:=(hΦ j h2 h h3).1
   have h6:=hds j h h3
   have hd:h.d<a.tmps.size:=hlt _ (List.mem_of_getElem? h6)
   refine⟨?_,(hfitj j h h3 h4).1⟩
   have h7:=Cz (i:=0) hnd h6
   rw[Ld]at h7
   exact Kd hd h7 h5
  ·obtain⟨h2,h3⟩:=hbase k s h1
   obtain⟨h4,h5⟩:=h'.ts k s h3
   refine⟨?_,hold s h5⟩
   rw[WJ h5]
   rcases Ra k a.tmps.size with hk2|hk2
   ·exact C8 hk2 (CN h2) h4
   ·rw[← h4,Array.getD_eq_getD_getElem?,Array.getD_eq_getD_getElem?,Array.getElem?_eq_none (by rw[DZ];exact hk2),Array.getElem?_eq_none hk2]
 ·rcases V4 hk with h1|⟨h1,h2⟩
  ·obtain⟨h3,h4⟩:=h'.bs k t cs h1
   rw[Pg h4,show(rg σ r γ).b k=r.b k from if_pos (X0 h1)]
   exact⟨h3,holdL cs h4⟩
  ·obtain⟨h,h3,h4,h5⟩:=Mh h2
   obtain⟨h6,h7⟩:=hget _ h h3
   rw[Ld]at h4
   rw[show(rg σ r γ).b k=(γ (k-σ.bs.length)).b from if_neg (by omega)]
   exact⟨(hΦ _ h4 h h6).2.1 t cs h5,(hfitj _ h h6 h7).2 t cs h5⟩
 ·rcases V4 hk with h1|⟨h1,h2⟩
  ·rw[show(rg σ r γ).x k=r.x k from if_pos (X0 h1),show(rg σ r γ).S k=r.S k from if_pos (X0 h1)]
   exact h'.rs k R h1
  ·obtain⟨h,h3,h4,h5⟩:=Ng h2
   obtain⟨h6,h7⟩:=hget _ h h3
   rw[Ld]at h4
   have h8:=hΦ _ h4 h h6
   rw[show(rg σ r γ).x k=EO (γ (k-σ.rs.length)).x from if_neg (by omega),show(rg σ r γ).S k=(γ (k-σ.rs.length)).S from if_neg (by omega),H9 (h8.2.2.1 R h5).2]
   exact(h8.2.2.1 R h5).1
 ·rcases Ra k σ.rs.length with h1|h1
  ·rw[show(rg σ r γ).x k=r.x k from if_pos h1];exact h'.one k h1
  ·rw[show(rg σ r γ).x k=EO (γ (k-σ.rs.length)).x from if_neg (by omega)];exact MH _
theorem Wo(hS:Sat w0 σ r a w)(hnd:ds.Nodup)(hlen:hs.length=n)(hds:∀(j:Nat) (h:Hd),hs[j]?=some h→ds[j]?=some h.d)(hdl:ds.length=n)(hlt:∀d,d∈ds→d<a.tmps.size)(hfit:∀(j:Nat) (h:Hd),hs[j]?=some h→∃cl,(Zk σ base (hs.take j) cl).fits h.out=true){W:World}(hb:Below w.heap.size w W){u:Nat→Value}{γ:Nat→Gh}(hΦ:∀j,j<n→iS σ r hs j u γ W)(hF:∀i,i<n→∀b,n7 hs i (γ i) b→w.heap.size≤b∧b<W.heap.size)(hD:∀i j,i<n→j<n→i≠j→∀b,n7 hs i (γ i) b→¬ n7 hs j (γ j) b):
  Sat w0 (Jd σ hs) (rg σ r γ) (Gl a ds u) W:=by
 have h':=hS.see.later hb
 have hbl:=Pm σ hs
 have hrl:=Pu σ hs
 rw[hlen]at hbl hrl
 have hjn:∀(j:Nat) (h:Hd),hs[j]?=some h→j<n:=fun j h hj=>by have:=(List.getElem?_eq_some_iff.1 hj).1;omega
 have hold:∀s:SV,σ.lt s=true→(Jd σ hs).lt s=true:=fun s h=>Jz (fun k hk=>XW (by have:=QX hk;rw[hbl];omega)) (fun k hk=>XW (by have:=QX hk;rw[hrl];omega)) s h
 have holdL:∀s:List SV,σ.ltL s=true→(Jd σ hs).ltL s=true:=fun s h=>Y0 (fun k hk=>XW (by have:=QX hk;rw[hbl];omega)) (fun k hk=>XW (by have:=QX hk;rw[hrl];omega)) s h
 have hfitj:∀(j:Nat) (h:Hd),hs[j]?=some h→(Jd σ hs).lt h.out.s=true∧∀t cs,h.out.b=some (t,cs)→(Jd σ hs).ltL cs=true:=fun j h hj=>by
  obtain⟨cl',hf⟩:=hfit j h hj
  have hjn:=hjn j h hj
  have hjl:(hs.take j).length=j:=by rw[Rt];omega
  have b1:=IU σ base (hs.take j) cl'
  have b2:=Hh σ base (hs.take j) cl'
  rw[hjl]at b1 b2
  obtain⟨f1,f2⟩:=L6.1 hf
  refine⟨Jz (fun k hk=>XW ?_) (fun k hk=>XW ?_) _ f1,fun t cs e=>?_⟩
  ·have h5:=QX hk
   cases e:h.out.b<;>rw[e]at h5<;>simp only[b1]at h5<;>rw[hbl]<;>omega
  ·have h5:=QX hk
   cases e:h.out.r<;>rw[e]at h5<;>simp only[b2]at h5<;>rw[hrl]<;>omega
  ·rw[e]at f2
   exact Y0 (fun k hk=>XW (by have h5:=QX hk;rw[b1]at h5;rw[hbl];omega)) (fun k hk=>XW (by have h5:=QX hk;rw[b2]at h5;rw[hrl];omega)) cs f2
 have hbx:∀i p,Xk σ.bs i=some p→r.b i<w.heap.size:=fun i p hi=>(hS.see.bs i p.1 p.2 hi).1.lt
 have hlow:=hS.see.low.size
 have nb:∀k p,Xk (Jd σ hs).bs k=some p→(Xk σ.bs k=some p∧(rg σ r γ).b k=r.b k)∨∃(j:Nat) (h:Hd),k=σ.bs.length+j∧hs[j]?=some h∧h.out.b=some p∧(rg σ r γ).b k=(γ j).b:=fun k p hk=>by
  rcases V4 hk with h1|⟨h1,h2⟩
  ·exact .inl ⟨h1,if_pos (X0 h1)⟩
  ·obtain⟨h,h3,h4⟩:=FL h2
   exact .inr ⟨k-σ.bs.length,h,by omega,h3,h4,if_neg (by omega)⟩
 have nr:∀k R,Xk (Jd σ hs).rs k=some R→(Xk σ.rs k=some R∧(rg σ r γ).S k=r.S k∧(rg σ r γ).x k=r.x k)∨∃(j:Nat) (h:Hd),k=σ.rs.length+j∧hs[j]?=some h∧h.out.r=some R∧(rg σ r γ).S k=(γ j).S∧(rg σ r γ).x k=(γ j).x:=fun k R hk=>by
  rcases V4 hk with h1|⟨h1,h2⟩
  ·exact .inl ⟨h1,if_pos (X0 h1),if_pos (X0 h1)⟩
  ·obtain⟨h,h3,h4⟩:=EZ h2
   refine .inr ⟨k-σ.rs.length,h,by omega,h3,h4,if_neg (by omega),?_⟩
   rw[show(rg σ r γ).x k=EO (γ (k-σ.rs.length)).x from if_neg (by omega),H9 ((hΦ _ (hjn _ h h3) h h3).2.2.1 R h4).2]
 refine⟨⟨h'.low,by rw[DZ];exact h'.size,fun k s hk=>?_,fun k t cs hk=>?_,fun k R hk=>?_,fun k hk=>?_⟩,⟨fun i p hi=>?_,fun i j p q hi hj hne=>?_,fun i R hi b hS'=>?_,fun i j R R' hi hj hne b hS1 hS2=>?_,fun i j p R hi hj hS'=>?_⟩,hS.defers⟩
 ·rcases E4 hk with⟨j,h,h1,rfl,rfl⟩|⟨h1,h2⟩
  ·have h5:=(hΦ j (hjn j h h1) h h1).1
   have h6:=hds j h h1
   have h7:=Cz (i:=0) hnd h6
   rw[Ld]at h7
   exact⟨Kd (hlt _ (List.mem_of_getElem? h6)) h7 h5,(hfitj j h h1).1⟩
  ·obtain⟨h4,h5⟩:=h'.ts k s h2
   refine⟨?_,hold s h5⟩
   rw[WJ h5]
   have hnot:k ∉ ds:=fun hm=>by
    obtain⟨j,hj,e⟩:=List.getElem_of_mem hm
    have h6:j<hs.length:=by omega
    have h7:=hds j hs[j] (by simp[h6])
    rw[List.getElem?_eq_getElem hj]at h7
    exact h1 j hs[j] (by simp[h6]) (by rw[← e];exact(Option.some.inj h7).symm)
   rcases Ra k a.tmps.size with hk2|hk2
   ·exact C8 hk2 (CN hnot) h4
   ·rw[← h4,Array.getD_eq_getD_getElem?,Array.getD_eq_getD_getElem?,Array.getElem?_eq_none (by rw[DZ];exact hk2),Array.getElem?_eq_none hk2]
 ·rcases nb k _ hk with⟨h1,h2⟩|⟨j,h,rfl,h1,h2,h3⟩
  ·obtain⟨h3,h4⟩:=h'.bs k t cs h1
   rw[Pg h4,h2]
   exact⟨h3,holdL cs h4⟩
  ·rw[h3]
   exact⟨(hΦ j (hjn j h h1) h h1).2.1 t cs h2,(hfitj j h h1).2 t cs h2⟩
 ·rcases nr k R hk with⟨h1,h2,h3⟩|⟨j,h,rfl,h1,h2,h3,h4⟩
  ·rw[h2,h3];exact h'.rs k R h1
  ·rw[h3,h4];exact((hΦ j (hjn j h h1) h h1).2.2.1 R h2).1
 ·rcases Ra k σ.rs.length with h1|h1
  ·rw[show(rg σ r γ).x k=r.x k from if_pos h1];exact h'.one k h1
  ·rw[show(rg σ r γ).x k=EO (γ (k-σ.rs.length)).x from if_neg (by omega)];exact MH _
 ·rcases nb i p hi with⟨h1,h2⟩|⟨j,h,rfl,h1,h2,h3⟩
  ·rw[h2];exact hS.sep.own i p h1
  ·rw[h3];have:=(hF j (hjn j h h1) _ ⟨h,h1,.inl ⟨p,h2,rfl⟩⟩).1;omega
 ·rcases nb i p hi with⟨h1,h2⟩|⟨k,h,rfl,h1,h2,h3⟩<;>rcases nb j q hj with⟨g1,g2⟩|⟨m,g,rfl,g1,g2,g3⟩
  ·rw[h2,g2];exact hS.sep.inj i j p q h1 g1 hne
  ·rw[h2,g3];have:=(hF m (hjn m g g1) _ ⟨g,g1,.inl ⟨q,g2,rfl⟩⟩).1;have:=hbx i p h1;omega
  ·rw[h3,g2];have:=(hF k (hjn k h h1) _ ⟨h,h1,.inl ⟨p,h2,rfl⟩⟩).1;have:=hbx j q g1;omega
  ·rw[h3,g3]
   have hkm:k≠m:=fun e=>hne (by rw[e])
   intro e
   exact hD k m (hjn k h h1) (hjn m g g1) hkm _ ⟨h,h1,.inl ⟨p,h2,rfl⟩⟩ ⟨g,g1,.inl ⟨q,g2,e⟩⟩
 ·rcases nr i R hi with⟨h1,h2,h3⟩|⟨j,h,rfl,h1,h2,h3,h4⟩
  ·rw[h2]at hS';exact hS.sep.ownS i R h1 b hS'
  ·rw[h3]at hS';have:=(hF j (hjn j h h1) _ ⟨h,h1,.inr ⟨R,h2,hS'⟩⟩).1;omega
 ·rcases nr i R hi with⟨h1,h2,_⟩|⟨k,h,rfl,h1,h2,h3,_⟩<;>rcases nr j R' hj with⟨g1,g2,_⟩|⟨m,g,rfl,g1,g2,g3,_⟩
  ·rw[h2]at hS1;rw[g2]at hS2;exact hS.sep.disj i j R R' h1 g1 hne b hS1 hS2
  ·rw[h2]at hS1;rw[g3]at hS2
   have:=(hF m (hjn m g g1) _ ⟨g,g1,.inr ⟨R',g2,hS2⟩⟩).1;have:=(hS.see.rs i R h1).2 b hS1;omega
  ·rw[h3]at hS1;rw[g2]at hS2
   have:=(hF k (hjn k h h1) _ ⟨h,h1,.inr ⟨R,h2,hS1⟩⟩).1;have:=(hS.see.rs j R' g1).2 b hS2;omega
  ·rw[h3]at hS1;rw[g3]at hS2
   have hkm:k≠m:=fun e=>hne (by rw[e])
   exact hD k m (hjn k h h1) (hjn m g g1) hkm _ ⟨h,h1,.inr ⟨R,h2,hS1⟩⟩ ⟨g,g1,.inr ⟨R',g2,hS2⟩⟩
 ·rcases nb i p hi with⟨h1,h2⟩|⟨k,h,rfl,h1,h2,h3⟩<;>rcases nr j R hj with⟨g1,g2,_⟩|⟨m,g,rfl,g1,g2,g3,_⟩
  ·rw[h2,g2]at hS';exact hS.sep.apart i j p R h1 g1 hS'
  ·rw[h2,g3]at hS'
   have:=(hF m (hjn m g g1) _ ⟨g,g1,.inr ⟨R,g2,hS'⟩⟩).1;have:=hbx i p h1;omega
  ·rw[h3,g2]at hS'
   have:=(hF k (hjn k h h1) _ ⟨h,h1,.inl ⟨p,h2,rfl⟩⟩).1;have:=(hS.see.rs j R g1).2 _ hS';omega
  ·rw[h3,g3]at hS'
   by_cases e:k=m
   ·subst e
    obtain rfl:=Option.some.inj (h1.symm.trans g1)
    exact(hΦ k (hjn k h h1) h h1).2.2.2 p R h2 g2 hS'
   ·exact hD k m (hjn k h h1) (hjn m g g1) e _ ⟨h,h1,.inl ⟨p,h2,rfl⟩⟩ ⟨g,g1,.inr ⟨R,g2,hS'⟩⟩
theorem kn{ops:Array Oper}{n:Nat}(hB:(List.range n).all (fun i=>(X6 ops i).all (·<i))=true){i j:Nat}(h:Rch ops i j): i<n→j<i:=by
 have hw:∀a k,a<n→k∈X6 ops a→k<a:=fun a k ha hk=>by
  have h1:=Ls.1 hB a (Lm.2 ha)
  simpa using Ls.1 h1 _ hk
 induction h with
 | one h=>exact fun ha=>hw _ _ ha h
 | more h _ ih =>
  intro ha
  have h1:=hw _ _ ha h
  have:=ih (by omega)
  omega
theorem NA(hT:YF P tt){H:Cx}(hH:HJ P w0 H.inl){id:Nat}{d:List Dir}{K:St→List Dir→Prop}(h:AO P tt H w0 id ops σ d K):
  ∀r a w,Sat w0 σ r a w→∀(Q:Exit→Act→World→Prop),(∀(d:Tmp) (v:Value) c a w,Q (.panic c) (a.put (some d) v) w→Q (.panic c) a w)→PanTo w0 H σ r Q→(∀σ' d' r' a' w',K σ' d'→Sat w0 σ' r' a' w'→Ag σ r r'→σ.le σ'→Q .normal a' w')→wpAny P .any ops Q ops.size (Array.replicate ops.size false) a { w with drawn:=w.drawn+1 }:=by
 obtain⟨l⟩:=ops
 unfold AO at h
 split at h
 case h_2=>exact h.elim
 rename_i n late d0
 dsimp only at h
 obtain⟨hc,h⟩:=Qp h
 obtain⟨hs,d1,hK,hlen,_,hok⟩:=E6 hT n l 0 [] d0 (fun j=>by rw[Ld];simp) rfl (fun k x hk=>by simp at hk) h
 rw[Ld]at hlen
 have hl:=Vb hT hH (l.drop n) n (Jd σ hs) d1 K hK
 intro r a w hS Q hQ hP hend
 have hok':∀j,j<n→∃(x:Hd) (o:Oper),hs[j]?=some x∧l[j]?=some o∧ni P w0 l.toArray late σ (VJ (Vf l n) σ.ts) hs j x o:=fun j hj=>by
  obtain⟨x,o,h1,h2,h4⟩:=hok j (L9 _) (by omega)
  exact⟨x,o,h1,by simpa using h2,h4⟩
 have hokx:∀(j:Nat) (x:Hd),hs[j]?=some x→j<n∧∃o,l[j]?=some o∧ni P w0 l.toArray late σ (VJ (Vf l n) σ.ts) hs j x o:=fun j x hx=>by
  have hj:j<n:=by have:=(List.getElem?_eq_some_iff.1 hx).1;omega
  obtain⟨y,o,h1,h2,h4⟩:=hok' j hj
  obtain rfl:=Option.some.inj (hx.symm.trans h1)
  exact⟨hj,o,h2,h4⟩
 simp only[mP,R8]at hc
 obtain⟨⟨⟨⟨c1,c2⟩,c3⟩,c4⟩,c5⟩:=hc
 obtain⟨hdl,hda⟩:=RP (l:=l) (n:=n) fun j hj=>by
  obtain⟨x,o,_,h2,h4⟩:=hok' j hj
  exact⟨o,x.d,h2,h4.1⟩
 have hnd:=DK c3
 have hds:∀(j:Nat) (x:Hd),hs[j]?=some x→(Vf l n)[j]?=some x.d:=fun j x hx=>by
  obtain⟨hj,o,h2,h4⟩:=hokx j x hx
  exact hda j o x.d hj h2 h4.1
 have hlt:∀d,d∈Vf l n→d<a.tmps.size:=fun d hd=>by
  rw[hS.see.size];simpa using Ls.1 c4 d hd
 have hfit:∀(j:Nat) (x:Hd),hs[j]?=some x→∃cl,(Zk σ (VJ (Vf l n) σ.ts) (hs.take j) cl).fits x.out=true:=fun j x hx=>by
  obtain⟨_,o,_,h4⟩:=hokx j x hx
  exact⟨x.cl,h4.2.2.1⟩
 have hback:(List.range n).all (fun i=>(X6 l.toArray i).all (·<i))=true:=by
  have c1':=c1
  simp only[VO,R8]at c1'
  rw[hdl]at c1'
  exact c1'.1.2
 have hsee:∀i x,hs[i]?=some x→(∀j,j∈x.cl→Rch l.toArray i j)→∀u γ W,Below w.heap.size w W→(∀j,Rch l.toArray i j→iS σ r hs j u γ W)→See w0 (Zk σ (VJ (Vf l n) σ.ts) (hs.take i) x.cl) (rg σ r γ) (Gl a (Vf l n) u) W:=fun i x hx hcl u γ W hb hΦ =>
  gV hS.see (fun k s hk=>Bu hk) hnd hlen hds hdl hlt hfit (hokx i x hx).1 (fun j hj=>kn hback (hcl j hj) (hokx i x hx).1) hb (fun j hj=>hΦ j (hcl j hj))
 have hlenv:∀i x,hs[i]?=some x→(Zk σ (VJ (Vf l n) σ.ts) (hs.take i) x.cl).bs.length=σ.bs.length+i∧(Zk σ (VJ (Vf l n) σ.ts) (hs.take i) x.cl).rs.length=σ.rs.length+i:=fun i x hx=>by
  have hi:=(hokx i x hx).1
  have hti:(hs.take i).length=i:=by rw[Rt];omega
  rw[IU,Hh,hti];exact⟨rfl,rfl⟩
 refine Ax (Γ:=Gh) (l:=l) (Vf l n) (fun W=>Below w.heap.size w W) (iS σ r hs) (n7 hs) (fun _=>Gh.no) (fun i=>!late.contains i) c1 hQ c2 c3 (Ls.2 fun d hd=>by simpa using hlt d hd) (Below.refl _ _).drew ?hst ?hcg ?hop ?hlate ?htail
 case hst =>
  intro i u γ W W' _ hb hΦ x hx
  obtain⟨p1,p2,p3,p4⟩:=hΦ x hx
  exact⟨p1,fun t cs e=>(p2 t cs e).later hb,fun R e=>⟨⟨R.loc _ _ _ _ (fun b hb'=>hb.block b ((p3 R e).1.2 b hb')) (p3 R e).1.1,fun b hb'=>Lb ((p3 R e).1.2 b hb') hb.size⟩,(p3 R e).2⟩,p4⟩
 case hcg =>
  intro i u u' γ γ' W hi hu hΦ x hx
  obtain⟨_,o,_,ok⟩:=hokx i x hx
  obtain⟨p1,p2,p3,p4⟩:=hΦ x hx
  have hγ:∀j,j∈i::x.cl→γ j=γ' j:=fun j hj=>by
   rcases Lp.1 hj with rfl|hj
   ·exact(hu j (.inl rfl)).2
   ·exact(hu j (.inr (ok.2.1 j hj))).2
  have hi':=hu i (.inl rfl)
  obtain⟨f1,f2⟩:=L6.1 ok.2.2.2.1
  rw[← hi'.1,← hi'.2]
  refine⟨by rw[p1];exact Yn (fun k hk=>mY hγ hk) (fun k hk=>m7 hγ hk) _ f1,fun t cs e=>?_,p3,p4⟩
  rw[e]at f2
  rw[← Xm (r:=rg σ r γ) (fun k hk=>mY (fun j hj=>hγ j (T2 _ hj)) hk) (fun k hk=>m7 (fun j hj=>hγ j (T2 _ hj)) hk) cs f2]
  exact p2 t cs e
 case hop =>
  intro i hi o ho u γ W hG hΦ Q' K' hK'
  obtain⟨x,o',hx,ho',ok⟩:=hok' i (by omega)
  have eo:o'=o:=Option.some.inj (ho'.symm.trans (by simpa using ho))
  subst eo
  obtain⟨k1,k2,k3,k4,k5⟩:=ok
  have see:=hsee i x hx k2 u γ W hG hΦ
  obtain⟨l1,l2⟩:=hlenv i x hx
  have hadd:∀g:Gh,g.x.oneCell'=true→rg σ r (JH γ i g)=(rg σ r γ).add' (Zk σ (VJ (Vf l n) σ.ts) (hs.take i) x.cl) g:=fun g hg=>by
   unfold Env.add'
   rw[ld hg,l1,l2]
  have hno:∀v w',x.out.b=none→x.out.r=none→v=x.out.s.den (rg σ r γ)→Below W.heap.size W w'→K' ((Gl a (Vf l n) u).put o'.dst v) w':=fun v w' e1 e2 hv hb=>by
   refine hK' v (γ i) w' hb (nxt hG hb) ?_ ?_
   ·intro y hy
    obtain rfl:=Option.some.inj (hx.symm.trans hy)
    have eγ:JH γ i (γ i)=γ:=by funext k;unfold JH;split<;>simp_all
    rw[eγ,Xw]
    exact⟨hv,fun t cs e=>(by rw[e1]at e;cases e),fun R e=>(by rw[e2]at e;cases e),fun p R e=>(by rw[e1]at e;cases e)⟩
   ·rintro b ⟨y,hy,hc⟩
    obtain rfl:=Option.some.inj (hx.symm.trans hy)
    rcases hc with⟨p,e,_⟩|⟨R,e,_⟩
    ·rw[e1]at e;cases e
    ·rw[e2]at e;cases e
  rcases k5 with⟨kw,⟨_,kq⟩|⟨_,e1,e2,kr⟩⟩|⟨kw,_,ke⟩
  ·rw[if_pos (kw _ _ _ see)]
   refine kq _ _ _ see Q' K' ?_
   rintro out g w' rfl hb hmade
   refine hK' _ g w' hb (nxt hG hb) ?_ ?_
   ·intro y hy
    obtain rfl:=Option.some.inj (hx.symm.trans hy)
    rw[Xw,Xw,hadd g hmade.one]
    exact⟨rfl,fun t cs e=>(hmade.b t cs e).1,fun R e=>⟨⟨(hmade.r R e).1,fun b hb'=>((hmade.r R e).2 b hb').2⟩,hmade.one⟩,hmade.apart⟩
   ·rintro b ⟨y,hy,hc⟩
    obtain rfl:=Option.some.inj (hx.symm.trans hy)
    rcases hc with⟨p,e,rfl⟩|⟨R,e,hb'⟩
    ·exact⟨(hmade.b p.1 p.2 e).2,(hmade.b p.1 p.2 e).1.lt⟩
    ·exact(hmade.r R e).2 b hb'
  ·rw[if_pos (kw _ _ _ see)]
   unfold Oper.wp
   rw[kr _ _ _ see]
   exact hno _ _ e1 e2 rfl (Below.refl _ _)
  ·rw[if_neg (by rw[kw _ _ _ see];simp)]
   exact hno undef W (by rw[ke];rfl) (by rw[ke];rfl) (by rw[ke];rfl) (Below.refl _ _)
 case hlate =>
  intro i hi hst
  obtain⟨x,o',hx,ho',ok⟩:=hok' i (by omega)
  obtain⟨k1,k2,k3,k4,k5⟩:=ok
  have hml:YD i late=true:=by
   refine memB_mem.2 ?_
   simpa using hst
  rcases k5 with⟨kw,⟨e,_⟩|⟨_,e1,e2,kr⟩⟩|⟨_,e,_⟩
  ·rw[hml]at e;cases e
  ·refine⟨?_,fun o ho u γ W hG hΦ=>?_⟩
   ·rintro g b ⟨y,hy,hc⟩
    obtain rfl:=Option.some.inj (hx.symm.trans hy)
    rcases hc with⟨p,e,_⟩|⟨R,e,_⟩
    ·rw[e1]at e;cases e
    ·rw[e2]at e;cases e
   ·have eo:o'=o:=Option.some.inj (ho'.symm.trans (by simpa using ho))
    subst eo
    have see:=hsee i x hx k2 u γ W hG hΦ
    refine⟨_,.inl ⟨kw _ _ _ see,fun w'=>kr _ _ _ see w'⟩,?_⟩
    intro y hy
    obtain rfl:=Option.some.inj (hx.symm.trans hy)
    rw[Xw]
    exact⟨rfl,fun t cs e=>(by rw[e1]at e;cases e),fun R e=>(by rw[e2]at e;cases e),fun p R e=>(by rw[e1]at e;cases e)⟩
  ·rw[hml]at e;cases e
 case htail =>
  intro u γ W hG hΦ hF hD
  rw[hdl]at hΦ hF hD ⊢
  have hle:σ.le (Jd σ hs):=⟨by rw[Pm];exact Lf _ _,by rw[Pu];exact Lf _ _⟩
  have hag:Ag σ r (rg σ r γ):=⟨fun _ hi=>if_pos hi,fun _ hi=>if_pos hi⟩
  exact hl _ _ _ (Wo hS hnd hlen hds hdl hlt hfit hG hΦ hF hD) Q (hP.later hag hle) fun σ' d' r' a' w' hk hS' hg' hle'=>hend σ' d' r' a' w' hk hS' (hag.trans hle hg') (hle.trans hle')
end
inductive Ex where
 | normal
 | exit (id:Nat)
 | ret
def Ex.to:Ex→Exit
 | .normal=>.normal
 | .exit id=>.exit id
 | .ret=>.ret
def RB(a b:Value)(p:Prop): Prop:=match a with
 | .int k x=>(match b with
  | .int k' y=>ZQ (Pn k k') (x=y∧p)
  | _=>False)
 | .bool x=>(match b with
  | .bool y=>x=y∧p
  | _=>False)
 | .string x=>(match b with
  | .string y=>x=y∧p
  | _=>False)
 | a=>a=b∧p
theorem NE{a b:Value}{p:Prop}(h:RB a b p): a=b∧p:=by
 unfold RB at h
 split at h
 ·split at h
  ·obtain⟨hk,e,h2⟩:=Qp h
   rw[CA hk,e];exact⟨rfl,h2⟩
  ·exact h.elim
 ·split at h
  ·obtain⟨rfl,h⟩:=h;exact⟨rfl,h⟩
  ·exact h.elim
 ·split at h
  ·obtain⟨rfl,h⟩:=h;exact⟨rfl,h⟩
  ·exact h.elim
 ·exact h
mutual
def em(s u:SV)(p:Prop): Prop:=match s with
 | .val a=>(match u with
  | .val b=>RB a b p
  | _=>False)
 | .ptr b o=>(match u with
  | .ptr b' o'=>ZQ (Nat.beq b b'&&Nat.beq o o') p
  | _=>False)
 | .sli b o n c=>(match u with
  | .sli b' o' n' c'=>ZQ (Nat.beq b b'&&Nat.beq o o'&&Nat.beq n n'&&Nat.beq c c') p
  | _=>False)
 | .clo f l m=>(match u with
  | .clo f' l' m'=>f=f'∧DY l l' (DY m m' p)
  | _=>False)
 | .agg l=>(match u with
  | .agg m=>DY l m p
  | _=>False)
 | .tup l=>(match u with
  | .tup m=>DY l m p
  | _=>False)
 | .han i=>(match u with
  | .han j=>ZQ (Nat.beq i j) p
  | _=>False)
def DY(l m:List SV)(p:Prop): Prop:=match l with
 | []=>(match m with
  | []=>p
  | _=>False)
 | s::l=>(match m with
  | u::m=>em s u (DY l m p)
  | _=>False)
end
mutual
theorem C6:∀(s u:SV) (p:Prop),em s u p→s=u∧p
 | .val a,u,p,h=>by
  cases u<;>first|exact False.elim h|skip
  obtain⟨e,h2⟩:=NE (show RB a _ p from h)
  rw[e];exact⟨rfl,h2⟩
 | .ptr b o,u,p,h=>by
  cases u<;>first|exact False.elim h|skip
  obtain⟨hk,h⟩:=Qp (show ZQ _ p from h)
  obtain⟨h1,h2⟩:=L6.1 hk
  rw[Lc h1,Lc h2];exact⟨rfl,h⟩
 | .sli b o n c,u,p,h=>by
  cases u<;>first|exact False.elim h|skip
  obtain⟨hk,h⟩:=Qp (show ZQ _ p from h)
  obtain⟨hk,h4⟩:=L6.1 hk
  obtain⟨hk,h3⟩:=L6.1 hk
  obtain⟨h1,h2⟩:=L6.1 hk
  rw[Lc h1,Lc h2,Lc h3,Lc h4];exact⟨rfl,h⟩
 | .clo f l m,u,p,h=>by
  cases u<;>first|exact False.elim h|skip
  obtain⟨e1,h2⟩:=(show _=_∧DY l _ (DY m _ p)from h)
  obtain⟨e2,h3⟩:=Ju l _ _ h2
  obtain⟨e3,h4⟩:=Ju m _ _ h3
  rw[e1,e2,e3];exact⟨rfl,h4⟩
 | .agg l,u,p,h=>by
  cases u<;>first|exact False.elim h|skip
  obtain⟨e,h2⟩:=Ju l _ p h
  rw[e];exact⟨rfl,h2⟩
 | .tup l,u,p,h=>by
  cases u<;>first|exact False.elim h|skip
  obtain⟨e,h2⟩:=Ju l _ p h
  rw[e];exact⟨rfl,h2⟩
 | .han i,u,p,h=>by
  cases u<;>first|exact False.elim h|skip
  obtain⟨hk,h⟩:=Qp (show ZQ _ p from h)
  rw[Lc hk];exact⟨rfl,h⟩
theorem Ju:∀(l m:List SV) (p:Prop),DY l m p→l=m∧p
 | [],m,p,h=>by
  cases m<;>first|exact⟨rfl,h⟩|exact False.elim h
 | s::l,m,p,h=>by
  cases m with
  | nil=>exact False.elim h
  | cons u m =>
   obtain⟨e1,h2⟩:=C6 s u _ h
   obtain⟨e2,h3⟩:=Ju l m p h2
   rw[e1,e2];exact⟨rfl,h3⟩
end
def be(σ τ:St): List (Nat×SV)→Prop→Prop
 | [],p=>p
 | (k,s)::l,p=>match Yv k σ.ts with
  | some u=>ZQ (τ.lt s) (em u s (be σ τ l p))
  | none=>False
def jd(τ:St): List (Option (TypeId×List SV))→List (Option (TypeId×List SV))→Prop→Prop
 | _,[],p=>p
 | [],_::_,_=>False
 | _::l,none::m,p=>jd τ l m p
 | x::l,some q::m,p=>ZQ (τ.ltL q.2) (x=some q∧jd τ l m p)
def Wb:List (Option Res)→List (Option Res)→Prop→Prop
 | _,[],p=>p
 | [],_::_,_=>False
 | _::l,none::m,p=>Wb l m p
 | x::l,some R::m,p=>match x with
  | some R'=>(∀v S w,R'.φ v S w→R.φ v S w)∧Wb l m p
  | none=>False
def Jk(σ τ:St)(p:Prop): Prop:=ZQ (Nat.beq σ.n τ.n) (be σ τ τ.ts (jd τ σ.bs τ.bs (Wb σ.rs τ.rs p)))
def Vh:Code→Option Nat
 | .region id _ _=>some id
 | .seq a b=>(match Vh a with
  | some k=>some k
  | none=>Vh b)
 | .cond _ a b=>(match Vh a with
  | some k=>some k
  | none=>Vh b)
 | .block _ b=>Vh b
 | .loop b=>Vh b
 | .rangeFunc _ _ a b=>(match Vh a with
  | some k=>some k
  | none=>Vh b)
 | _=>none
def It(c:Code): Nat:=match Vh c with
 | some k=>k
 | none=>0
def Pt:List (Option Res)→List (Option Res)→List (Option Res)
 | _,[]=>[]
 | [],m=>m
 | _::l,some R::m=>some R::Pt l m
 | x::l,none::m=>x::Pt l m
def Ak:List (Option (TypeId×List SV))→List (Option (TypeId×List SV))→List (Option (TypeId×List SV))
 | _,[]=>[]
 | [],m=>m
 | _::l,some (t,c::cs)::m=>some (t,c::cs)::Ak l m
 | _::l,some (_,[])::m=>none::Ak l m
 | x::l,none::m=>x::Ak l m
def VM(σ τ:St): St:={ τ with bs:=Ak σ.bs τ.bs,rs:=Pt σ.rs τ.rs }
def pz(τ:St): Option (TypeId×List SV)→Bool
 | none=>true
 | some q=>τ.ltL q.2
def Iv(τ:St): List (Option (TypeId×List SV))→List (Option (TypeId×List SV))→List (Option (TypeId×List SV))→Prop→Prop
 | _,_,[],p=>p
 | [],_,_::_,_=>False
 | _::_,[],_::_,_=>False
 | x::l,y::m,none::n,p=>ZQ (pz τ y) (x=y∧Iv τ l m n p)
 | _::l,_::m,some (_,[])::n,p=>Iv τ l m n p
 | x::l,_::m,some (t,c::cs)::n,p=>match x with
  | some (u,ds)=>ZQ (Nat.beq u t&&τ.ltL (c::cs)) (DY ds (c::cs) (Iv τ l m n p))
  | none=>False
def aI(σ' σ τ:St)(p:Prop): Prop:=ZQ (Nat.beq σ'.n τ.n) (be σ' (VM σ τ) τ.ts (Iv (VM σ τ) σ'.bs σ.bs τ.bs (Wb σ'.rs (Pt σ.rs τ.rs) p)))
def nQ:List Dir→Bool
 | .row _ j _ _ _ _ _ _ _::_=>Nat.beq j 99999
 | .nil _ j _ _ _::_=>Nat.beq j 99999
 | .join _ j _ _::_=>Nat.beq j 99999
 | .cnv _ j _ _::_=>Nat.beq j 99999
 | .opn _ j _ _ _ _::_=>Nat.beq j 99999
 | _=>false
def ow(fl:Nat×Nat)(σ:St): Bool:=Nat.ble fl.1 σ.bs.length&&Nat.ble fl.2 σ.rs.length
def dk(f:St→List Dir→(Ex→St→List Dir→Prop)→Prop): Nat→St→List Dir→(Ex→St→List Dir→Prop)→Prop
 | 0,_,_,_=>False
 | n+1,σ,d,K=>f σ d fun e σ' d'=>match e with
  | .normal=>dk f n σ' d' K
  | .exit id=>K (.exit id) σ' d'
  | .ret=>K .ret σ' d'
def XH(P:Program)(tt:List (Nat×TI))(H:Cx)(fl:Nat×Nat)(w0:World): Code→St→List Dir→(Ex→St→List Dir→Prop)→Prop
 | .skip,σ,d,K=>K .normal σ d
 | .region id ops dr,σ,d,K=>(match dr with
  | true=>AO P tt H w0 id ops σ d fun σ d=>K .normal σ d
  | false=>Kv P tt H w0 id ops ops.toList 0 σ d fun σ d=>K .normal σ d)
 | .seq a b,σ,d,K=>XH P tt H fl w0 a σ d fun e σ d=>match e with
  | .normal=>(match nQ d with
   | true=>J9 (It b) 99999 4 σ d fun σ d=>XH P tt H fl w0 b σ d K
   | false=>XH P tt H fl w0 b σ d K)
  | .exit id=>K (.exit id) σ d
  | .ret=>K .ret σ d
 | .cond c x y,σ,d,K=>JR σ c fun s=>match s with
  | .val (.bool v)=>(match d with
   | .br b::d=>v=b∧(match b with
    | true=>XH P tt H fl w0 x σ d K
    | false=>XH P tt H fl w0 y σ d K)
   | .both dx dy::_=>(v=true→XH P tt H fl w0 x σ dx K)∧(v=false→XH P tt H fl w0 y σ dy K)
   | d=>(match v with
    | true=>XH P tt H fl w0 x σ d K
    | false=>XH P tt H fl w0 y σ d K))
  | _=>False
 | .block id b,σ,d,K=>XH P tt H fl w0 b σ d fun e σ d=>match e with
  | .normal=>K .normal σ d
  | .exit i=>(match Nat.beq i id with
   | true=>K .normal σ d
   | false=>K (.exit i) σ d)
  | .ret=>K .ret σ d
 | .loop b,σ,d,K=>(match d with
  | .loop I C μ a0 nx bd::_=>aI σ σ (I a0) (C a0∧∀a,C a→ZQ (ow fl (VM σ (I a))) (XH P tt H fl w0 b (VM σ (I a)) (bd a) fun e σ' d'=>match e with
   | .normal=>(match d' with
    | .next k::_=>aI σ' σ (I (nx a k)) (C (nx a k)∧μ (nx a k)<μ a)
    | _=>False)
   | .exit id=>K (.exit id) σ' d'
   | .ret=>K .ret σ' d'))
  | .lop I C μ a0 nx bd::_=>aI σ σ (I a0) (C a0∧∀a,C a→ZQ (ow fl (VM σ (I a))) (XH P tt H fl w0 b (VM σ (I a)) (bd a) fun e σ' d'=>match e with
   | .normal=>(match d' with
    | .nxt u::_=>aI σ' σ (I (nx a u)) (C (nx a u)∧μ (nx a u)<μ a)
    | _=>False)
   | .exit id=>K (.exit id) σ' d'
   | .ret=>K .ret σ' d'))
  | .unr n::d'=>dk (fun σ d K=>XH P tt H fl w0 b σ d K) n σ d' K
  | _=>False)
 | .exit id,σ,d,K=>K (.exit id) σ d
 | .ret,σ,d,K=>K .ret σ d
 | .label _,σ,d,K=>K .normal σ d
 | _,_,_,_=>False
section
variable {P:Program} {tt:List (Nat×TI)} {w0:World}
theorem GP{σ τ:St}: ∀ {l:List (Nat×SV)} {p:Prop},be σ τ l p→p∧∀k s,Yv k l=some s→Yv k σ.ts=some s∧τ.lt s=true
 | [],p,h=>⟨h,fun _ _ h=>by cases h⟩
 | (j,u)::l,p,h=>by
  unfold be at h
  split at h
  ·rename_i y hy
   obtain⟨h1,h2⟩:=Qp h
   obtain⟨rfl,h3⟩:=C6 _ _ _ h2
   obtain⟨h4,h5⟩:=GP (l:=l) h3
   refine⟨h4,fun k s hk=>?_⟩
   unfold Yv at hk
   cases e:Nat.beq j k with
   | true =>
    rw[e]at hk
    obtain rfl:=Option.some.inj hk
    rw[← Lc e]
    exact⟨hy,h1⟩
   | false=>rw[e]at hk;exact h5 k s hk
  ·exact h.elim
theorem GF{τ:St}: ∀ {l m:List (Option (TypeId×List SV))} {p:Prop},jd τ l m p→p∧m.length≤l.length∧∀i t cs,Xk m i=some (t,cs)→Xk l i=some (t,cs)∧τ.ltL cs=true
 | l,[],p,h=>⟨(by cases l<;>exact h),L9 _,fun _ _ _ h=>by cases h⟩
 | [],_::_,p,h=>False.elim h
 | x::l,none::m,p,h=>by
  obtain⟨h1,h2,h3⟩:=GF (l:=l) (m:=m) h
  refine⟨h1,T7 h2,fun i t cs hi=>?_⟩
  cases i with
  | zero=>cases hi
  | succ i=>exact h3 i t cs hi
 | x::l,some q::m,p,h=>by
  obtain⟨k2,rfl,h4⟩:=Qp h
  obtain⟨h1,h2,h3⟩:=GF (l:=l) (m:=m) h4
  refine⟨h1,T7 h2,fun i t' cs' hi=>?_⟩
  cases i with
  | zero=>obtain rfl:=Option.some.inj hi;exact⟨rfl,k2⟩
  | succ i=>exact h3 i t' cs' hi
theorem Gs{τ:St}: ∀ {l m n:List (Option (TypeId×List SV))} {p:Prop},Iv τ l m n p→p∧(Ak m n).length≤l.length∧∀i t cs,Xk (Ak m n) i=some (t,cs)→Xk l i=some (t,cs)∧τ.ltL cs=true
 | l,m,[],p,h=>⟨(by unfold Iv at h;exact h),(by unfold Ak;exact L9 _),fun _ _ _ h=>by unfold Ak at h;cases h⟩
 | x::l,y::m,none::n,p,h=>by
  unfold Iv at h
  obtain⟨k2,rfl,h4⟩:=Qp h
  obtain⟨h1,h2,h3⟩:=Gs (l:=l) (m:=m) (n:=n) h4
  refine⟨h1,T7 h2,fun i t' cs' hi=>?_⟩
  cases i with
  | zero=>obtain rfl:x=some (t',cs'):=hi;exact⟨rfl,k2⟩
  | succ i=>exact h3 i t' cs' hi
 | x::l,y::m,some (t,[])::n,p,h=>by
  unfold Iv at h
  obtain⟨h1,h2,h3⟩:=Gs (l:=l) (m:=m) (n:=n) h
  refine⟨h1,T7 h2,fun i t' cs' hi=>?_⟩
  cases i with
  | zero=>cases hi
  | succ i=>exact h3 i t' cs' hi
 | x::l,y::m,some (t,c::cs)::n,p,h=>by
  unfold Iv at h
  split at h
  ·rename_i u ds
   obtain⟨hk,h⟩:=Qp h
   obtain⟨k1,k2⟩:=L6.1 hk
   obtain⟨e1,h4⟩:=Ju _ _ _ h
   have e2:=Lc k1
   obtain⟨h1,h2,h3⟩:=Gs (l:=l) (m:=m) (n:=n) h4
   refine⟨h1,T7 h2,fun i t' cs' hi=>?_⟩
   cases i with
   | zero =>
    have e:(t,c::cs)=(t',cs'):=Option.some.inj hi
    obtain⟨rfl,rfl⟩:=Prod.mk.inj e
    rw[e1,e2]
    exact⟨rfl,k2⟩
   | succ i=>exact h3 i t' cs' hi
  ·exact h.elim
 | [],_,_::_,p,h=>False.elim h
 | _::_,[],_::_,p,h=>False.elim h
theorem GK:∀ {l m:List (Option Res)} {p:Prop},Wb l m p→p∧m.length≤l.length∧∀i R,Xk m i=some R→∃R',Xk l i=some R'∧∀v S w,R'.φ v S w→R.φ v S w
 | l,[],p,h=>⟨(by cases l<;>exact h),L9 _,fun _ _ h=>by cases h⟩
 | [],_::_,p,h=>False.elim h
 | x::l,none::m,p,h=>by
  obtain⟨h1,h2,h3⟩:=GK (l:=l) (m:=m) h
  refine⟨h1,T7 h2,fun i R hi=>?_⟩
  cases i with
  | zero=>cases hi
  | succ i=>exact h3 i R hi
 | x::l,some R::m,p,h=>by
  unfold Wb at h
  split at h
  ·rename_i R'
   obtain⟨h1,h2,h3⟩:=GK (l:=l) (m:=m) h.2
   refine⟨h1,T7 h2,fun i R2 hi=>?_⟩
   cases i with
   | zero =>
    obtain rfl:=Option.some.inj hi
    exact⟨R',rfl,h.1⟩
   | succ i=>exact h3 i R2 hi
  ·exact h.elim
theorem P7{σ τ:St}(hn:Nat.beq σ.n τ.n=true)(ht:∀k s,Yv k τ.ts=some s→Yv k σ.ts=some s∧τ.lt s=true)(hb:∀i t cs,Xk τ.bs i=some (t,cs)→Xk σ.bs i=some (t,cs)∧τ.ltL cs=true)(rl:τ.rs.length≤σ.rs.length)(hr:∀i R,Xk τ.rs i=some R→∃R',Xk σ.rs i=some R'∧∀v S w,R'.φ v S w→R.φ v S w): ∀r a w,Sat w0 σ r a w→Sat w0 τ r a w:=by
 refine fun r a w hS=>⟨⟨hS.see.low,hS.see.size.trans (Lc hn),fun k s hk=>?_,fun i t cs hi=>?_,fun i R hi=>?_,fun i hi=>hS.see.one i (Lb hi rl)⟩,⟨fun i p hi=>?_,fun i j p q hi hj=>?_,fun i R hi=>?_,fun i j R R' hi hj=>?_,fun i j p R hi hj=>?_⟩,hS.defers⟩
 ·obtain⟨h1,h2⟩:=ht k s hk
  exact⟨(hS.see.ts k s h1).1,h2⟩
 ·obtain⟨h1,h2⟩:=hb i t cs hi
  exact⟨(hS.see.bs i t cs h1).1,h2⟩
 ·obtain⟨R',h1,h2⟩:=hr i R hi
  obtain⟨h3,h4⟩:=hS.see.rs i R' h1
  exact⟨h2 _ _ _ h3,h4⟩
 ·exact hS.sep.own i p (hb i p.1 p.2 hi).1
 ·exact hS.sep.inj i j p q (hb i p.1 p.2 hi).1 (hb j q.1 q.2 hj).1
 ·obtain⟨R',h1,_⟩:=hr i R hi
  exact hS.sep.ownS i R' h1
 ·obtain⟨_,h1,_⟩:=hr i R hi
  obtain⟨_,h2,_⟩:=hr j R' hj
  exact hS.sep.disj i j _ _ h1 h2
 ·obtain⟨_,h2,_⟩:=hr j R hj
  exact hS.sep.apart i j p _ (hb i p.1 p.2 hi).1 h2
theorem Ya{σ τ:St}{p:Prop}(h:Jk σ τ p): p∧∀r a w,Sat w0 σ r a w→Sat w0 τ r a w:=by
 obtain⟨hn,h⟩:=Qp h
 obtain⟨h,ht⟩:=GP h
 obtain⟨h,_,hb⟩:=GF h
 obtain⟨h,rl,hr⟩:=GK h
 exact⟨h,P7 hn ht hb rl hr⟩
theorem Gu{σ' σ τ:St}{p:Prop}(h:aI σ' σ τ p): p∧∀r a w,Sat w0 σ' r a w→Sat w0 (VM σ τ) r a w:=by
 obtain⟨hn,h⟩:=Qp h
 obtain⟨h,ht⟩:=GP h
 obtain⟨h,_,hb⟩:=Gs h
 obtain⟨h,rl,hr⟩:=GK h
 exact⟨h,P7 (τ:=VM σ τ) hn ht hb rl hr⟩
theorem B4{α:Type}{c:Code}{Q:Exit→Act→World→Prop}(J:α→Act→World→Prop)(μ:α→Nat)(round:∀x a w,J x a w→c.wp P (Exit.then (fun a' w'=>∃y,J y a' w'∧μ y<μ x) Q) a w)(x0:α){a:Act}{w:World}(h0:J x0 a w): (Code.loop c).wp P Q a w:=by
 intro b k cs
 have key:∀n x a w,μ x=n→J x a w→∃e a' w',Q e a' w'∧Arrives P (lone (b.at a (.code c::.inLoop c::k)) cs w) b k cs e a' w':=by
  intro n
  induction n using Nat.strongRecOn with
  | _ n ih =>
   intro x a w hn hI
   obtain⟨e,a₁,w₁,hq,harr⟩:=round x a w hI b (.inLoop c::k) cs
   cases e with
   | normal =>
    obtain⟨y,hI₁,hlt⟩:=hq
    obtain⟨e₂,a₂,w₂,hq₂,harr₂⟩:=ih (μ y) (hn▸hlt) y a₁ w₁ rfl hI₁
    exact⟨e₂,a₂,w₂,hq₂,.of_steps (Steps.trans harr (.one step_inLoop)) harr₂⟩
   | exit id=>exact⟨_,a₁,w₁,hq,.pass (x:=.inLoop c) rfl (fun _ _=>.inl (by simp)) harr⟩
   | goto l=>exact⟨_,a₁,w₁,hq,.pass (x:=.inLoop c) rfl (fun _ _=>.inl (by simp)) harr⟩
   | ret=>exact⟨_,a₁,w₁,hq,.pass (x:=.inLoop c) rfl (fun _ _=>.inl (by simp)) harr⟩
   | panic ch=>exact⟨_,a₁,w₁,hq,.pass (x:=.inLoop c) rfl (fun _ _=>.inl (by simp)) harr⟩
   | outgrown=>exact⟨_,a₁,w₁,hq,.pass (x:=.inLoop c) rfl (fun _ _=>.inl (by simp)) harr⟩
 obtain⟨e,a',w',hq,harr⟩:=key _ x0 a w rfl h0
 exact⟨e,a',w',hq,.of_steps (.one step_loop) harr⟩
structure Rules (P:Program) (V:Code→(Exit→Act→World→Prop)→Act→World→Prop):Prop where
 skip:∀ {Q:Exit→Act→World→Prop} {a:Act} {w:World},Q .normal a w→V .skip Q a w
 label:∀ {l:Nat} {Q:Exit→Act→World→Prop} {a:Act} {w:World},Q .normal a w→V (.label l) Q a w
 exit:∀ {id:Nat} {Q:Exit→Act→World→Prop} {a:Act} {w:World},Q (.exit id) a w→V (.exit id) Q a w
 ret:∀ {Q:Exit→Act→World→Prop} {a:Act} {w:World},Q .ret a w→V .ret Q a w
 rl:∀ {id:Nat} {ops:Array Oper} {Q:Exit→Act→World→Prop} {a:Act} {w:World},wpList P ops Q ops.toList a w→V (.region id ops false) Q a w
 rd:∀ {id:Nat} {ops:Array Oper} {Q:Exit→Act→World→Prop} {a:Act} {w:World},wpAny P .any ops Q ops.size (Array.replicate ops.size false) a { w with drawn:=w.drawn+1 }→V (.region id ops true) Q a w
 seq:∀ {x y:Code} {Q:Exit→Act→World→Prop} {a:Act} {w:World},V x (Exit.then (V y Q) Q) a w→V (.seq x y) Q a w
 ct:∀ {c:Operand} {x y:Code} {Q:Exit→Act→World→Prop} {a:Act} {w:World},a.eval c=.bool true→V x Q a w→V (.cond c x y) Q a w
 cf:∀ {c:Operand} {x y:Code} {Q:Exit→Act→World→Prop} {a:Act} {w:World},a.eval c=.bool false→V y Q a w→V (.cond c x y) Q a w
 block:∀ {id:Nat} {c:Code} {Q:Exit→Act→World→Prop} {a:Act} {w:World},V c (Exit.inBlock id Q) a w→V (.block id c) Q a w
 loop:∀ {α:Type} {c:Code} {Q:Exit→Act→World→Prop} (J:α→Act→World→Prop) (μ:α→Nat),(∀x a w,J x a w→V c (Exit.then (fun a' w'=>∃y,J y a' w'∧μ y<μ x) Q) a w)→∀(x0:α) {a:Act} {w:World},J x0 a w→V (.loop c) Q a w
theorem I7(hm:P.follows .mixedOrders=true): Rules P fun c Q a w=>c.wp P Q a w :=
 ⟨wp_skip,wp_label,wp_exit,wp_ret,wp_region_list,wp_region_any hm,wp_seq,wp_cond_true,wp_cond_false,wp_block,fun J μ h x0 _ _ h0=>B4 J μ h x0 h0⟩
def DT(Q:Exit→Act→World→Prop): Prop:=∀(d:Tmp) (v:Value) c a w,Q (.panic c) (a.put (some d) v) w→Q (.panic c) a w
def AgN(fl:Nat×Nat)(r r':Env): Prop:=(∀i,i<fl.1→r'.b i=r.b i)∧∀i,i<fl.2→r'.x i=r.x i
def FlOk(fl:Nat×Nat)(σ:St): Prop:=fl.1≤σ.bs.length∧fl.2≤σ.rs.length
theorem AgN.refl(fl:Nat×Nat)(r:Env): AgN fl r r:=⟨fun _ _=>rfl,fun _ _=>rfl⟩
theorem AgN.trans{fl:Nat×Nat}{r r' r'':Env}(h:AgN fl r r')(k:AgN fl r' r''): AgN fl r r'':=⟨fun i hi=>(k.1 i hi).trans (h.1 i hi),fun i hi=>(k.2 i hi).trans (h.2 i hi)⟩
theorem Ag.n{fl:Nat×Nat}{σ:St}{r r':Env}(h:Ag σ r r')(hf:FlOk fl σ): AgN fl r r':=⟨fun i hi=>h.1 i (Lb hi hf.1),fun i hi=>h.2 i (Lb hi hf.2)⟩
theorem FlOk.le{fl:Nat×Nat}{σ σ':St}(h:FlOk fl σ)(k:σ.le σ'): FlOk fl σ':=⟨L8 h.1 k.1,L8 h.2 k.2⟩
theorem Ww{fl:Nat×Nat}{σ:St}(h:ow fl σ=true): FlOk fl σ:=by
 obtain⟨h1,h2⟩:=L6.1 h
 exact⟨Lr h1,Lr h2⟩
def PanN(w0:World)(H:Cx)(fl:Nat×Nat)(r:Env)(Q:Exit→Act→World→Prop): Prop:=∀s σ' d' r' a' w',H.pan s σ' d'→Sat w0 σ' r' a' w'→FlOk fl σ'→AgN fl r r'→σ'.lt s=true→Q (.panic [{ v:=s.den r',recovered:=false }]) a' w'
theorem PanN.at{H:Cx}{fl:Nat×Nat}{σ:St}{r:Env}{Q:Exit→Act→World→Prop}(h:PanN w0 H fl r Q)(hf:FlOk fl σ): PanTo w0 H σ r Q:=fun s σ' d' r' a' w' hk hS hg hl hs=>h s σ' d' r' a' w' hk hS (hf.le hl) (hg.n hf) hs
theorem PanN.later{H:Cx}{fl:Nat×Nat}{r r':Env}{Q:Exit→Act→World→Prop}(h:PanN w0 H fl r Q)(hg:AgN fl r r'): PanN w0 H fl r' Q:=fun s σ' d' r2 a' w' hk hS hf hg2 hs=>h s σ' d' r2 a' w' hk hS hf (hg.trans hg2) hs
theorem VH{V:Code→(Exit→Act→World→Prop)→Act→World→Prop}(hV:Rules P V)(hT:YF P tt){H:Cx}(hH:HJ P w0 H.inl)(fl:Nat×Nat): ∀(c:Code) (σ:St) (d:List Dir) (K:Ex→St→List Dir→Prop),XH P tt H fl w0 c σ d K→FlOk fl σ→∀r a w,Sat w0 σ r a w→∀(Q:Exit→Act→World→Prop),DT Q→PanN w0 H fl r Q →
  (∀e σ' d' r' a' w',K e σ' d'→Sat w0 σ' r' a' w'→FlOk fl σ'→AgN fl r r'→Q e.to a' w')→V c Q a w:=by
 intro c
 induction c with
 | skip=>exact fun σ d K h hf r a w hS Q _ _ hK=>hV.skip (hK _ _ _ _ _ _ h hS hf (AgN.refl _ _))
 | region id ops dr =>
  intro σ d K h hf r a w hS Q hQ hP hK
  cases dr with
  | true=>exact hV.rd (NA hT hH (show AO P tt H w0 id ops σ d _ from h) r a w hS Q hQ (hP.at hf) fun σ' d' r' a' w' h1 hS' hg hl=>hK _ _ _ _ _ _ h1 hS' (hf.le hl) (hg.n hf))
  | false=>exact hV.rl (Vb hT hH ops.toList 0 σ d _ (show Kv P tt H w0 id ops ops.toList 0 σ d _ from h) r a w hS Q (hP.at hf) fun σ' d' r' a' w' h1 hS' hg hl=>hK _ _ _ _ _ _ h1 hS' (hf.le hl) (hg.n hf))
 | seq x y ihx ihy =>
  intro σ d K h hf r a w hS Q hQ hP hK
  refine hV.seq (ihx σ d _ h hf r a w hS _ (fun d v c a w hq=>hQ d v c a w hq) (fun s σ' d' r' a' w'=>hP s σ' d' r' a' w') fun e σ' d' r' a' w' hk hS' hf' hg=>?_)
  cases e with
  | normal =>
   dsimp only at hk
   split at hk
   ·obtain⟨σ1,d1,r1,k1,k2,k3,k4⟩:=Gt 4 hk r' a' w' hS'
    exact ihy _ _ K k1 (hf'.le k4) r1 a' w' k2 Q hQ (hP.later (hg.trans (k3.n hf'))) fun e σ3 d3 r3 a3 w3 hk3 hS3 hf3 hg3=>hK e σ3 d3 r3 a3 w3 hk3 hS3 hf3 (hg.trans ((k3.n hf').trans hg3))
   ·exact ihy σ' _ K hk hf' r' a' w' hS' Q hQ (hP.later hg) fun e σ3 d3 r3 a3 w3 hk3 hS3 hf3 hg3=>hK e σ3 d3 r3 a3 w3 hk3 hS3 hf3 (hg.trans hg3)
  | exit id=>exact hK _ _ _ _ _ _ hk hS' hf' hg
  | ret=>exact hK _ _ _ _ _ _ hk hS' hf' hg
 | cond c x y ihx ihy =>
  intro σ d K h hf r a w hS Q hQ hP hK
  obtain⟨s,h1,h⟩:=Qy (show JR σ c _ from h)
  split at h
  ·rename_i v
   have he:=(Qs hS.see h1).1
   split at h
   ·rename_i b d' _
    obtain⟨rfl,h⟩:=h
    cases v with
    | true=>exact hV.ct he (ihx σ d' K h hf r a w hS Q hQ hP hK)
    | false=>exact hV.cf he (ihy σ d' K h hf r a w hS Q hQ hP hK)
   ·rename_i dx dy _ _
    cases v with
    | true=>exact hV.ct he (ihx σ dx K (h.1 rfl) hf r a w hS Q hQ hP hK)
    | false=>exact hV.cf he (ihy σ dy K (h.2 rfl) hf r a w hS Q hQ hP hK)
   ·cases v with
    | true=>exact hV.ct he (ihx σ _ K h hf r a w hS Q hQ hP hK)
    | false=>exact hV.cf he (ihy σ _ K h hf r a w hS Q hQ hP hK)
  ·exact h.elim
 | block id b ih =>
  intro σ d K h hf r a w hS Q hQ hP hK
  refine hV.block (ih σ d _ h hf r a w hS _ (fun d v c a w hq=>hQ d v c a w hq) (fun s σ' d' r' a' w'=>hP s σ' d' r' a' w') fun e σ' d' r' a' w' hk hS' hf' hg=>?_)
  cases e with
  | normal=>exact hK .normal _ _ _ _ _ hk hS' hf' hg
  | exit i =>
   show(if i=id then Q .normal a' w' else Q (.exit i) a' w')
   dsimp only at hk
   cases e2:Nat.beq i id with
   | true=>rw[e2]at hk;rw[if_pos (Lc e2)];exact hK .normal _ _ _ _ _ hk hS' hf' hg
   | false=>rw[e2]at hk;rw[if_neg (Nat.ne_of_beq_eq_false e2)];exact hK (.exit i) _ _ _ _ _ hk hS' hf' hg
  | ret=>exact hK .ret _ _ _ _ _ hk hS' hf' hg
 | loop b ih =>
  intro σ d K h hf r a w hS Q hQ hP hK
  unfold XH at h
  split at h
  ·rename_i α I C μ a0 nx bd _
   obtain⟨⟨h1,h2⟩,h3⟩:=Gu (w0:=w0) h
   refine hV.loop (fun x a w=>C x∧∃r',Sat w0 (VM σ (I x)) r' a w∧AgN fl r r') μ (fun x a w hJ=>?_) a0 ⟨h1,r,h3 r a w hS,AgN.refl _ _⟩
   obtain⟨hc,r1,hS,hg1⟩:=hJ
   obtain⟨hfb,h2x⟩:=Qp (h2 x hc)
   refine ih (VM σ (I x)) (bd x) _ h2x (Ww hfb) r1 a w hS _ (fun d v c a w hq=>hQ d v c a w hq) (fun s σ' d' r' a' w' hk hS' hf' hg=>hP s σ' d' r' a' w' hk hS' hf' (hg1.trans hg)) fun e σ' d' r' a' w' hk hS' hf' hg=>?_
   cases e with
   | normal =>
    dsimp only at hk
    split at hk
    ·obtain⟨⟨k1,k2⟩,k3⟩:=Gu (w0:=w0) hk
     exact⟨_,⟨k1,r',k3 _ _ _ hS',hg1.trans hg⟩,k2⟩
    ·exact hk.elim
   | exit id=>exact hK _ _ _ _ _ _ hk hS' hf' (hg1.trans hg)
   | ret=>exact hK _ _ _ _ _ _ hk hS' hf' (hg1.trans hg)
  ·rename_i α I C μ a0 nx bd _
   obtain⟨⟨h1,h2⟩,h3⟩:=Gu (w0:=w0) h
   refine hV.loop (fun x a w=>C x∧∃r',Sat w0 (VM σ (I x)) r' a w∧AgN fl r r') μ (fun x a w hJ=>?_) a0 ⟨h1,r,h3 r a w hS,AgN.refl _ _⟩
   obtain⟨hc,r1,hS,hg1⟩:=hJ
   obtain⟨hfb,h2x⟩:=Qp (h2 x hc)
   refine ih (VM σ (I x)) (bd x) _ h2x (Ww hfb) r1 a w hS _ (fun d v c a w hq=>hQ d v c a w hq) (fun s σ' d' r' a' w' hk hS' hf' hg=>hP s σ' d' r' a' w' hk hS' hf' (hg1.trans hg)) fun e σ' d' r' a' w' hk hS' hf' hg=>?_
   cases e with
   | normal =>
    dsimp only at hk
    split at hk
    ·obtain⟨⟨k1,k2⟩,k3⟩:=Gu (w0:=w0) hk
     exact⟨_,⟨k1,r',k3 _ _ _ hS',hg1.trans hg⟩,k2⟩
    ·exact hk.elim
   | exit id=>exact hK _ _ _ _ _ _ hk hS' hf' (hg1.trans hg)
   | ret=>exact hK _ _ _ _ _ _ hk hS' hf' (hg1.trans hg)
  ·rename_i n d'
   refine hV.loop (fun m a w=>∃σ1 d1 r1,dk (fun σ d K=>XH P tt H fl w0 b σ d K) m σ1 d1 K∧Sat w0 σ1 r1 a w∧FlOk fl σ1∧AgN fl r r1) (fun m=>m) (fun m a w hJ=>?_) n ⟨σ,d',r,h,hS,hf,AgN.refl _ _⟩
   obtain⟨σ1,d1,r1,h1,hS1,hf1,hg1⟩:=hJ
   cases m with
   | zero=>exact False.elim h1
   | succ m =>
    refine ih σ1 d1 _ h1 hf1 r1 a w hS1 _ (fun d v c a w hq=>hQ d v c a w hq) (fun s σ' d' r' a' w' hk hS' hf' hg=>hP s σ' d' r' a' w' hk hS' hf' (hg1.trans hg)) fun e σ' d' r' a' w' hk hS' hf' hg=>?_
    cases e with
    | normal=>exact⟨m,⟨σ',d',r',hk,hS',hf',hg1.trans hg⟩,T8 m⟩
    | exit id=>exact hK _ _ _ _ _ _ hk hS' hf' (hg1.trans hg)
    | ret=>exact hK _ _ _ _ _ _ hk hS' hf' (hg1.trans hg)
  ·exact h.elim
 | exit id=>exact fun σ d K h hf r a w hS Q _ _ hK=>hV.exit (hK (.exit id) _ _ _ _ _ h hS hf (AgN.refl _ _))
 | ret=>exact fun σ d K h hf r a w hS Q _ _ hK=>hV.ret (hK .ret _ _ _ _ _ h hS hf (AgN.refl _ _))
 | label l=>exact fun σ d K h hf r a w hS Q _ _ hK=>hV.label (hK .normal _ _ _ _ _ h hS hf (AgN.refl _ _))
 | _=>intro σ d K h;exact False.elim h
theorem Po(hT:YF P tt)(hm:P.follows .mixedOrders=true){H:Cx}(hH:HJ P w0 H.inl)(fl:Nat×Nat)(c:Code)(σ:St)(d:List Dir)(K:Ex→St→List Dir→Prop)(h:XH P tt H fl w0 c σ d K)(hf:FlOk fl σ)(r:Env)(a:Act)(w:World)(hS:Sat w0 σ r a w)(Q:Exit→Act→World→Prop)(hQ:DT Q)(hP:PanN w0 H fl r Q)(hK:∀e σ' d' r' a' w',K e σ' d'→Sat w0 σ' r' a' w'→FlOk fl σ'→AgN fl r r'→Q e.to a' w'): c.wp P Q a w :=
 VH (I7 hm) hT hH fl c σ d K h hf r a w hS Q hQ hP hK
end
def pu(tt:List (Nat×TI))(σ:St)(t:TypeId)(s:SV)(K:SV→Prop): Prop:=match s with
 | .ptr b o=>JG (Xk σ.bs b) fun p=>AB tt t fun ti=>match ti.k.agg with
  | true=>ZQ (Nat.ble (o+ti.size) p.2.length) (K (.agg ((p.2.drop o).take ti.size)))
  | false=>JG (Ks p.2 o) K
 | _=>False
def Nx(tt:List (Nat×TI))(σ:St)(v:ResultVar)(K:SV→Prop): Prop:=match v with
 | .tmp t=>JR σ (.tmp t) K
 | .cell a t=>JR σ (.tmp a) fun s=>pu tt σ t s K
def Uy(tt:List (Nat×TI))(σ:St): List ResultVar→(List SV→Prop)→Prop
 | [],K=>K []
 | v::l,K=>Nx tt σ v fun s=>Uy tt σ l fun m=>K (s::m)
def jV(l:List SV)(K:SV→Prop): Prop:=match l with
 | [s]=>K s
 | l=>K (.tup l)
def JX(tt:List (Nat×TI))(rs:List ResultVar)(e:Ex)(σ:St)(K:SV→Prop): Prop:=match e with
 | .exit _=>False
 | _=>Uy tt σ rs fun l=>jV l K
def PY:List Value→Nat→List (Nat×SV)
 | [],_=>[]
 | v::l,k=>(k,.val v)::PY l (k+1)
def Mq:List SV→Nat→List (Nat×SV)
 | [],_=>[]
 | s::l,k=>(k,s)::Mq l (k+1)
def bG(P:Program)(tt:List (Nat×TI))(w0:World): Nat→oC
 | 0=>fun _ _ _ _ _ _=>False
 | n+1=>fun fn l σ d K Kp=>match fn.body with
  | some c=>ZQ (Nat.ble l.length fn.ntmps) (XH P tt ⟨bG P tt w0 n,Kp⟩ (σ.bs.length,σ.rs.length) w0 c ⟨fn.ntmps,Mq l 0,σ.bs,σ.rs⟩ d fun e σ' d'=>JX tt fn.results.toList e σ' fun s=>ZQ (σ'.lt s) (K s σ' d'))
  | none=>False
def KM(P:Program)(tt:List (Nat×TI))(w0:World): Cx:=⟨bG P tt w0 9,fun _ _ _=>False⟩
def MR(N:Nat)(args:List Value): St:=⟨N,PY args 0,[],[]⟩
def jO(tmps:Array Value): ResultVar→Sem Value
 | .tmp t=>pure (tmps.getD t undef)
 | .cell a t=>do loadVar t (← asAddr (tmps.getD a undef))
theorem OC(fn:Func)(tmps:Array Value): results fn tmps=(do
 let vs ← fn.results.mapM (jO tmps)
 pure (if h:vs.size=1 then vs[0]else .tuple vs)):=rfl
section
variable {P:Program} {tt:List (Nat×TI)} {w0:World} {σ:St}
theorem TZ(hT:YF P tt){v:ResultVar}{K:SV→Prop}(h:Nx tt σ v K): ∃s,K s∧∀r a w,Sat w0 σ r a w →
  (jO a.tmps v).run P w=.ok (s.den r) w:=by
 unfold Nx at h
 split at h
 ·rename_i t
  obtain⟨s,h1,h⟩:=Qy h
  exact⟨s,h,fun r a w hS=>by rw[← (Qs hS.see h1).1];rfl⟩
 ·rename_i x t
  obtain⟨s,h1,h⟩:=Qy h
  unfold pu at h
  split at h
  ·rename_i b o
   obtain⟨p,h2,h⟩:=QY h
   obtain⟨ti,h3,h⟩:=Xa hT h
   have hx:∀r a w,Sat w0 σ r a w→a.tmps.getD x undef=.pointer (some ⟨r.b b,o,none⟩):=fun r a w hS=>(Qs hS.see h1).1
   have hl:∀(r:Env) (w:World),(do loadVar t (← asAddr (.pointer (some ⟨r.b b,o,none⟩))):Sem Value).run P w=(Instr.loadAt t (.pointer (some ⟨r.b b,o,none⟩))).run P w:=fun r w=>rfl
   split at h
   ·rename_i ha
    obtain⟨hb,h⟩:=Qp h
    refine⟨_,h,fun r a w hS=>?_⟩
    show(do loadVar t (← asAddr (a.tmps.getD x undef)):Sem Value).run P w=_
    rw[hx r a w hS,hl]
    simp only[SV.den,AG]
    exact Ch h3 ha (hS.see.bs _ p.1 p.2 h2).1 (by rw[Z9];exact Lr hb)
   ·rename_i ha
    obtain⟨c,hc,h⟩:=QY h
    refine⟨_,h,fun r a w hS=>?_⟩
    show(do loadVar t (← asAddr (a.tmps.getD x undef)):Sem Value).run P w=_
    rw[hx r a w hS,hl]
    exact A9 h3 ha (hS.see.bs _ p.1 p.2 h2).1 (VY hc)
  ·exact h.elim
theorem Fk(hT:YF P tt): ∀ {l:List ResultVar} {K:List SV→Prop},Uy tt σ l K→∃m,K m∧∀r a w,Sat w0 σ r a w →
  (l.mapM (jO a.tmps)).run P w=.ok (QI r m) w
 | [],K,h=>⟨[],h,fun _ _ _ _=>rfl⟩
 | v::l,K,h=>by
  obtain⟨s,h,h1⟩:=TZ (w0:=w0) hT h
  obtain⟨m,h,h2⟩:=Fk hT (l:=l) h
  refine⟨s::m,h,fun r a w hS=>?_⟩
  rw[List.mapM_cons,Sem.run_bind,h1 r a w hS,Result.andThen_ok,Sem.run_bind,h2 r a w hS]
  rfl
theorem GE(hT:YF P tt){fn:Func}{rs:List ResultVar}(hr:fn.results=rs.toArray){e:Ex}{K:SV→Prop}(h:JX tt rs e σ K): (e=.normal∨e=.ret)∧∃s,K s∧∀r a w,Sat w0 σ r a w→(results fn a.tmps).run P w=.ok (s.den r) w:=by
 have key:Uy tt σ rs (fun l=>jV l K)→∃s,K s∧∀r a w,Sat w0 σ r a w→(results fn a.tmps).run P w=.ok (s.den r) w:=fun h=>by
  obtain⟨m,h,h1⟩:=Fk (w0:=w0) hT h
  have h2:∀r a w,Sat w0 σ r a w→(results fn a.tmps).run P w=.ok (if h:(QI r m).toArray.size=1 then(QI r m).toArray[0]else .tuple (QI r m).toArray) w:=fun r a w hS=>by
   rw[OC,hr,Array.mapM_eq_mapM_toList,Sem.run_bind,Sem.run_map,h1 r a w hS]
   rfl
  unfold jV at h
  split at h
  ·exact⟨_,h,fun r a w hS=>by rw[h2 r a w hS];rfl⟩
  ·rename_i hne
   refine⟨_,h,fun r a w hS=>?_⟩
   rw[h2 r a w hS,dif_neg ?_]
   ·rfl
   ·intro e
    have e2:m.length=1:=by rw[← Z9 r m];simpa using e
    obtain⟨s,rfl⟩:=List.length_eq_one_iff.1 e2
    exact hne s rfl
 unfold JX at h
 cases e with
 | exit id=>exact h.elim
 | normal=>exact⟨.inl rfl,key h⟩
 | ret=>exact⟨.inr rfl,key h⟩
theorem Fw{k:Nat}{s:SV}: ∀ {l:List Value} {j:Nat},Yv k (PY l j)=some s→∃i v,l[i]?=some v∧k=j+i∧s=.val v
 | [],_,h=>by cases h
 | v::l,j,h=>by
  simp only[PY,Yv]at h
  cases e:Nat.beq j k with
  | true =>
   rw[e]at h
   obtain rfl:=Option.some.inj h
   exact⟨0,v,rfl,(Lc e).symm,rfl⟩
  | false =>
   rw[e]at h
   obtain⟨i,u,h1,h2,h3⟩:=Fw (l:=l) h
   exact⟨i+1,u,by simpa using h1,by omega,h3⟩
theorem ic{N:Nat}{args:List Value}(hl:args.length≤N)(w:World): Sat w (MR N args) e0 { tmps:=args.toArray++Array.replicate (N-args.toArray.size) undef,defers:=[] } w:=by
 refine⟨⟨Below.refl _ _,?_,fun k s hk=>?_,fun i t cs hi=>?_,fun i R hi=>?_,fun i hi=>?_⟩,⟨fun i p hi=>?_,fun i j p q hi=>?_,fun i R hi=>?_,fun i j R R' hi=>?_,fun i j p R hi=>?_⟩,rfl⟩
 ·simp[MR];omega
 ·obtain⟨i,v,h1,rfl,rfl⟩:=Fw hk
  refine⟨?_,rfl⟩
  have h2:i<args.length:=(List.getElem?_eq_some_iff.1 h1).1
  rw[Ld,Array.getD_eq_getD_getElem?,Array.getElem?_append_left (by simpa using h2)]
  simp[h1,SV.den]
 ·cases hi
 ·cases hi
 ·exact absurd hi (Rc _)
 ·cases hi
 ·cases hi
 ·cases hi
 ·cases hi
 ·cases hi
theorem Es{k:Nat}{s:SV}: ∀ {l:List SV} {j:Nat},Yv k (Mq l j)=some s→∃i,l[i]?=some s∧k=j+i
 | [],_,h=>by cases h
 | v::l,j,h=>by
  simp only[Mq,Yv]at h
  cases e:Nat.beq j k with
  | true =>
   rw[e]at h
   obtain rfl:=Option.some.inj h
   exact⟨0,rfl,(Lc e).symm⟩
  | false =>
   rw[e]at h
   obtain⟨i,h1,h2⟩:=Es (l:=l) h
   exact⟨i+1,by simpa using h1,by omega⟩
theorem kT{σ:St}{r:Env}{w:World}{N:Nat}{l:List SV}(hl:l.length≤N)(hlt:σ.ltL l=true)(h:EY w0 σ r w): Sat w0 ⟨N,Mq l 0,σ.bs,σ.rs⟩ r { tmps:=(QI r l).toArray++Array.replicate (N-(QI r l).toArray.size) undef,defers:=[] } w:=by
 refine⟨⟨h.see.low,?_,fun k s hk=>?_,h.see.bs,h.see.rs,h.see.one⟩,⟨h.sep.own,h.sep.inj,h.sep.ownS,h.sep.disj,h.sep.apart⟩,rfl⟩
 ·simp[Z9];omega
 ·obtain⟨i,h1,rfl⟩:=Es hk
  refine⟨?_,okL_all.1 hlt s (List.mem_of_getElem? h1)⟩
  have h2:i<l.length:=(List.getElem?_eq_some_iff.1 h1).1
  rw[Ld,Array.getD_eq_getD_getElem?,Array.getElem?_append_left (by simpa [Z9]using h2)]
  simp[Xi,h1]
theorem E9(hT:YF P tt)(hm:P.follows .mixedOrders=true){H:Cx}(hH:HJ P w0 H.inl){fl:Nat×Nat}{f:FuncId}{fn:Func}{c:Code}(hf:P.funcs[f]?=some fn)(hb:fn.body=some c){args:Array Value}{σ:St}{r:Env}{w:World}{d:List Dir}{K:SV→St→List Dir→Prop}(h:XH P tt H fl w0 c σ d fun e σ' d'=>JX tt fn.results.toList e σ' fun s=>K s σ' d')(hfl:FlOk fl σ)(hS:Sat w0 σ r { tmps:=args++Array.replicate (fn.ntmps-args.size) undef,defers:=[] } w){R:Ending→World→Prop}(hR:∀s σ' d' r' a' w',K s σ' d'→Sat w0 σ' r' a' w'→FlOk fl σ'→AgN fl r r'→R (.returned (s.den r')) w')(hP:∀s σ' d' r' a' w',H.pan s σ' d'→Sat w0 σ' r' a' w'→FlOk fl σ'→AgN fl r r'→σ'.lt s=true→R (.panicked [{ v:=s.den r',recovered:=false }]) w'): Calls P f args w R:=by
 refine calls_of_wp hf hb ?_
 refine Po hT hm hH fl c _ d _ h hfl r _ w hS _ (fun d v ch a w hq=>?_) (fun s σ' d' r' a' w' hk hS' hf' hg hs=>⟨hS'.defers,hP s σ' d' r' a' w' hk hS' hf' hg hs⟩) fun e σ' d' r' a' w' hk hS' hf' hg=>?_
 ·exact⟨hq.1,hq.2⟩
 ·obtain⟨he,s,hK,hres⟩:=GE (w0:=w0) hT (rs:=fn.results.toList) rfl hk
  have hr:=hR s σ' d' r' a' w' hK hS' hf' hg
  rcases he with rfl|rfl
  ·exact⟨hS'.defers,_,hres _ _ _ hS',hr⟩
  ·exact⟨hS'.defers,_,hres _ _ _ hS',hr⟩
theorem Kk(hT:YF P tt)(hm:P.follows .mixedOrders=true): ∀n,HJ P w0 (bG P tt w0 n)
 | 0=>fun _ _ _ _ _ _ h=>False.elim h
 | n+1=>fun fn l σ d K Kp h f hf hlt r w hM R hR hP=>by
  unfold bG at h
  split at h
  ·rename_i c hb
   obtain⟨hl,h⟩:=Qp h
   refine E9 hT hm (H:=⟨bG P tt w0 n,Kp⟩) (Kk hT hm n) hf hb h ⟨L3 _,L3 _⟩ (kT (Lr hl) hlt hM) (fun s σ' d' r' a' w' hk hS' hf' hg=>?_) fun s σ' d' r' _ w' hk hS' hf' hg hs=>hP s σ' d' r' w' hk hS'.mem ⟨hg.1,hg.2⟩ ⟨hf'.1,hf'.2⟩ hs
   obtain⟨h1,h2⟩:=Qp hk
   exact hR s σ' d' r' w' h2 hS'.mem ⟨hg.1,hg.2⟩ ⟨hf'.1,hf'.2⟩ h1
  ·exact h.elim
theorem Ij(hT:YF P tt)(hm:P.follows .mixedOrders=true){f:FuncId}{fn:Func}{c:Code}(hf:P.funcs[f]?=some fn)(hb:fn.body=some c){args:List Value}(hl:Nat.ble args.length fn.ntmps=true){d:List Dir}{K:SV→St→Prop}(h:XH P tt (KM P tt w0) (0,0) w0 c (MR fn.ntmps args) d fun e σ _=>JX tt fn.results.toList e σ fun s=>K s σ):
  Calls P f args.toArray w0 fun e w'=>∃s σ r a,e=.returned (s.den r)∧K s σ∧Sat w0 σ r a w' :=
 E9 hT hm (H:=KM P tt w0) (Kk hT hm 9) hf hb (K:=fun s σ _=>K s σ) h ⟨L9 _,L9 _⟩ (ic (Lr hl) w0) (fun s σ' _ r' a' _ hk hS' _ _=>⟨s,σ',r',a',rfl,hk,hS'⟩) fun _ _ _ _ _ _ h=>False.elim h
theorem j4(hT:YF P tt)(hm:P.follows .mixedOrders=true){f:FuncId}{fn:Func}{c:Code}(he:Yf P f)(hf:P.funcs[f]?=some fn)(hb:fn.body=some c){args:List Value}(hl:Nat.ble args.length fn.ntmps=true){R:Value}{d:World→List Dir}(h:∀W,Below w0.heap.size w0 W→XH P tt (KM P tt W) (0,0) W c (MR fn.ntmps args) (d W) fun e σ _=>JX tt fn.results.toList e σ fun s=>ZQ s.plain (s.den e0=R)):
  RetAt P w0 f args.toArray R:=by
 refine⟨he,fun W hW=>(Ij (w0:=W) (K:=fun s σ=>ZQ s.plain (s.den e0=R)) hT hm hf hb hl (h W hW)).mono ?_⟩
 rintro e w' ⟨s,σ,r,a,rfl,hK,hS⟩
 obtain⟨h1,h2⟩:=Qp hK
 rw[J8 h1,h2]
 exact⟨rfl,hS.see.low⟩
def Am(P:Program)(tt:List (Nat×TI))(W:World)(fn:Func)(σ:St)(d:List Dir)(K:Ex→St→List Dir→Prop): Prop:=match fn.body with
 | some c=>XH P tt (KM P tt W) (0,0) W c σ d K
 | none=>False
theorem Qi(hT:YF P tt)(hm:P.follows .mixedOrders=true){f:FuncId}{fn:Func}(he:Yf P f)(hf:P.funcs[f]?=some fn){N:Nat}(hn:fn.ntmps=N){rs:Array ResultVar}(hr:fn.results=rs)(args:List Value)(hl:Nat.ble args.length N=true)(R:Value)(d:List Dir){T:World→Prop}(h:∀W,Below w0.heap.size w0 W→R=R→T W)(hk:∀W,T W=Am P tt W fn (MR N args) d fun e σ _=>JX tt rs.toList e σ fun s=>ZQ s.plain (s.den e0=R)):
  RetAt P w0 f args.toArray R:=by
 have key:∀W,Below w0.heap.size w0 W→Am P tt W fn (MR N args) d fun e σ _=>JX tt rs.toList e σ fun s=>ZQ s.plain (s.den e0=R):=fun W hW=>hk W▸h W hW rfl
 subst hn
 subst hr
 unfold Am at key
 cases hb:fn.body with
 | none =>
  rw[hb]at key
  exact(key w0 (Below.refl _ _)).elim
 | some c =>
  rw[hb]at key
  exact j4 hT hm he hf hb hl (d:=fun _=>d) key
theorem IB(hT:YF P tt)(hm:P.follows .mixedOrders=true){f:FuncId}{fn:Func}(hf:P.funcs[f]?=some fn){N:Nat}(hn:fn.ntmps=N){rs:Array ResultVar}(hr:fn.results=rs)(args:List Value)(hl:Nat.ble args.length N=true)(d:List Dir){T:Prop}{Z:Value→World→Prop}{E:SV→St→Prop}(h:T)(hk:T=Am P tt w0 fn (MR N args) d fun e σ _=>JX tt rs.toList e σ fun s=>E s σ)(hE:∀s σ,E s σ→∀r a w',Sat w0 σ r a w'→Z (s.den r) w'):
  Calls P f args.toArray w0 fun e w'=>∃v,e=.returned v∧Z v w'∧Below w0.heap.size w0 w':=by
 have key:=hk▸h
 subst hn
 subst hr
 unfold Am at key
 cases hb:fn.body with
 | none =>
  rw[hb]at key
  exact key.elim
 | some c =>
  rw[hb]at key
  refine(Ij hT hm hf hb hl (K:=E) key).mono ?_
  rintro e w' ⟨s,σ,r,a,rfl,hK,hS⟩
  exact⟨_,rfl,hE s σ hK r a w' hS,hS.see.low⟩
end
theorem ai{a b:Prop}(h:a)(k:b): a∧b:=⟨h,k⟩
abbrev pB(R R':Res): Prop:=∀(x:Value) (S:Nat→Prop) (w:World),R.φ x S w→R'.φ x S w
theorem Kl(R R':Res)(h:∀(x:Value) (S:Nat→Prop) (w:World),R.φ x S w→R'.φ x S w): pB R R':=h
abbrev EJ{β:Type}(R:Res)(v:β→Value)(R':β→Res): Prop:=∀(x:Value) (S:Nat→Prop) (w:World),R.φ x S w→∃y:β,x=v y∧(R' y).φ x S w
theorem Q4(b:Bool){A B:Prop}(f:b=true→A)(g:b=false→B): (b=true→A)∧(b=false→B):=⟨f,g⟩
theorem XC(b l:Bool){A B:Prop}(f:b=l→A)(g:b=(!l)→B): (b=l→A)∧(b=(!l)→B):=⟨f,g⟩
theorem eB(r b:Bool)(h:r=b): (.bool b:Value)=.bool r:=by rw[h]
theorem eI(r b:Int)(h:r=b): (.int .i64 b:Value)=.int .i64 r:=by rw[h]
abbrev cQ(n:Nat)(f:Nat→Bool)(k:Nat): Prop:=k≤n∧∀j,j<k→f j=false
def Gc(I:Nat→St)(n:Nat)(f:Nat→Bool)(D:Nat→List Dir): Dir:=.loop I (cQ n f) (fun k=>n-k) 0 (fun k _=>k+1) D
theorem c0(n:Nat)(f:Nat→Bool): cQ n f 0:=⟨L9 _,fun _ hj=>absurd hj (Rc _)⟩
theorem cS{n k:Nat}{f:Nat→Bool}(h:cQ n f k)(hk:k<n)(hf:f k=false): cQ n f (k+1):=⟨hk,fun j hj=>by
 rcases Nat.lt_or_eq_of_le (Nat.le_of_lt_succ hj)with h1|rfl
 ·exact h.2 j h1
 ·exact hf⟩
theorem VK{n k:Nat}(h:k<n): n-(k+1)<n-k:=by omega
def Vs(I:Nat×Hp→St)(n:Nat)(a:Nat×Hp)(D:Nat×Hp→List Dir): Dir:=.lop I (fun q=>q.1≤n) (fun q=>n-q.1) a (fun q u=>(q.1+1,u.headD (none,0))) D
theorem ZG{p0 p1 r:Prop}(x0:p0)(x1:p1)(h:r): p0∧p1∧r:=⟨x0,x1,h⟩
theorem Kr{p0 p1 p2 r:Prop}(x0:p0)(x1:p1)(x2:p2)(h:r): p0∧p1∧p2∧r:=⟨x0,x1,x2,h⟩
theorem Jj{p0 p1 p2 p3 r:Prop}(x0:p0)(x1:p1)(x2:p2)(x3:p3)(h:r): p0∧p1∧p2∧p3∧r:=⟨x0,x1,x2,x3,h⟩
theorem ZP{p0 p1 p2 p3 p4 r:Prop}(x0:p0)(x1:p1)(x2:p2)(x3:p3)(x4:p4)(h:r): p0∧p1∧p2∧p3∧p4∧r:=⟨x0,x1,x2,x3,x4,h⟩
theorem KW{p0 p1 p2 p3 p4 p5 r:Prop}(x0:p0)(x1:p1)(x2:p2)(x3:p3)(x4:p4)(x5:p5)(h:r): p0∧p1∧p2∧p3∧p4∧p5∧r:=⟨x0,x1,x2,x3,x4,x5,h⟩
theorem G4{p0 p1 p2 p3 p4 p5 p6 r:Prop}(x0:p0)(x1:p1)(x2:p2)(x3:p3)(x4:p4)(x5:p5)(x6:p6)(h:r): p0∧p1∧p2∧p3∧p4∧p5∧p6∧r:=⟨x0,x1,x2,x3,x4,x5,x6,h⟩
theorem Yz{p0 p1 p2 p3 p4 p5 p6 p7 r:Prop}(x0:p0)(x1:p1)(x2:p2)(x3:p3)(x4:p4)(x5:p5)(x6:p6)(x7:p7)(h:r): p0∧p1∧p2∧p3∧p4∧p5∧p6∧p7∧r:=⟨x0,x1,x2,x3,x4,x5,x6,x7,h⟩
abbrev OB:=Option (TypeId×List SV)
theorem qk(x:OB): x=x:=rfl
abbrev iV(n:Int): SV:=.val (.int .i64 n)
abbrev bV(b:Bool): SV:=.val (.bool b)
abbrev sV(s:ByteArray): SV:=.val (.string s)
abbrev lV(a:Option Addr)(n c:Nat): SV:=.val (.slice a n c)
theorem rc{P:Program}(w0:World){f:FuncId}{args:Array Value}{R:Value}(he:Yf P f)(h:∀W,Calls P f args W fun e w'=>e=.returned R∧Below W.heap.size W w'): RetAt P w0 f args R:=⟨he,fun W _=>h W⟩
theorem RetAt.at{P:Program}{w0:World}{f:FuncId}{args:Array Value}{R:Value}(h:RetAt P w0 f args R): Calls P f args w0 fun e w'=>e=.returned R∧Below w0.heap.size w0 w':=h.2 w0 (Below.refl _ _)
theorem pg{a b:Int}(h:a<b): decide (a<b)=true:=Rf h
theorem oW{a b:Int}(h:¬ a<b): decide (a<b)=false:=Lk h
theorem ma{a b:Int}(h:a=b): (a==b)=true:=by subst h;simp
theorem ay{a b:Int}(h:¬ a=b): (a==b)=false:=by simpa using h
theorem pd{a b:Int}(h:a=b): (a != b)=false:=by subst h;simp
theorem wn{p n:Int}(h:IntKind.i64.wrap (-p)=n): IntKind.i64.wrap (0-p)=n:=by rw[Int.zero_sub];exact h
theorem JP(P:Program)(w0:World)(ts:Array TypeId)(t:TypeId)(k:IntKind)(x y:Int): Qt P w0 (Builtin.max_ ts t #[.int k x,.int k y]) (.int k (max x y)):=fun W _=>by
 simp only[Builtin.max_,List.foldlM,Builtin.max2]
 rw[show(if x<y then y else x)=max x y by split<;>omega]
 rfl
theorem VB(P:Program)(w0:World)(ts:Array TypeId)(t:TypeId)(k:IntKind)(x y:Int): Qt P w0 (Builtin.min_ ts t #[.int k x,.int k y]) (.int k (min x y)):=fun W _=>by
 simp only[Builtin.min_,List.foldlM,Builtin.min2]
 rw[show(if y<x then y else x)=min x y by split<;>omega]
 rfl
def ab:Nat→Code→Option Code
 | 0,c=>some c
 | n+1,.seq _ b=>ab n b
 | _+1,_=>none
def KP(n:Nat)(fn:Func): Option Code:=match fn.body with
 | some c=>ab n c
 | none=>none
def iI(n:Nat)(d:List Dir)(p q:Prop): Prop:=match d with
 | .esc k::_=>(match Nat.beq k n with
  | true=>p
  | false=>q)
 | _=>q
theorem Fs{n:Nat}{d:List Dir}{p q:Prop}(h:iI n d p q): p∨q:=by
 unfold iI at h
 split at h
 ·split at h
  ·exact .inl h
  ·exact .inr h
 ·exact .inr h
def FP(P:Program)(tt:List (Nat×TI))(H:Cx)(fl:Nat×Nat)(w0:World)(E:Code→St→Prop): Code→St→List Dir→(Ex→St→List Dir→Prop)→Prop
 | .seq a b,σ,d,K=>XH P tt H fl w0 a σ d fun e σ d=>match e with
  | .normal=>(match nQ d with
   | true=>J9 (It b) 99999 4 σ d fun σ d=>iI (It b) d (E b σ) (FP P tt H fl w0 E b σ d K)
   | false=>iI (It b) d (E b σ) (FP P tt H fl w0 E b σ d K))
  | .exit id=>K (.exit id) σ d
  | .ret=>K .ret σ d
 | c,σ,d,K=>XH P tt H fl w0 c σ d K
section
variable {P:Program} {tt:List (Nat×TI)} {w0:World}
theorem bC{V:Code→(Exit→Act→World→Prop)→Act→World→Prop}(hV:Rules P V)(hT:YF P tt){H:Cx}(hH:HJ P w0 H.inl)(fl:Nat×Nat){E:Code→St→Prop}{Q:Exit→Act→World→Prop}(hQ:DT Q)(hE:∀b σ r a w,E b σ→Sat w0 σ r a w→V b Q a w): ∀(c:Code) (σ:St) (d:List Dir) (K:Ex→St→List Dir→Prop),FP P tt H fl w0 E c σ d K→FlOk fl σ→∀r a w,Sat w0 σ r a w→PanN w0 H fl r Q →
  (∀e σ' d' r' a' w',K e σ' d'→Sat w0 σ' r' a' w'→FlOk fl σ'→AgN fl r r'→Q e.to a' w')→V c Q a w:=by
 intro c
 induction c with
 | seq x y ihx ihy =>
  intro σ d K h hf r a w hS hP hK
  refine hV.seq (VH hV hT hH fl x σ d _ h hf r a w hS _ (fun d v c a w hq=>hQ d v c a w hq) (fun s σ' d' r' a' w'=>hP s σ' d' r' a' w') fun e σ' d' r' a' w' hk hS' hf' hg=>?_)
  cases e with
  | normal =>
   dsimp only at hk
   split at hk
   ·obtain⟨σ1,d1,r1,k1,k2,k3,k4⟩:=Gt 4 hk r' a' w' hS'
    rcases Fs k1 with h1|h1
    ·exact hE _ _ _ _ _ h1 k2
    ·exact ihy _ _ K h1 (hf'.le k4) r1 a' w' k2 (hP.later (hg.trans (k3.n hf'))) fun e σ3 d3 r3 a3 w3 hk3 hS3 hf3 hg3=>hK e σ3 d3 r3 a3 w3 hk3 hS3 hf3 (hg.trans ((k3.n hf').trans hg3))
   ·rcases Fs hk with h1|h1
    ·exact hE _ _ _ _ _ h1 hS'
    ·exact ihy σ' _ K h1 hf' r' a' w' hS' (hP.later hg) fun e σ3 d3 r3 a3 w3 hk3 hS3 hf3 hg3=>hK e σ3 d3 r3 a3 w3 hk3 hS3 hf3 (hg.trans hg3)
  | exit id=>exact hK _ _ _ _ _ _ hk hS' hf' hg
  | ret=>exact hK _ _ _ _ _ _ hk hS' hf' hg
 | _ =>
  intro σ d K h hf r a w hS hP hK
  exact VH hV hT hH fl _ σ d K h hf r a w hS Q hQ hP hK
theorem M2(hT:YF P tt)(hm:P.follows .mixedOrders=true){H:Cx}(hH:HJ P w0 H.inl)(fl:Nat×Nat){E:Code→St→Prop}{Q:Exit→Act→World→Prop}(hQ:DT Q)(hE:∀b σ r a w,E b σ→Sat w0 σ r a w→b.wp P Q a w)(c:Code)(σ:St)(d:List Dir)(K:Ex→St→List Dir→Prop)(h:FP P tt H fl w0 E c σ d K)(hf:FlOk fl σ)(r:Env)(a:Act)(w:World)(hS:Sat w0 σ r a w)(hP:PanN w0 H fl r Q)(hK:∀e σ' d' r' a' w',K e σ' d'→Sat w0 σ' r' a' w'→FlOk fl σ'→AgN fl r r'→Q e.to a' w'): c.wp P Q a w:=bC (I7 hm) hT hH fl hQ hE c σ d K h hf r a w hS hP hK
end
def Eu(Q:Exit→Act→World→Prop)(e:Exit)(a:Act)(w:World): Prop:=match e with
 | .panic _=>False
 | e=>Q e a w
theorem dh(Q:Exit→Act→World→Prop): DT (Eu Q):=fun _ _ _ _ _ h=>h
theorem bT{Q:Exit→Act→World→Prop}{e:Exit}{a:Act}{w:World}(h:Eu Q e a w): Q e a w:=by
 cases e<;>first|exact h|exact h.elim
