/- Laws beneath the statement. -/
import Derived.Test.YtoibldcmoapgbaaGreatDoorQP10
namespace Go.Proofs.YtoibldcmoapgbaaGreatDoor
open Go Go.RowKit
def e0:Env:=⟨λ_=>0,λ_=>undef,λ_ _=>False⟩
def SV.plain(s:SV): Bool:=s.ok (λ_=>false) (λ_=>false)
theorem JW{s:SV}(h:s.plain=true)(r:Env): s.den r=s.den e0:=Zc (λ_=>false) (λ_=>false) (λ_ h=>nomatch h) (λ_ h=>nomatch h) s h
theorem YU{l:List SV}(h:GA (λ_=>false) (λ_=>false) l=true)(r:Env): QJ r l=QJ e0 l:=Xt (λ_=>false) (λ_=>false) (λ_ h=>nomatch h) (λ_ h=>nomatch h) l h
def v1(σ:St)(x:b8)(K:z0->Prop): Prop:=K3 σ x λs=>bif s.plain then K (s.den e0)else False
def vO(σ:St)(x:Option b8)(K:Option z0->Prop): Prop:=match x with
 | none=>K none
 | some x=>v1 σ x λv=>K (some v)
def vL(σ:St)(l:List b8)(K:a8->Prop): Prop:=gJ σ l λm=>bif GA (λ_=>false) (λ_=>false) m then K (QJ e0 m)else False
def Qn(P:u7)(w0:y9)(m:Sem z0)(R:z0): Prop:=∀W,Below w0.heap.size w0 W->m.run P W=.ok R W
def qx(e:Sem z0->z0->Prop)(σ:St)(o:Oper)(R:z0): Prop:=match o.op with
 | .binOp op t x y _=>v1 σ x λa=>v1 σ y λb=>e (do eqGuard op t x y a b;binOp op t a b) R
 | .unOp op _ x=>v1 σ x λa=>e (Op.unary op a) R
 | .convert s d x=>v1 σ x λa=>e (Go.convert s d a) R
 | .index t x i=>v1 σ x λa=>v1 σ i λb=>e (Instr.index t a b) R
 | .indexAddr t x i=>v1 σ x λa=>v1 σ i λb=>e (Instr.indexAt t a b) R
 | .load t x=>v1 σ x λa=>e (Instr.loadAt t a) R
 | .slice t x g h j=>v1 σ x λa=>vO σ g λb=>vO σ h λc=>vO σ j λd=>e (Instr.sliceAt t a b c d) R
 | .makeInterface t x=>v1 σ x λa=>e (Instr.makeInterface t a) R
 | .field t x f=>v1 σ x λa=>e (Instr.field t a f) R
 | .fieldAddr t x f=>v1 σ x λa=>e (Instr.fieldAt t a f) R
 | .nilCheck x=>v1 σ x λa=>R=a/\(match a with | .pointer (some _)=>True | .func (.func _) _ _=>True | .slice _ _ _=>True|_=>False)
 | .typeAssert x t u ok=>v1 σ x λa=>e (Instr.typeAssert a t u ok) R
 | .call c=>match c.callee with
  | .builtin .min=>vL σ c.args.toList λl=>e (Builtin.min_ c.argTypes o.type l.toArray) R
  | .builtin .max=>vL σ c.args.toList λl=>e (Builtin.max_ c.argTypes o.type l.toArray) R
  | .builtin .cap=>vL σ c.args.toList λl=>e (Builtin.cap_ c.argTypes o.type l.toArray) R
  | .builtin .len=>vL σ c.args.toList λl=>e (Builtin.len_ c.argTypes o.type l.toArray) R
  | _=>False
 | _=>False
def zf(P:u7)(w0:y9)(σ:St)(o:Oper)(R:z0): Prop:=qx (Qn P w0) σ o R
def WX(σ:St): List Nat->(List Res->Prop)->Prop
 | [],K=>K []
 | i::l,K=>match Xe σ.rs i with
  | some ρ=>WX σ l λm=>K (ρ::m)
  | none=>False
def fW(W:y9): List Res->Prop->Prop
 | [],p=>p
 | ρ::l,p=>∀x S,ρ.φ x S W->fW W l p
def GC(P:u7)(w0:y9)(l:List Res)(m:Sem z0)(R:z0): Prop:=∀W,Below w0.heap.size w0 W->fW W l (m.run P W=.ok R W)
section
variable {P:Program} {w0:World} {σ:St} {K:Out->Prop}
theorem Xm(w0:y9){x:b8}{K:z0->Prop}(h:v1 σ x K): ∃v,K v/\∀r a w,See w0 σ r a w->a.eval x=v:=by
 obtain⟨s,b,h⟩:=QF h;obtain⟨c,h⟩:=Ys h;exact⟨_,h,λr a w d=>by rw[(Qy d b).1,JW c]⟩
theorem Gn(w0:y9){x:Option b8}{K:Option z0->Prop}(h:vO σ x K): ∃v,K v/\∀r a w,See w0 σ r a w->x.map a.eval=v:=by
 cases x with
 | none=>exact⟨none,h,λ_ _ _ _=>rfl⟩
 | some x =>
  obtain⟨v,b,c⟩:=Xm w0 (show v1 σ x (λv=>K (some v))from h);exact⟨_,b,λr a w d=>by rw[Tj,c r a w d]⟩
theorem Du(w0:y9){l:List b8}{K:a8->Prop}(h:vL σ l K): ∃v,K v/\∀r a w,See w0 σ r a w->l.map a.eval=v:=by
 obtain⟨m,h,b⟩:=Z5 w0 h;obtain⟨c,h⟩:=Ys h;exact⟨_,h,λr a w d=>by rw[(b r a w d).1,YU c]⟩
theorem dB{n:Sem z0->z0->Prop}(d:∀m R,n m R->∀r a w,See w0 σ r a w->m.run P w=.ok R w){o:Oper}{R:z0}(h:qx n σ o R): ∀r a w,See w0 σ r a w->(execOp a.eval o).run P w=.ok (.value R) w:=by
 have g:∀ {op:Op},o.op=op->∀k,execOp k o=execOp k { o with op:=op }:=λe k=>by rw[<- e]
 unfold qx at h;split at h
 case h_1 e =>
  obtain⟨_,h,f⟩:=Xm w0 h;obtain⟨_,h,i⟩:=Xm w0 h;intro r a w b;rw[g e];refine XI ?_
  rw[f r a w b,i r a w b];exact d _ _ h r a w b
 case h_2 e =>
  obtain⟨_,h,f⟩:=Xm w0 h;intro r a w b;rw[g e];refine XI ?_
  rw[f r a w b];exact d _ _ h r a w b
 case h_3 e =>
  obtain⟨_,h,f⟩:=Xm w0 h;intro r a w b;rw[g e];refine XI ?_
  rw[f r a w b];exact d _ _ h r a w b
 case h_4 e =>
  obtain⟨_,h,f⟩:=Xm w0 h;obtain⟨_,h,i⟩:=Xm w0 h;intro r a w b;rw[g e];refine XI ?_
  rw[f r a w b,i r a w b];exact d _ _ h r a w b
 case h_5 e =>
  obtain⟨_,h,f⟩:=Xm w0 h;obtain⟨_,h,i⟩:=Xm w0 h;intro r a w b;rw[g e];refine XI ?_
  rw[f r a w b,i r a w b];exact d _ _ h r a w b
 case h_6 e =>
  obtain⟨_,h,f⟩:=Xm w0 h;intro r a w b;rw[g e];refine XI ?_
  rw[f r a w b];exact d _ _ h r a w b
 case h_7 e =>
  obtain⟨_,h,f⟩:=Xm w0 h;obtain⟨_,h,i⟩:=Gn w0 h;obtain⟨_,h,p⟩:=Gn w0 h;obtain⟨_,h,q⟩:=Gn w0 h;intro r a w b;rw[g e];refine XI ?_
  rw[f r a w b,i r a w b,p r a w b,q r a w b];exact d _ _ h r a w b
 case h_8 e =>
  obtain⟨_,h,f⟩:=Xm w0 h;intro r a w b;rw[g e];refine XI ?_
  rw[f r a w b];exact d _ _ h r a w b
 case h_9 e =>
  obtain⟨_,h,f⟩:=Xm w0 h;intro r a w b;rw[g e];refine XI ?_
  rw[f r a w b];exact d _ _ h r a w b
 case h_10 e =>
  obtain⟨_,h,f⟩:=Xm w0 h;intro r a w b;rw[g e];refine XI ?_
  rw[f r a w b];exact d _ _ h r a w b
 case h_11 e =>
  obtain⟨v,⟨rfl,h⟩,f⟩:=Xm w0 h;intro r a w b;rw[g e];unfold execOp;simp only[f r a w b];split at h
  ·rfl
  ·rfl
  ·rfl
  ·exact h.elim
 case h_12 e =>
  obtain⟨_,h,f⟩:=Xm w0 h;intro r a w b;rw[g e];refine XI ?_
  rw[f r a w b];exact d _ _ h r a w b
 case h_13 c e =>
  split at h
  case h_1 j =>
   obtain⟨l,h,f⟩:=Du w0 h;intro r a w b;rw[g e];unfold execOp
   simp[resolve,j,invoke,builtin,JB _ _ _ (f r a w b),d _ _ h r a w b]
  case h_2 j =>
   obtain⟨l,h,f⟩:=Du w0 h;intro r a w b;rw[g e];unfold execOp
   simp[resolve,j,invoke,builtin,JB _ _ _ (f r a w b),d _ _ h r a w b]
  case h_3 j =>
   obtain⟨l,h,f⟩:=Du w0 h;intro r a w b;rw[g e];unfold execOp
   simp[resolve,j,invoke,builtin,JB _ _ _ (f r a w b),d _ _ h r a w b]
  case h_4 j =>
   obtain⟨l,h,f⟩:=Du w0 h;intro r a w b;rw[g e];unfold execOp
   simp[resolve,j,invoke,builtin,JB _ _ _ (f r a w b),d _ _ h r a w b]
  case h_5=>exact h.elim
 case h_14=>exact h.elim
theorem qy{o:Oper}{R:z0}(h:zf P w0 σ o R): ∀r a w,See w0 σ r a w->(execOp a.eval o).run P w=.ok (.value R) w :=
 dB (λ_ _ h _ _ w b=>h w b.low) h
theorem GT(w0:y9):∀ {is:List Nat} {K:List Res->Prop},WX σ is K->∃l,K l/\∀r a w p,See w0 σ r a w->fW w l p->p
 | [],_,h=>⟨[],h,λ_ _ _ _ _ h=>h⟩
 | i::is,K,h=>by
  unfold WX at h;split at h
  ·rename_i ρ e;obtain⟨l,c,d⟩:=GT _ (is:=is) h;exact⟨ρ::l,c,λr a w p b f=>d r a w p b (f _ _ (b.rs i ρ e).1)⟩
  ·exact h.elim
end
def XB(P:u7)(f:FuncId): Prop:=∀(args:b7) (w:y9),(callFunc f args).run P w=.ok (.enter f args) w
def RetAt(P:u7)(w0:y9)(f:FuncId)(args:b7)(R:z0): Prop:=XB P f/\∀W,Below w0.heap.size w0 W->b9 P f args W R
def AQ(P:u7)(w0:y9)(l:List Res)(f:FuncId)(args:b7)(R:z0): Prop:=XB P f/\∀W,Below w0.heap.size w0 W->fW W l (b9 P f args W R)
def Y8(i:Nat): List Nat->Bool
 | []=>false
 | j::l=>Nat.beq i j||Y8 i l
theorem memB_mem{i:Nat}: ∀ {l:List Nat},Y8 i l=true↔i∈l
 | []=>by simp[Y8]
 | j::l=>by
  rw[Ll,<- memB_mem (l:=l)];show(Nat.beq i j||Y8 i l)=true↔_;rw[Uu];exact⟨λh=>h.imp Le id,λh=>h.imp (λe=>by subst e;exact Nat.beq_refl i) id⟩
def Wr(b:Bool)(p:Prop): Prop:=match b with
 | true=>p
 | false=>False
theorem Vz{b:Bool}{p:Prop}(h:Wr b p): b=true/\p:=by cases b<;>first|exact⟨rfl,h⟩|exact False.elim h
mutual
def SV.refs:SV->List Nat->List Nat
 | .val _,l=>l
 | .ptr b _,l=>bif Y8 b l then l else b::l
 | .sli b _ _ _,l=>bif Y8 b l then l else b::l
 | .clo _ m n,l=>ZK n (ZK m l)
 | .agg m,l=>ZK m l
 | .tup m,l=>ZK m l
 | .han _,l=>l
def ZK:List SV->List Nat->List Nat
 | [],l=>l
 | s::m,l=>ZK m (s.refs l)
end
def Pe(σ:St)(W:y9): List Nat->(Nat->Nat)->((Nat->Nat)->Prop)->Prop
 | [],β,K=>K β
 | b::l,β,K=>match Xe σ.bs b with
  | some (t,cs)=>bif GA (λ_=>false) (λ_=>false) cs then ∀g,Bx W g t (QJ e0 cs).toArray->Pe σ W l (Y9 β b g) K else False
  | none=>False
def I3(β:Nat->Nat): Env:=⟨β,λ_=>undef,λ_ _=>False⟩
def CallOk(P:u7)(w0:y9)(σ:St)(f:FuncId)(args:List SV)(R:SV): Prop:=XB P f/\∀W,Below w0.heap.size w0 W->Pe σ W (ZK args []) (λ_=>0) λβ =>
 Wr (GA (λb=>Y8 b (ZK args [])) (λ_=>false) args&&R.ok (λb=>Y8 b (ZK args [])) (λ_=>false)) (Calls P f (QJ (I3 β) args).toArray W λe a=>e=.returned (R.den (I3 β))/\Below W.heap.size W a)
theorem Vw{σ:St}{w0:y9}{r:Env}{a:Act}{W:y9}(i:See w0 σ r a W): ∀ {l:List Nat} {β:Nat->Nat} {K:(Nat->Nat)->Prop},Pe σ W l β K->∃f,K f/\(∀b,b∈l->f b=r.b b)/\∀b,b ∉ l->f b=β b
 | [],β,K,h=>⟨β,h,λ_ h=>(nomatch h),λ_ _=>rfl⟩
 | c::l,β,K,h=>by
  unfold Pe at h;split at h
  ·rename_i t cs e;obtain⟨k,h⟩:=Ys h;have d:=(i.bs c t cs e).1;rw[YU k]at d;obtain⟨f,m,n,j⟩:=Vw i (h _ d);refine⟨f,m,λb d=>?_,λb d=>?_⟩
   ·by_cases g:b∈l
    ·exact n b g
    ·rcases Ll.1 d with rfl|d
     ·rw[j b g];exact Xp _ _ _
     ·exact absurd d g
   ·have o:=j b λp=>d (Sr _ p)
    rw[o];exact XV _ _ λe=>d (by rw[e];simp)
  ·exact h.elim
theorem CallOk.use{P:u7}{w0:y9}{σ:St}{f:FuncId}{args:List SV}{R:SV}(h:CallOk P w0 σ f args R){r:Env}{a:Act}{W:y9}(d:See w0 σ r a W): Calls P f (QJ r args).toArray W λe j=>e=.returned (R.den r)/\Below W.heap.size W j:=by
 obtain⟨β,k,g,_⟩:=Vw d (h.2 W d.low);obtain⟨l,i⟩:=Vz k;obtain⟨m,n⟩:=L6.1 l;have o:QJ (I3 β) args=QJ r args:=Xt (λb=>Y8 b (ZK args [])) (λ_=>false) (λb c=>g b (memB_mem.1 c)) (λ_ h=>nomatch h) args m;have p:R.den (I3 β)=R.den r:=Zc (λb=>Y8 b (ZK args [])) (λ_=>false) (λb c=>g b (memB_mem.1 c)) (λ_ h=>nomatch h) R n;rw[o,p]at i;exact i
def nn(P:u7)(w0:y9)(σ:St)(f:FuncId)(args:List SV)(R:SV)(ρ:Res): Prop:=XB P f/\∀r a W,See w0 σ r a W->Calls P f (QJ r args).toArray W λe c=>∃x S,e=.returned (R.den (r.add' σ ⟨0,x,S⟩))/\ρ.φ x S c/\(∀b,S b->W.heap.size<=b/\b<c.heap.size)/\Below W.heap.size W c
def JC(σ:St)(c:Call)(K:FuncId->List SV->Prop): Prop:=match c.callee with
 | .value f=>K3 σ f λs=>match s with
  | .clo (.func g) l m=>gJ σ c.args.toList λn=>K g (l++n++m)
  | .val (.func (.func g) l m)=>gJ σ c.args.toList λn=>K g (l.toList.map SV.val++n++m.toList.map SV.val)
  | _=>False
 | _=>False
def NewIn{β:Type}(P:u7)(w0:y9)(l:List Res)(f:FuncId)(args:b7)(val:β->z0)(R:β->Res): Prop:=XB P f/\∀W,Below w0.heap.size w0 W->fW W l (Calls P f args W λe a=>∃y x S,e=.returned (val y)/\(R y).φ x S a/\(∀b,S b->W.heap.size<=b/\b<a.heap.size)/\Below W.heap.size W a)
def Mi{β:Type}(val:β->z0)(R:β->Res): Res where
 φ x S w:=x.oneCell'=true/\∃y a,x=val y/\(R y).φ a S w
 one _ _ _ h:=h.1
 loc x S w w' h hφ:=by
  obtain⟨b,y,a,c,d⟩:=hφ;exact⟨b,y,a,c,(R y).loc a S w w' h d⟩
def Wi(v:z0): Env:=⟨λ_=>0,λ_=>v,λ_ _=>False⟩
theorem IT{β:Type}{val:β->z0}{R a:β->Res}(h:∀y x b S w,b.oneCell'=true->(R y).φ x S w->(a y).φ b S w): ∀x S w,(Mi val R).φ x S w->∃y,x=val y/\(a y).φ x S w:=λx S w c=>by
 obtain⟨d,y,e,f,g⟩:=(show _/\_ from c)
 exact⟨y,f,h y e x S w d g⟩
def VG(b:Builtin)(ts:Array u6)(t:u6)(l:a8): Sem z0:=match b with
 | .append=>Builtin.append_ ts t l.toArray
 | .clear=>Builtin.clear_ ts t l.toArray
 | .copy=>Builtin.copy_ ts t l.toArray
 | _=>stuck ""
def O6{β:Type}(P:u7)(W:y9)(val:β->z0)(R:β->Res)(m:Sem z0): Prop:=∃y x S a,m.run P W=.ok (val y) a/\Below W.heap.size W a/\(R y).φ x S a/\∀b,S b->W.heap.size<=b/\b<a.heap.size
def NewB{β:Type}(P:u7)(w0:y9)(σ:St)(l:List SV)(m:a8->Sem z0)(val:β->z0)(R:β->Res): Prop:=∀W,Below w0.heap.size w0 W->Pe σ W (ZK l []) (λ_=>0) λa =>
 Wr (GA (λb=>Y8 b (ZK l [])) (λ_=>false) l) (O6 P W val R (m (QJ (I3 a) l)))
theorem NewB.use{β:Type}{P:u7}{w0:y9}{σ:St}{l:List SV}{m:a8->Sem z0}{val:β->z0}{R:β->Res}(h:NewB P w0 σ l m val R){r:Env}{a:Act}{w:y9}(c:See w0 σ r a w): O6 P w val R (m (QJ r l)):=by
 obtain⟨e,f,g,_⟩:=Vw c (h w c.low);obtain⟨i,d⟩:=Vz f;have j:QJ (I3 e) l=QJ r l:=Xt (λb=>Y8 b (ZK l [])) (λ_=>false) (λb k=>g b (memB_mem.1 k)) (λ_ h=>nomatch h) l i;rw[j]at d;exact d
def MC(β:Nat->Nat)(ξ:Nat->z0): Env:=⟨β,ξ,λ_ _=>False⟩
def jl(σ:St)(W:y9): List Nat->(Nat->z0)->((Nat->z0)->Prop)->Prop
 | [],ξ,K=>K ξ
 | i::l,ξ,K=>match Xe σ.rs i with
  | some ρ=>∀x S,ρ.φ x S W->jl σ W l (Y9 ξ i x) K
  | none=>False
theorem C5{σ:St}{w0:y9}{r:Env}{a:Act}{W:y9}(j:See w0 σ r a W): ∀ {l:List Nat} {ξ:Nat->z0} {K:(Nat->z0)->Prop},jl σ W l ξ K->∃f,K f/\(∀i,i∈l->f i=r.x i)/\∀i,i ∉ l->f i=ξ i
 | [],ξ,K,h=>⟨ξ,h,λ_ h=>(nomatch h),λ_ _=>rfl⟩
 | c::l,ξ,K,h=>by
  unfold jl at h;split at h
  ·rename_i ρ e;obtain⟨f,m,n,k⟩:=C5 j (h _ _ (j.rs c ρ e).1);refine⟨f,m,λb d=>?_,λb d=>?_⟩
   ·by_cases g:b∈l
    ·exact n b g
    ·rcases Ll.1 d with rfl|d
     ·rw[k b g];exact Xp _ _ _
     ·exact absurd d g
   ·have o:=k b λp=>d (Sr _ p)
    rw[o];exact XV _ _ λe=>d (by rw[e];simp)
  ·exact h.elim
def RetH(P:u7)(w0:y9)(σ:St)(a:List Nat)(f:FuncId)(args:List SV)(R:z0): Prop:=XB P f/\∀W,Below w0.heap.size w0 W->Pe σ W (ZK args []) (λ_=>0) λβ=>jl σ W a (λ_=>undef) λξ =>
 Wr (GA (λb=>Y8 b (ZK args [])) (λi=>Y8 i a) args) (Calls P f (QJ (MC β ξ) args).toArray W λe c=>e=.returned R/\Below W.heap.size W c)
theorem RetH.use{P:u7}{w0:y9}{σ:St}{d:List Nat}{f:FuncId}{args:List SV}{R:z0}(h:RetH P w0 σ d f args R){r:Env}{a:Act}{W:y9}(c:See w0 σ r a W): Calls P f (QJ r args).toArray W λe j=>e=.returned R/\Below W.heap.size W j:=by
 obtain⟨β,k,l,_⟩:=Vw c (h.2 W c.low);obtain⟨ξ,m,n,_⟩:=C5 c k;obtain⟨o,g⟩:=Vz m;have p:QJ (MC β ξ) args=QJ r args:=Xt (λb=>Y8 b (ZK args [])) (λi=>Y8 i d) (λb q=>l b (memB_mem.1 q)) (λi s=>n i (memB_mem.1 s)) args o;rw[p]at g;exact g
def NewH{β:Type}(P:u7)(w0:y9)(σ:St)(c:List Nat)(f:FuncId)(args:List SV)(val:β->z0)(R:β->Res): Prop:=XB P f/\∀W,Below w0.heap.size w0 W->Pe σ W (ZK args []) (λ_=>0) λd=>jl σ W c (λ_=>undef) λξ =>
 Wr (GA (λb=>Y8 b (ZK args [])) (λi=>Y8 i c) args) (Calls P f (QJ (MC d ξ) args).toArray W λe a=>∃y x S,e=.returned (val y)/\(R y).φ x S a/\(∀b,S b->W.heap.size<=b/\b<a.heap.size)/\Below W.heap.size W a)
theorem NewH.use{β:Type}{P:u7}{w0:y9}{σ:St}{g:List Nat}{f:FuncId}{args:List SV}{val:β->z0}{R:β->Res}(h:NewH P w0 σ g f args val R){r:Env}{a:Act}{W:y9}(c:See w0 σ r a W): Calls P f (QJ r args).toArray W λe d=>∃y x S,e=.returned (val y)/\(R y).φ x S d/\(∀b,S b->W.heap.size<=b/\b<d.heap.size)/\Below W.heap.size W d:=by
 obtain⟨k,l,m,_⟩:=Vw c (h.2 W c.low);obtain⟨ξ,n,o,_⟩:=C5 c l;obtain⟨p,j⟩:=Vz n;have q:QJ (MC k ξ) args=QJ r args:=Xt (λb=>Y8 b (ZK args [])) (λi=>Y8 i g) (λb s=>m b (memB_mem.1 s)) (λi t=>o i (memB_mem.1 t)) args p;rw[q]at j;exact j
def tj{β:Type}(P:u7)(w0:y9)(f:FuncId)(args:b7)(val:β->z0)(blk:β->Nat)(t:u6)(cs:b7)(R:β->Res): Prop:=XB P f/\∀W,Below w0.heap.size w0 W->Calls P f args W λe a=>∃y x S,e=.returned (val y)/\Bx a (blk y) t cs/\W.heap.size<=blk y/\(R y).φ x S a/\(∀b,S b->W.heap.size<=b/\b<a.heap.size)/\¬ S (blk y)/\Below W.heap.size W a
inductive DOp:Type 1 where
 | eq (R:SV)
 | set (R:Value)
 | ret (R:SV)
 | new (R:SV) (ρ:Res)
 | hook (out:Out)
 | pk (b:Bool)
 | byt (l:List UInt8)
 | rd (is:List Nat) (R:Value)
 | retr (is:List Nat) (R:Value)
 | nw {β:Type} (R:SV) (is:List Nat) (val:β->Value) (ρ:β->Res)
 | nb {β:Type} (R:SV) (val:β->Value) (ρ:β->Res)
 | nwb {β:Type} (R:SV) (t:TypeId) (cs:List SV) (val:β->Value) (blk:β->Nat) (ρ:β->Res)
 | rth (is:List Nat) (R:Value)
 | nwc {β:Type} (is:List Nat) (R:SV) (val:β->Value) (ρ:β->Res)
def Z7(b:Bool)(p:Prop): Prop:=match b with
 | true=>p
 | false=>False
theorem Qp{b:Bool}{p:Prop}(h:Z7 b p): b=true/\p:=by cases b<;>first|exact⟨rfl,h⟩|exact False.elim h
def dz(s R:SV)(p:Prop): Prop:=match s with
 | .val (.int k a)=>(match R with
  | .val (.int c b)=>Z7 (bM k c) (a=b/\p)
  | _=>False)
 | .val (.bool a)=>(match R with
  | .val (.bool b)=>a=b/\p
  | _=>False)
 | .val a=>(match R with
  | .val b=>a=b/\p
  | _=>False)
 | _=>False
theorem IE{s R:SV}{p:Prop}(h:dz s R p): p/\∃a,s=.val a/\R=.val a:=by
 unfold dz at h;split at h
 ·split at h
  ·obtain⟨b,c,d⟩:=Qp h;clear h;obtain rfl:=Ib b;subst c;have h:=d;exact⟨h,_,rfl,rfl⟩
  ·exact h.elim
 ·split at h
  ·obtain⟨rfl,h⟩:=h;exact⟨h,_,rfl,rfl⟩
  ·exact h.elim
 ·split at h
  ·obtain⟨rfl,h⟩:=h;exact⟨h,_,rfl,rfl⟩
  ·exact h.elim
 ·exact h.elim
def UM(v:z0)(c:UInt8)(p:Prop): Prop:=match v with
 | .int .u8 z=>z=(c.toNat:Int)/\p
 | _=>False
def NH:List SV->List UInt8->Prop->Prop
 | [],[],p=>p
 | .val v::m,c::l,p=>UM v c (NH m l p)
 | _,_,_=>False
theorem DP(r:Env): ∀ {m:List SV} {l:List UInt8} {p:Prop},NH m l p->p/\m.length=l.length/\∀(j:Nat) (a:j<l.length),(QJ r m)[j]?=some (.int .u8 (l[j].toNat:Int))
 | [],[],_,h=>⟨h,rfl,λj a=>absurd a (R6 _)⟩
 | [],_::_,_,h=>False.elim h
 | .val v::m,[],_,h=>False.elim h
 | .val v::m,c::l,p,h=>by
  have b:UM v c (NH m l p):=h;unfold UM at b;split at b
  ·obtain⟨rfl,d⟩:=b;obtain⟨e,f,g⟩:=DP r d;refine⟨e,Ly Nat.succ f,λj a=>?_⟩;cases j with
   | zero=>rfl
   | succ j=>exact g j (Nat.lt_of_succ_lt_succ a)
  ·exact b.elim
 | .ptr _ _::_,[],_,h=>False.elim h
 | .ptr _ _::_,_::_,_,h=>False.elim h
 | .sli _ _ _ _::_,[],_,h=>False.elim h
 | .sli _ _ _ _::_,_::_,_,h=>False.elim h
 | .clo _ _ _::_,[],_,h=>False.elim h
 | .clo _ _ _::_,_::_,_,h=>False.elim h
 | .agg _::_,[],_,h=>False.elim h
 | .agg _::_,_::_,_,h=>False.elim h
 | .tup _::_,[],_,h=>False.elim h
 | .tup _::_,_::_,_,h=>False.elim h
 | .han _::_,[],_,h=>False.elim h
 | .han _::_,_::_,_,h=>False.elim h
def xA(tt:List (Nat×TI))(a b:u6)(p:Prop): Prop:=Fj tt a λc=>Fj tt b λd=>match c.k with
 | .slice e _ _=>(match d.k with
  | .str=>Fj tt e λf=>(match f.k with
   | .int .u8=>p
   | _=>False)
  | _=>False)
 | _=>False
theorem er{tt:List (Nat×TI)}{P:u7}(c:YF P tt){a b:u6}{p:Prop}(h:xA tt a b p): p/\∃e,P.underlying a=some (.slice e)/\P.underlying e=some (.int .u8)/\P.underlying b=some .string:=by
 obtain⟨l,g,h⟩:=Xz c h;obtain⟨m,i,h⟩:=Xz c h;split at h
 ·rename_i e n o j;split at h
  ·rename_i d;obtain⟨q,k,h⟩:=Xz c h;split at h
   ·rename_i f;exact⟨h,e,(K0 g j).1,mj k f,mn i d⟩
   ·exact h.elim
  ·exact h.elim
 ·exact h.elim
def Qaf(tt:List (Nat×TI))(σ:St)(a c:u6)(x:b8)(l:List UInt8)(p:Prop): Prop:=xA tt a c (K3 σ x λs=>match s with
 | .sli b o n _=>ZV (Xe σ.bs b) λq=>Z7 (Nat.beq n l.length) (NH ((q.2.drop o).take n) l p)
 | _=>False)
def opD(P:u7)(tt:List (Nat×TI))(w0:y9)(σ:St)(o:Oper)(x:DOp)(K:Out->Prop): Prop:=match x with
 | .eq R=>yC tt σ o.op λout=>dz out.s R (K ⟨R,out.b,out.r⟩)
 | .set R=>zf P w0 σ o R/\K (one (.val R))
 | .ret R=>(match o.op with
  | .call c=>JC σ c λf l=>bif GA (λ_=>false) (λ_=>false) l&&R.plain then RetAt P w0 f (QJ e0 l).toArray (R.den e0)/\K (one R)else CallOk P w0 σ f l R/\K (one R)
  | _=>False)
 | .new R ρ=>(match o.op with
  | .call c=>JC σ c λf l=>nn P w0 σ f l R ρ/\K ⟨R,none,some ρ⟩
  | _=>False)
 | .hook out=>gQ P w0 o σ (λu=>u=out)/\K out
 | .pk b=>(match o.op with
  | .pick c x y=>K3 σ c λs=>match s with
   | .val (.bool v)=>v=b/\(match b with
    | true=>K3 σ x λs=>K (one s)
    | false=>K3 σ y λs=>K (one s))
   | _=>False
  | _=>False)
 | .byt l=>(match o.op with
  | .convert d e x=>Qaf tt σ d e x l (K (one (.val (.string ⟨l.toArray⟩))))
  | _=>False)
 | .rd a R=>WX σ a λm=>qx (GC P w0 m) σ o R/\K (one (.val R))
 | .nw R a val ρ=>(match o.op with
  | .call c=>JC σ c λf l=>Z7 (GA (λ_=>false) (λ_=>false) l&&R.ok (λ_=>false) (λi=>Nat.beq i σ.rs.length)) (WX σ a λm=>NewIn P w0 m f (QJ e0 l).toArray (λy=>R.den (Wi (val y))) ρ/\(∀y,(val y).oneCell'=true)/\K ⟨R,none,some (Mi val ρ)⟩)
  | _=>False)
 | .nb R val ρ=>(match o.op with
  | .call c=>(match c.callee with
   | .builtin b=>gJ σ c.args.toList λl=>Z7 (R.ok (λ_=>false) (λi=>Nat.beq i σ.rs.length)) (NewB P w0 σ l (VG b c.argTypes o.type) (λy=>R.den (Wi (val y))) ρ/\(∀y,(val y).oneCell'=true)/\K ⟨R,none,some (Mi val ρ)⟩)
   | _=>False)
  | _=>False)
 | .nwb R t cs val blk ρ=>(match o.op with
  | .call c=>JC σ c λf l=>Z7 (GA (λ_=>false) (λ_=>false) l&&(R.ok (λb=>Nat.beq b σ.bs.length) (λi=>Nat.beq i σ.rs.length)&&GA (λ_=>false) (λ_=>false) cs)) (tj P w0 f (QJ e0 l).toArray (λy=>R.den (MC (λ_=>blk y) (λ_=>val y))) blk t (QJ e0 cs).toArray ρ/\(∀y,(val y).oneCell'=true)/\K ⟨R,some (t,cs),some (Mi val ρ)⟩)
  | _=>False)
 | .rth a R=>(match o.op with
  | .call c=>JC σ c λf l=>RetH P w0 σ a f l R/\K (one (.val R))
  | _=>False)
 | .nwc a R val ρ=>(match o.op with
  | .call c=>JC σ c λf l=>Z7 (R.ok (λ_=>false) (λi=>Nat.beq i σ.rs.length)) (NewH P w0 σ a f l (λy=>R.den (Wi (val y))) ρ/\(∀y,(val y).oneCell'=true)/\K ⟨R,none,some (Mi val ρ)⟩)
  | _=>False)
 | .retr a R=>(match o.op with
  | .call c=>JC σ c λf l=>Z7 (GA (λ_=>false) (λ_=>false) l) (WX σ a λm=>AQ P w0 m f (QJ e0 l).toArray R/\K (one (.val R)))
  | _=>False)
section
variable {P:Program} {tt:List (Nat×TI)} {w0:World} {σ:St} {K:Out->Prop}
theorem Yp(P:u7)(w0:y9){c:Call}{K:FuncId->List SV->Prop}(h:JC σ c K): ∃f l,K f l/\σ.ltL l=σ.ltL l/\∀(o:Oper),o.op=.call c->XB P f->∀r a w,See w0 σ r a w->(execOp a.eval o).run P w=.ok (.enter f (QJ r l).toArray) w:=by
 unfold JC at h;split at h
 ·rename_i f p;obtain⟨s,q,h⟩:=QF h;split at h
  ·rename_i g l m;obtain⟨n,h,d⟩:=Z5 w0 h;refine⟨g,_,h,rfl,λo e i r a w b=>?_⟩;have j:=(Qy b q).1;unfold execOp;rw[e];simp only[resolve,p,j,SV.den,Deferred.ofValue,p0,Sem.run_pure,p7,invoke];rw[JB _ _ _ (d r a w b).1];have k:(QJ r l).toArray++(QJ r n).toArray++(QJ r m).toArray=(QJ r (l++n++m)).toArray:=by simp[XE]
   rw[k,i]
  ·rename_i g l m;obtain⟨n,h,d⟩:=Z5 w0 h;refine⟨g,_,h,rfl,λo e i r a w b=>?_⟩;have j:=(Qy b q).1;unfold execOp;rw[e];simp only[resolve,p,j,SV.den,Deferred.ofValue,p0,Sem.run_pure,p7,invoke];rw[JB _ _ _ (d r a w b).1];have k:l++(QJ r n).toArray++m=(QJ r (l.toList.map SV.val++n++m.toList.map SV.val)).toArray:=by
    have t:∀x:b7,(QJ r (x.toList.map SV.val))=x.toList:=λx=>DR r x.toList
    rw[XE r (_++_++_),Th,Th,<- XE,<- XE,<- XE,t,t];simp
   rw[k,i]
  ·exact h.elim
 ·exact h.elim
theorem WU{o:Oper}{f:FuncId}{l:List SV}{R:SV}(h:K (one R))(hs:σ.lt R=true)(g:∀r a w,See w0 σ r a w->(execOp a.eval o).run P w=.ok (.enter f (QJ r l).toArray) w)(i:∀r a W,See w0 σ r a W->Calls P f (QJ r l).toArray W λe b=>e=.returned (R.den r)/\Below W.heap.size W b): UA P w0 o σ K :=
 ⟨_,h,λr a w c Q next j=>by
  unfold Oper.wp;rw[g r a w c];show Calls P f _ w _;refine(i r a w c).mono ?_
  rintro e b ⟨rfl,k⟩;have d:=j _ Gh.no b rfl k (by exact⟨rfl,(λ_ _ h=>nomatch h),(λ_ h=>nomatch h),(λ_ _ h=>nomatch h)⟩);rw[show(one R).s=R from rfl,NP hs]at d;exact d⟩
theorem vf(hT:YF P tt)(H:∀out,K out->σ.fits out=true){o:Oper}{x:DOp}(h:opD P tt w0 σ o x K): UA P w0 o σ K:=by
 unfold opD at h;split at h
 ·rename_i R;obtain⟨out,F,z⟩:=WN (w0:=w0) hT (K:=λout=>dz out.s R (K ⟨R,out.b,out.r⟩)) (λout k=>by
   obtain⟨F,a,e1,rfl⟩:=IE k;have z:=H _ F;rw[<- e1]at z;exact z) h
  obtain⟨I,a,e1,rfl⟩:=IE F;refine⟨_,I,λr A w d Q next p=>z r A w d Q next ?_⟩;rintro u γ B rfl C U;have h4:=p _ γ B rfl C ⟨U.one,U.b,U.r,U.apart⟩;rw[e1];exact h4
 ·exact YV H _ h.2 λr a w d=>qy h.1 r a w d
 ·rename_i R;split at h
  ·rename_i c k;obtain⟨f,l,h,_,D⟩:=Yp P w0 h;cases J:GA (λ_=>false) (λ_=>false) l&&R.plain with
   | true =>
    rw[J]at h;obtain⟨⟨L,E⟩,h⟩:=h;obtain⟨X,M⟩:=L6.1 J;refine WU h (bW H h) (D o k L) λr a W d=>?_
    rw[YU X,JW M];exact E W d.low
   | false =>
    rw[J]at h;obtain⟨E,h⟩:=h;exact WU h (bW H h) (D o k E.1) λr a W d=>E.use d
  ·exact h.elim
 ·rename_i R ρ;split at h
  ·rename_i c k;obtain⟨f,l,h,_,D⟩:=Yp P w0 h;obtain⟨⟨L,E⟩,h⟩:=h;refine⟨_,h,λr a w d Q next p=>?_⟩;unfold Oper.wp;rw[D o k L r a w d];show Calls P f _ w _;refine(E r a w d).mono ?_
   rintro e B ⟨x,S,rfl,G,N,C⟩;exact p _ ⟨0,x,S⟩ B rfl C ⟨ρ.one x S B G,(λ_ _ h=>nomatch h),(λR' h=>by obtain rfl:=hW h;exact⟨G,N⟩),(λ_ _ h=>nomatch h)⟩
  ·exact h.elim
 ·exact⟨_,h.2,h.1⟩
 ·split at h
  ·rename_i b c x y e;obtain⟨s,F,h⟩:=QF h;have hx:∀Y,execOp Y o=execOp Y { o with op:=.pick c x y }:=λY=>by rw[<- e]
   split at h
   ·rename_i v;obtain⟨hv,h⟩:=h;subst hv;cases v with
    | true =>
     obtain⟨u,z,h⟩:=QF h;refine YV H _ h λr A w d=>?_
     rw[hx,<- (Qy d z).1];have I:=(Qy d F).1;unfold execOp;simp only[I,SV.den,asBool];rfl
    | false =>
     obtain⟨u,z,h⟩:=QF h;refine YV H _ h λr A w d=>?_
     rw[hx,<- (Qy d z).1];have I:=(Qy d F).1;unfold execOp;simp only[I,SV.den,asBool];rfl
   ·exact h.elim
  ·exact h.elim
 ·rename_i l;split at h
  ·rename_i ad ae x e;obtain⟨h,ag,al,ao,aw⟩:=er hT h;obtain⟨s,F,h⟩:=QF h;split at h
   ·rename_i b off n c;obtain⟨q,z,h⟩:=QH h;obtain⟨p,h⟩:=Qp h;have p:=Le p;have O:=(DP e0 h).1;refine YV H _ O λr A w d=>?_
    obtain⟨_,bk,aB⟩:=DP r h;have hx:∀Y,execOp Y o=execOp Y { o with op:=.convert ad ae x }:=λY=>by rw[<- e]
    have hv:=(Qy d F).1;have C:=(d.bs b q.1 q.2 z).1;have V:=run_convert_bytes_back (P:=P) w ad ae ag ⟨r.b b,off,none⟩ c l al ao aw (λj hj=>by
     rw[Yc,C.cel];have I:=aB j hj;rw[Fs]at I;rw[o4 x3,List.getElem?_drop]at I;simpa using I)
    rw[hx];rw[<- p]at V;unfold execOp;simp only[hv,SV.den,p0,V];rfl
   ·exact h.elim
  ·exact h.elim
 ·obtain⟨l,h,hl⟩:=GT w0 h;exact YV H _ h.2 λr a w d=>dB (λ_ _ h r a w d=>hl r a w _ d (h w d.low)) h.1 r a w d
 ·rename_i β R is val ρ;split at h
  ·rename_i c k;obtain⟨f,l,h,_,D⟩:=Yp P w0 h;obtain⟨J,h⟩:=Qp h;obtain⟨X,M⟩:=L6.1 J;obtain⟨m,⟨⟨L,E⟩,g,h⟩,U⟩:=GT w0 h;refine⟨_,h,λr a w d Q next p=>?_⟩;unfold Oper.wp;rw[D o k L r a w d,YU X];show Calls P f _ w _;refine(U r a w _ d (E w d.low)).mono ?_
   rintro e B ⟨y,Z,S,rfl,G,N,C⟩;have e2:R.den (Wi (val y))=R.den (r.add' σ ⟨0,val y,S⟩):=Zc (λ_=>false) (λi=>Nat.beq i σ.rs.length) (λ_ h=>nomatch h) (λi T=>by rw[Le T];exact(Xp _ _ _).symm) R M;dsimp only;rw[e2];exact p _ ⟨0,val y,S⟩ B rfl C ⟨g y,(λ_ _ h=>nomatch h),(λR' h=>by obtain rfl:=hW h;exact⟨⟨g y,y,Z,rfl,G⟩,N⟩),(λ_ _ h=>nomatch h)⟩
  ·exact h.elim
 ·rename_i β R val ρ;split at h
  ·rename_i c k;split at h
   ·rename_i b E;obtain⟨l,h,F⟩:=Z5 w0 h;obtain⟨M,h,g,O⟩:=Qp h;refine⟨_,O,λr a w d Q next p=>?_⟩;obtain⟨y,Z,S,B,z,C,G,N⟩:=h.use d;have h5:(execOp a.eval o).run P w=.ok (.value (R.den (Wi (val y)))) B:=by
     rw[show execOp a.eval o=execOp a.eval { o with op:=.call c } by rw[<- k]];unfold execOp;unfold VG at z;split at z;all_goals first|(simp[resolve,E,invoke,builtin,JB _ _ _ (F r a w d).1,z];done)|(cases z;done)
    have e2:R.den (Wi (val y))=R.den (r.add' σ ⟨0,val y,S⟩):=Zc (λ_=>false) (λi=>Nat.beq i σ.rs.length) (λ_ h=>nomatch h) (λi T=>by rw[Le T];exact(Xp _ _ _).symm) R M;unfold Oper.wp;rw[h5,e2];exact p _ ⟨0,val y,S⟩ B rfl C ⟨g y,(λ_ _ h=>nomatch h),(λR' h=>by obtain rfl:=hW h;exact⟨⟨g y,y,Z,rfl,G⟩,N⟩),(λ_ _ h=>nomatch h)⟩
   ·exact h.elim
  ·exact h.elim
 ·rename_i β R t cs val blk ρ;split at h
  ·rename_i c k;obtain⟨f,l,h,_,D⟩:=Yp P w0 h;obtain⟨J,⟨L,E⟩,g,O⟩:=Qp h;obtain⟨X,J⟩:=L6.1 J;obtain⟨M,p3⟩:=L6.1 J;refine⟨_,O,λr a w d Q next p=>?_⟩;unfold Oper.wp;rw[D o k L r a w d,YU X];show Calls P f _ w _;refine(E w d.low).mono ?_
   rintro e B ⟨y,Z,S,rfl,hB,bd,G,N,bi,C⟩;have e2:R.den (MC (λ_=>blk y) (λ_=>val y))=R.den (r.add' σ ⟨blk y,val y,S⟩):=Zc (λb=>Nat.beq b σ.bs.length) (λi=>Nat.beq i σ.rs.length) (λi T=>by rw[Le T];exact(Xp _ _ _).symm) (λi T=>by rw[Le T];exact(Xp _ _ _).symm) R M;dsimp only;rw[e2];exact p _ ⟨blk y,val y,S⟩ B rfl C ⟨g y,(λt' bl h=>by obtain⟨rfl,rfl⟩:=Prod.mk.inj (hW h);exact⟨by rw[YU p3];exact hB,bd⟩),(λR' h=>by obtain rfl:=hW h;exact⟨⟨g y,y,Z,rfl,G⟩,N⟩),(λ_ _ _ _=>bi)⟩
  ·exact h.elim
 ·rename_i is R;split at h
  ·rename_i c k;obtain⟨f,l,⟨h,O⟩,_,D⟩:=Yp P w0 h;refine⟨_,O,λr a w d Q next p=>?_⟩;unfold Oper.wp;rw[D o k h.1 r a w d];show Calls P f _ w _;refine(h.use d).mono ?_
   rintro e B ⟨rfl,C⟩;exact p _ Gh.no B rfl C ⟨rfl,(λ_ _ h=>nomatch h),(λ_ h=>nomatch h),(λ_ _ h=>nomatch h)⟩
  ·exact h.elim
 ·rename_i β is R val ρ;split at h
  ·rename_i c k;obtain⟨f,l,h,_,D⟩:=Yp P w0 h;obtain⟨M,h,g,O⟩:=Qp h;refine⟨_,O,λr a w d Q next p=>?_⟩;unfold Oper.wp;rw[D o k h.1 r a w d];show Calls P f _ w _;refine(h.use d).mono ?_
   rintro e B ⟨y,Z,S,rfl,G,N,C⟩;have e2:R.den (Wi (val y))=R.den (r.add' σ ⟨0,val y,S⟩):=Zc (λ_=>false) (λi=>Nat.beq i σ.rs.length) (λ_ h=>nomatch h) (λi T=>by rw[Le T];exact(Xp _ _ _).symm) R M;dsimp only;rw[e2];exact p _ ⟨0,val y,S⟩ B rfl C ⟨g y,(λ_ _ h=>nomatch h),(λR' h=>by obtain rfl:=hW h;exact⟨⟨g y,y,Z,rfl,G⟩,N⟩),(λ_ _ h=>nomatch h)⟩
  ·exact h.elim
 ·rename_i is R;split at h
  ·rename_i c k;obtain⟨f,l,h,_,D⟩:=Yp P w0 h;obtain⟨X,h⟩:=Qp h;obtain⟨m,⟨⟨L,E⟩,h⟩,U⟩:=GT w0 h;refine WU h (bW H h) (D o k L) λr a W d=>?_
   rw[YU X];exact U r a W _ d (E W d.low)
  ·exact h.elim
end
open Go Go.RowKit
abbrev Hp:Type:=u5×Nat
def Ag(σ:St)(r a:Env): Prop:=(∀i,i<σ.bs.length->a.b i=r.b i)/\∀i,i<σ.rs.length->a.x i=r.x i
def St.le(σ σ':St): Prop:=σ.bs.length<=σ'.bs.length/\σ.rs.length<=σ'.rs.length
def leB(σ a:St): Bool:=Nat.ble σ.bs.length a.bs.length&&Nat.ble σ.rs.length a.rs.length
structure Trn (S:Nat->Prop) (w w':World):Prop where
 os:w'.os=w.os
 tape:w'.tape=w.tape
 output:w'.output=w.output
 size:w.heap.size<=w'.heap.size
 block:∀k,k<w.heap.size->¬ S k->w'.heap[k]?=w.heap[k]?
theorem Trn.of_grown{S:Nat->Prop}{w a:y9}{row:Option Nat}(h:w.grownBy a row)(b:∀k,row=some k->S k): Trn S w a :=
 ⟨h.os,h.tape,h.output,h.size,λk c d=>h.block k c λe=>d (b k e.symm)⟩
theorem Trn.refl(S:Nat->Prop)(w:y9): Trn S w w:=⟨rfl,rfl,rfl,L8 _,λ_ _ _=>rfl⟩
theorem Trn.trans{S:Nat->Prop}{a b c:y9}(h:Trn S a b)(k:Trn S b c): Trn S a c :=
 ⟨k.os.trans h.os,k.tape.trans h.tape,k.output.trans h.output,L9 h.size k.size,λi d e=>(k.block i (Lb d h.size) e).trans (h.block i d e)⟩
theorem Trn.setCell{S:Nat->Prop}{w:y9}{p:Addr}(a:S p.block)(u:z0): Trn S w (w.setCell p u) :=
 ⟨rfl,rfl,rfl,by simp[World.setCell],λk _ b=>S5 w p u k λe=>b (e▸a)⟩
def Xw(i:Nat)(R:Res)(σ:St): St:={ σ with rs:=VV σ.rs i R }
def Kz(R:Res)(σ:St): St:={ σ with rs:=Vr σ.rs (some R) }
def QaK(e:u6)(k:Nat)(v:z0)(n:Nat)(j:a8): Res where
 φ x S w:=x.oneCell'=true/\w.ownsRow 0 e k v n j/\∀b,S b↔v.ownBlock=some b
 one _ _ _ h:=h.1
 loc x S w w' h hφ:=by
  obtain⟨l,d,f⟩:=hφ;refine⟨l,⟨d.1,?_⟩,f⟩;rcases d.2 with m|⟨g,cap,c,i,o,p,a⟩
  ·exact .inl m
  ·exact .inr ⟨g,cap,c,i,o,(h g ((f g).2 (by rw[i];rfl))).trans p,a⟩
def Qc{α:Type}(e:u6)(k:Nat)(c:α->a8)(l:List α)(A:u5)(a:Nat): Res:=QaK e k (.slice A l.length a) l.length (l.flatMap c)
theorem ZF{α β:Type}{e:u6}{k:Nat}{c:α->a8}{b:β->a8}{l:List α}{a:List β}{A:u5}{d:Nat}(g:l.length=a.length)(h:l.flatMap c=a.flatMap b){x:z0}{S:Nat->Prop}{w:y9}(f:(Qc e k c l A d).φ x S w): (Qc e k b a A d).φ x S w:=by
 unfold Qc at f ⊢;rw[<- g,<- h];exact f
theorem Q4{α:Type}{c:α->a8}{k:Nat}(a:∀x,(c x).length=k): ∀l:List α,(l.flatMap c).length=l.length*k
 | []=>x6
 | x::l=>by rw[Tl,Lq,Q4 a l,a,Rc,Rm,Te]
theorem Z6{α:Type}{c:α->a8}{k:Nat}(a:∀x,(c x).length=k): ∀ {l:List α} {j i:Nat} (e:j<l.length),i<k->(l.flatMap c)[j*k+i]?=(c l[j])[i]?
 | x::l,0,i,_,b=>by
  rw[Tl,Uh,Lj,List.getElem?_append_left (by rw[a];exact b)];rfl
 | x::l,j+1,i,e,b=>by
  have d:j<l.length:=Nat.lt_of_succ_lt_succ e;rw[Tl,c6 (by rw[a,Rm];omega),a,show(j+1)*k+i-k=j*k+i by rw[Rm];omega];exact Z6 a d b
section
variable {w0:World} {σ:St}
theorem Ag.refl(σ:St)(r:Env): Ag σ r r:=⟨λ_ _=>rfl,λ_ _=>rfl⟩
theorem Ag.trans{σ σ':St}{r c a:Env}(h:Ag σ r c)(d:σ.le σ')(k:Ag σ' c a): Ag σ r a :=
 ⟨λi b=>(k.1 i (Lb b d.1)).trans (h.1 i b),λi b=>(k.2 i (Lb b d.2)).trans (h.2 i b)⟩
theorem Ag.le{σ σ':St}{r a:Env}(h:Ag σ' r a)(b:σ.le σ'): Ag σ r a:=(Ag.refl σ r).trans b h
theorem Ag.add(σ:St)(r:Env)(γ:Gh): Ag σ r (r.add' σ γ):=⟨λ_ a=>XV _ _ (Ry a),λ_ a=>XV _ _ (Ry a)⟩
theorem St.le.refl(σ:St): σ.le σ:=⟨L8 _,L8 _⟩
theorem St.le.trans{σ σ' a:St}(h:σ.le σ')(k:σ'.le a): σ.le a:=⟨L9 h.1 k.1,L9 h.2 k.2⟩
theorem oJ(σ:St)(o:Out): σ.le (σ.grow o):=⟨N8,N9⟩
theorem Yw(σ:St)(d:Option Tmp)(s:SV): σ.le (σ.push d s):=by cases d<;>exact St.le.refl σ
theorem jL{σ a:St}(h:leB σ a=true): σ.le a:=by
 obtain⟨b,c⟩:=L6.1 h;exact⟨L3 b,L3 c⟩
theorem Ag.den{σ:St}{r b:Env}(h:Ag σ r b){s:SV}(hs:σ.lt s=true): s.den b=s.den r:=Zc _ _ (λi a=>h.1 i (Q1 a)) (λi a=>h.2 i (Q1 a)) s hs
theorem Qas{α:Type}: ∀ {l:List (Option α)} {i:Nat} {p y:α},Xe l i=some p->Xe (VV l i y) i=some y
 | [],_,_,_,h=>by cases h
 | _::_,0,_,_,_=>rfl
 | _::l,n+1,_,_,h=>Qas (l:=l) (i:=n) h
theorem Dn{α:Type}: ∀ {l:List (Option α)} {i j:Nat} {y:α},j≠i->Xe (VV l i y) j=Xe l j
 | [],_,_,_,_=>rfl
 | _::_,0,0,_,h=>absurd rfl h
 | _::_,0,_+1,_,_=>rfl
 | _::_,_+1,0,_,_=>rfl
 | _::l,i+1,j+1,_,h=>Dn (l:=l) (i:=i) (j:=j) (λe=>h (by rw[e]))
theorem KP(r:Env)(S:Nat->Nat->Prop)(s:SV): s.den ⟨r.b,r.x,S⟩=s.den r :=
 Zc (λ_=>true) (λ_=>true) (r:=⟨r.b,r.x,S⟩) (r':=r) (λ_ _=>rfl) (λ_ _=>rfl) s (by
  exact SV.rec (motive_1:=λs=>s.ok (λ_=>true) (λ_=>true)=true) (motive_2:=λl=>GA (λ_=>true) (λ_=>true) l=true) (λ_=>rfl) (λ_ _=>rfl) (λ_ _ _ _=>rfl) (λ_ _ _ a c=>L6.2 ⟨a,c⟩) (λ_ h=>h) (λ_ h=>h) (λ_=>rfl) rfl (λ_ _ a c=>L6.2 ⟨a,c⟩) s)
theorem Kx(r:Env)(S:Nat->Nat->Prop)(l:List SV): QJ ⟨r.b,r.x,S⟩ l=QJ r l:=by
 rw[XE,XE];exact U5 λs _=>KP r S s
theorem Sat.turn{r:Env}{a:Act}{w E:y9}{i:Nat}{R R':Res}{S':Nat->Prop}(h:Sat w0 σ r a w)(A:Xe σ.rs i=some R)(z:Trn (r.S i) w E)(O:R'.φ (r.x i) S' E)(C:∀b,S' b->(r.S i b\/w.heap.size<=b)/\b<E.heap.size):
  Sat w0 (Xw i R' σ) ⟨r.b,r.x,Y9 r.S i S'⟩ a E:=by
 have u:(Xw i R' σ).rs.length=σ.rs.length:=XH _ _ _;have I:∀s,(Xw i R' σ).lt s=σ.lt s:=λs=>by simp only[St.lt,u];rfl
 have D:∀s,(Xw i R' σ).ltL s=σ.ltL s:=λs=>by simp only[St.ltL,u];rfl
 have d:=h.see.low;have v:∀j f,Xe (Xw i R' σ).rs j=some f->(j=i/\f=R'/\Y9 r.S i S' j=S')\/(j≠i/\Xe σ.rs j=some f/\Y9 r.S i S' j=r.S j):=λj f l=>by
  rcases BQ l with⟨B,J⟩|⟨B,J⟩
  ·subst B;exact .inl ⟨rfl,J,Xp _ _ _⟩
  ·exact .inr ⟨B,J,XV _ _ B⟩
 refine⟨⟨⟨z.os.trans d.os,z.tape.trans d.tape,z.output.trans d.output,L9 d.size z.size,λk F=>?_⟩,h.see.size,λk s F=>?_,λj t cs l=>?_,λj f l=>?_,λj l=>h.see.one j (by rwa [u]at l)⟩,⟨h.sep.own,h.sep.inj,λj f l b c=>?_,λj m f G l K q b c n=>?_,λj m p f l K c=>?_⟩,h.defers⟩
 ·refine(z.block k (Lb F d.size) λhs=>?_).trans (d.block k F);exact absurd (h.sep.ownS i R A k hs) x3
 ·obtain⟨o,g⟩:=h.see.ts k s F;exact⟨by rw[KP];exact o,by rw[I];exact g⟩
 ·obtain⟨o,g⟩:=h.see.bs j t cs l;refine⟨?_,by rw[D];exact g⟩;rw[Kx];exact(z.block _ o.lt (h.sep.apart j i _ _ l A)).trans o
 ·rcases v j f l with⟨rfl,rfl,e⟩|⟨q,o,e⟩
  ·rw[show(⟨r.b,r.x,Y9 r.S j S'⟩:Env).S j=S' from e];exact⟨O,λb c=>(C b c).2⟩
  ·rw[show(⟨r.b,r.x,Y9 r.S i S'⟩:Env).S j=r.S j from e];obtain⟨g,y⟩:=h.see.rs j f o;exact⟨f.loc _ _ _ _ (λb c=>z.block b (y b c) λhs=>h.sep.disj j i f R o A q b c hs) g,λb c=>Lb (y b c) z.size⟩
 ·rcases v j f l with⟨rfl,rfl,e⟩|⟨q,o,e⟩
  ·rw[show(⟨r.b,r.x,Y9 r.S j S'⟩:Env).S j=S' from e]at c;rcases(C b c).1 with g|g
   ·exact h.sep.ownS j R A b g
   ·exact L9 d.size g
  ·rw[show(⟨r.b,r.x,Y9 r.S i S'⟩:Env).S j=r.S j from e]at c;exact h.sep.ownS j f o b c
 ·rcases v j f l with⟨B,_,e⟩|⟨L,o,e⟩<;>rcases v m G K with⟨P,_,H⟩|⟨M,g,H⟩
  ·exact q (B.trans P.symm)
  ·rw[show(⟨r.b,r.x,Y9 r.S i S'⟩:Env).S j=S' from e]at c;rw[show(⟨r.b,r.x,Y9 r.S i S'⟩:Env).S m=r.S m from H]at n;rcases(C b c).1 with y|y
   ·exact h.sep.disj i m R G A g (Ne.symm M) b y n
   ·exact absurd ((h.see.rs m G g).2 b n) x3
  ·rw[show(⟨r.b,r.x,Y9 r.S i S'⟩:Env).S j=r.S j from e]at c;rw[show(⟨r.b,r.x,Y9 r.S i S'⟩:Env).S m=S' from H]at n;rcases(C b n).1 with y|y
   ·exact h.sep.disj j i f R o A L b c y
   ·exact absurd ((h.see.rs j f o).2 b c) x3
  ·rw[show(⟨r.b,r.x,Y9 r.S i S'⟩:Env).S j=r.S j from e]at c;rw[show(⟨r.b,r.x,Y9 r.S i S'⟩:Env).S m=r.S m from H]at n;exact h.sep.disj j m f G o g q b c n
 ·rcases v m f K with⟨B,_,e⟩|⟨q,o,e⟩
  ·rw[show(⟨r.b,r.x,Y9 r.S i S'⟩:Env).S m=S' from e]at c;have N:=(h.see.bs j p.1 p.2 l).1.lt;rcases(C _ c).1 with g|g
   ·exact h.sep.apart j i p R l A g
   ·have:r.b j<w.heap.size:=N;have y:w.heap.size<=r.b j:=g;omega
  ·rw[show(⟨r.b,r.x,Y9 r.S i S'⟩:Env).S m=r.S m from e]at c;exact h.sep.apart j m p f l o c
structure Trm (w0:World) (S:Nat->Prop) (w w':World):Prop where
 low:Below w0.heap.size w0 w'
 block:∀k,k<w.heap.size->¬ S k->w'.heap[k]?=w.heap[k]?
theorem Sat.turm{r:Env}{a:Act}{w A:y9}{i:Nat}{R R':Res}{S':Nat->Prop}(h:Sat w0 σ r a w)(y:Xe σ.rs i=some R)(E:Trm w0 (r.S i) w A)(P:R'.φ (r.x i) S' A)(B:∀b,S' b->(r.S i b\/w.heap.size<=b)/\b<A.heap.size):
  Sat w0 (Xw i R' σ) ⟨r.b,r.x,Y9 r.S i S'⟩ a A:=by
 have q:(Xw i R' σ).rs.length=σ.rs.length:=XH _ _ _;have I:∀s,(Xw i R' σ).lt s=σ.lt s:=λs=>by simp only[St.lt,q];rfl
 have C:∀s,(Xw i R' σ).ltL s=σ.ltL s:=λs=>by simp only[St.ltL,q];rfl
 have D:=h.see.low;have J:∀k,k<w.heap.size->¬ r.S i k->k<A.heap.size:=λk F Q=>by
  have g:=E.block k F Q;rw[Array.getElem?_eq_getElem F]at g;rcases Lx k A.heap.size with d|d
  ·exact d
  ·rw[Δ d]at g;cases g
 have u:∀j f,Xe (Xw i R' σ).rs j=some f->(j=i/\f=R'/\Y9 r.S i S' j=S')\/(j≠i/\Xe σ.rs j=some f/\Y9 r.S i S' j=r.S j):=λj f l=>by
  rcases BQ l with⟨z,K⟩|⟨z,K⟩
  ·subst z;exact .inl ⟨rfl,K,Xp _ _ _⟩
  ·exact .inr ⟨z,K,XV _ _ z⟩
 refine⟨⟨E.low,h.see.size,λk s F=>?_,λj t cs l=>?_,λj f l=>?_,λj l=>h.see.one j (by rwa [q]at l)⟩,⟨h.sep.own,h.sep.inj,λj f l b c=>?_,λj m f G l L n b c o=>?_,λj m p f l L c=>?_⟩,h.defers⟩
 ·obtain⟨g,d⟩:=h.see.ts k s F;exact⟨by rw[KP];exact g,by rw[I];exact d⟩
 ·obtain⟨g,d⟩:=h.see.bs j t cs l;refine⟨?_,by rw[C];exact d⟩;rw[Kx];exact(E.block _ g.lt (h.sep.apart j i _ _ l y)).trans g
 ·rcases u j f l with⟨rfl,rfl,e⟩|⟨n,g,e⟩
  ·rw[show(⟨r.b,r.x,Y9 r.S j S'⟩:Env).S j=S' from e];exact⟨P,λb c=>(B b c).2⟩
  ·rw[show(⟨r.b,r.x,Y9 r.S i S'⟩:Env).S j=r.S j from e];obtain⟨d,v⟩:=h.see.rs j f g;exact⟨f.loc _ _ _ _ (λb c=>E.block b (v b c) λhs=>h.sep.disj j i f R g y n b c hs) d,λb c=>J b (v b c) λhs=>h.sep.disj j i f R g y n b c hs⟩
 ·rcases u j f l with⟨rfl,rfl,e⟩|⟨n,g,e⟩
  ·rw[show(⟨r.b,r.x,Y9 r.S j S'⟩:Env).S j=S' from e]at c;rcases(B b c).1 with d|d
   ·exact h.sep.ownS j R y b d
   ·exact L9 D.size d
  ·rw[show(⟨r.b,r.x,Y9 r.S i S'⟩:Env).S j=r.S j from e]at c;exact h.sep.ownS j f g b c
 ·rcases u j f l with⟨z,_,e⟩|⟨M,g,e⟩<;>rcases u m G L with⟨T,_,H⟩|⟨N,d,H⟩
  ·exact n (z.trans T.symm)
  ·rw[show(⟨r.b,r.x,Y9 r.S i S'⟩:Env).S j=S' from e]at c;rw[show(⟨r.b,r.x,Y9 r.S i S'⟩:Env).S m=r.S m from H]at o;rcases(B b c).1 with v|v
   ·exact h.sep.disj i m R G y d (Ne.symm N) b v o
   ·exact absurd ((h.see.rs m G d).2 b o) x3
  ·rw[show(⟨r.b,r.x,Y9 r.S i S'⟩:Env).S j=r.S j from e]at c;rw[show(⟨r.b,r.x,Y9 r.S i S'⟩:Env).S m=S' from H]at o;rcases(B b o).1 with v|v
   ·exact h.sep.disj j i f R g y M b c v
   ·exact absurd ((h.see.rs j f g).2 b c) x3
  ·rw[show(⟨r.b,r.x,Y9 r.S i S'⟩:Env).S j=r.S j from e]at c;rw[show(⟨r.b,r.x,Y9 r.S i S'⟩:Env).S m=r.S m from H]at o;exact h.sep.disj j m f G g d n b c o
 ·rcases u m f L with⟨z,_,e⟩|⟨n,g,e⟩
  ·rw[show(⟨r.b,r.x,Y9 r.S i S'⟩:Env).S m=S' from e]at c;have O:=(h.see.bs j p.1 p.2 l).1.lt;rcases(B _ c).1 with d|d
   ·exact h.sep.apart j i p R l y d
   ·have:r.b j<w.heap.size:=O;have v:w.heap.size<=r.b j:=d;omega
  ·rw[show(⟨r.b,r.x,Y9 r.S i S'⟩:Env).S m=r.S m from e]at c;exact h.sep.apart j m p f l g c
theorem Bk(r:Env)(S:Nat->Nat->Prop): Ag σ r ⟨r.b,r.x,S⟩:=⟨λ_ _=>rfl,λ_ _=>rfl⟩
theorem Gf(j:Nat)(R:Res): σ.le (Xw j R σ):=⟨L8 _,by simp[Xw,XH]⟩
theorem Sat.fresh{r:Env}{a:Act}{w c:y9}{R:Res}{x:z0}{S:Nat->Prop}(h:Sat w0 σ r a w)(d:Below w.heap.size w c)(f:R.φ x S c)(i:∀b,S b->w.heap.size<=b/\b<c.heap.size):
  Sat w0 (Kz R σ) (r.add' σ ⟨0,x,S⟩) a c:=by
 have g:Made (r.add' σ ⟨0,x,S⟩) ⟨.val undef,none,some R⟩ ⟨0,x,S⟩ w c:=⟨R.one x S c f,(λ_ _ h=>nomatch h),(λk e=>by obtain rfl:=hW e;exact⟨f,i⟩),(λ_ _ h=>nomatch h)⟩
 have j:σ.fits ⟨.val undef,none,some R⟩=true:=rfl;exact⟨h.see.grow d j g,h.sep.grow h.see d g,h.defers⟩
theorem Od(R:Res): σ.le (Kz R σ):=⟨L8 _,by simp[Kz,XY]⟩
end
section
variable {w0:World} {σ:St}
def O7{β:Type}(w0:y9)(σ:St)(out:β->St): Prop:=∀r a w,Sat w0 σ r a w->∃b c,Sat w0 (out b) c a w/\Ag σ r c
theorem pw{α:Type}(e k:Nat)(c:α->a8): O7 w0 σ (λ_:Unit=>Kz (Qc e k c ([]:List α) none 0) σ):=λr a w d =>
 ⟨(),_,d.fresh (x:=.bool false) (S:=λ_=>False) (l3 _ _) (show _/\_/\_ from⟨rfl,World.ownsRow_nil w 0 e k,λb=>⟨λh=>h.elim,λh=>by simp[Value.ownBlock]at h⟩⟩) (λ_ h=>h.elim),Ag.add _ _ _⟩
def Jr{α:Type}: List (Option α)->Nat->List (Option α)
 | [],_=>[]
 | _::l,0=>none::l
 | x::l,n+1=>x::Jr l n
theorem YS{α:Type}: ∀(l:List (Option α)) (i:Nat),(Jr l i).length=l.length
 | [],_=>rfl
 | _::_,0=>rfl
 | _::l,n+1=>Ly Nat.succ (YS l n)
theorem Vo{α:Type}: ∀ {l:List (Option α)} {i j:Nat} {z:α},Xe (Jr l i) j=some z->j≠i/\Xe l j=some z
 | [],_,_,_,h=>by cases h
 | _::_,0,0,_,h=>by cases h
 | _::_,0,_+1,_,h=>⟨x6,h⟩
 | _::_,_+1,0,_,h=>⟨x6,h⟩
 | _::l,i+1,j+1,_,h=>(Vo (l:=l) (i:=i) (j:=j) h).imp (λe=>y8 e) id
def kY(ds:List Nat)(s:SV)(l:List (Nat×SV)): List (Nat×SV):=match ds with
 | []=>l
 | d::ds=>(d,s)::kY ds s l
def ox(σ:St)(b m:Nat): List Nat->Bool
 | []=>true
 | d::ds=>(match YQ d σ.ts with
  | some (.sli a o n c)=>Nat.beq a b&&Nat.beq o 0&&Nat.beq n m&&Nat.beq c m
  | _=>false)&&ox σ b m ds
theorem Eg{s u:SV}{k:Nat}{l:List (Nat×SV)}: ∀ {ds:List Nat},YQ k (kY ds s l)=some u->(k∈ds/\u=s)\/YQ k l=some u
 | [],h=>.inr h
 | d::ds,h=>by
  simp only[kY,YQ]at h;cases e:Nat.beq d k with
  | true=>rw[e]at h;exact .inl ⟨by rw[<- Le e];simp,(hW h).symm⟩
  | false=>rw[e]at h;exact(Eg (ds:=ds) h).imp (λh=>⟨Sr _ h.1,h.2⟩) id
theorem ML{b m:Nat}: ∀ {ds:List Nat},ox σ b m ds=true->∀d,d∈ds->YQ d σ.ts=some (.sli b 0 m m)
 | [],_,_,h=>by cases h
 | d::ds,h,g,f=>by
  obtain⟨a,i⟩:=L6.1 h;rcases Ll.1 f with rfl|f
  ·split at a
   ·rename_i q o n c e;obtain⟨a,j⟩:=L6.1 a;obtain⟨a,k⟩:=L6.1 a;obtain⟨l,p⟩:=L6.1 a;rw[e,Le l,Le p,Le k,Le j]
   ·cases a
  ·exact ML i g f
def IA{α:Type}(b:Nat)(ds:List Nat)(e k:Nat)(c:α->a8)(l:List α)(y:Hp)(σ:St): St:=⟨σ.n,kY ds (.val (.slice y.1 l.length y.2)) σ.ts,Jr σ.bs b,Vr σ.rs (some (Qc e k c l y.1 y.2))⟩
theorem pr{α:Type}{b m e k:Nat}{ds:List Nat}{c:α->a8}{l:List α}{cs:List SV}(I:Xe σ.bs b=some (e,cs))(Q:GA (λ_=>false) (λ_=>false) cs=true)(T:QJ e0 cs=l.flatMap c)(U:m=l.length)(M:∀x,(c x).length=k)(J:l.length<=maxLen)(N:ox σ b m ds=true): O7 w0 σ (λy:Hp=>IA b ds e k c l y σ):=λr a w o=>by
 subst U;have O:=(o.see.bs b e cs I).1;rw[YU Q,T]at O;have C:∀j p,Xe (Jr σ.bs b) j=some p->j≠b/\Xe σ.bs j=some p:=λj p h=>Vo h
 have V:w.heap[r.b b]?=some (.cells (l.flatMap c).toArray e):=O;have K:w.ownsRow 0 e k (.slice (some ⟨r.b b,0,none⟩) l.length l.length) l.length (l.flatMap c):=⟨Q4 M l,.inr ⟨r.b b,l.length,(l.flatMap c).toArray,rfl,La _,V,L8 _,J,by simpa using Q4 M l,by simp[Q4 M l,Rj]⟩⟩
 let γ:Gh:=⟨0,.bool false,λg=>g=r.b b⟩
 have D:Ag σ r (r.add' σ γ):=Ag.add σ r γ;have E:∀j R,Xe (Vr σ.rs (some (Qc e k c l (some ⟨r.b b,0,none⟩) l.length))) j=some R->(Xe σ.rs j=some R/\(r.add' σ γ).x j=r.x j/\(r.add' σ γ).S j=r.S j)\/(R=Qc e k c l (some ⟨r.b b,0,none⟩) l.length/\j=σ.rs.length/\(r.add' σ γ).x j=.bool false/\(r.add' σ γ).S j=λg=>g=r.b b):=λj R f=>by
  rw[XY]at f;rcases Cv f with d|⟨rfl,d⟩
  ·exact .inl ⟨d,D.2 j (XC d),XV _ _ (Ry (XC d))⟩
  ·exact .inr ⟨(hW d).symm,rfl,Xp _ _ _,Xp _ _ _⟩
 have G:=o.sep.own b _ I;refine⟨(some ⟨r.b b,0,none⟩,l.length),r.add' σ γ,⟨⟨o.see.low,o.see.size,λj s f=>?_,λj t H f=>?_,λj R f=>?_,λj f=>?_⟩,⟨λj p f=>?_,λi j p q v f z=>?_,λj R f g n=>?_,λi j R P v f z g n A=>?_,λi j p R v f n=>?_⟩,o.defers⟩,D⟩
 ·rcases Eg f with⟨d,rfl⟩|d
  ·obtain⟨B,_⟩:=o.see.ts j _ (ML N j d);exact⟨B,rfl⟩
  ·obtain⟨B,u⟩:=o.see.ts j s d;refine⟨by rw[D.den u];exact B,Ke (λi v=>?_) (λi v=>?_) s u⟩
   ·show Nat.blt i (Jr σ.bs b).length=true;rw[YS];exact v
   ·show Nat.blt i (Vr σ.rs _).length=true;exact YA (by rw[XY,Lq];have:=Q1 v;simp;omega)
 ·obtain⟨z,d⟩:=C j _ f;obtain⟨B,u⟩:=o.see.bs j t H d;refine⟨?_,Z9 (λi v=>?_) (λi v=>?_) H u⟩
  ·rw[D.1 j (XC d),Xt (λi=>Nat.blt i σ.bs.length) (λi=>Nat.blt i σ.rs.length) (r:=r.add' σ γ) (r':=r) (λi v=>D.1 i (Q1 v)) (λi v=>D.2 i (Q1 v)) H u];exact B
  ·show Nat.blt i (Jr σ.bs b).length=true;rw[YS];exact v
  ·show Nat.blt i (Vr σ.rs _).length=true;exact YA (by rw[XY,Lq];have:=Q1 v;simp;omega)
 ·rcases E j R f with⟨d,B,u⟩|⟨rfl,_,B,u⟩
  ·rw[B,u];exact o.see.rs j R d
  ·rw[B,u];exact⟨(show _/\_/\_ from⟨rfl,K,λg=>⟨λh=>by rw[h];rfl,λh=>by simpa [Value.ownBlock,eq_comm]using h⟩⟩),λg n=>by rw[n];exact O.lt⟩
 ·have W:j<σ.rs.length+1:=by
   have d:j<(Vr σ.rs (some (Qc e k c l (some ⟨r.b b,0,none⟩) l.length))).length:=f;rw[XY]at d;simpa using d
  rcases Lx j σ.rs.length with d|d
  ·rw[D.2 j d];exact o.see.one j d
  ·have:j=σ.rs.length:=x3;subst this;rw[show(r.add' σ γ).x σ.rs.length=.bool false from Xp _ _ _];rfl
 ·obtain⟨_,d⟩:=C j p f;rw[D.1 j (XC d)];exact o.sep.own j p d
 ·obtain⟨_,d⟩:=C i p v;obtain⟨_,B⟩:=C j q f;rw[D.1 i (XC d),D.1 j (XC B)];exact o.sep.inj i j p q d B z
 ·rcases E j R f with⟨d,_,u⟩|⟨rfl,_,_,u⟩
  ·rw[u]at n;exact o.sep.ownS j R d g n
  ·rw[u]at n;rw[n];exact G
 ·rcases E i R v with⟨d,_,u⟩|⟨rfl,X,_,u⟩<;>rcases E j P f with⟨L,_,F⟩|⟨rfl,Y,_,F⟩
  ·rw[u]at n;rw[F]at A
   exact o.sep.disj i j R P d L z g n A
  ·rw[u]at n;rw[F]at A
   subst A;exact o.sep.apart b i _ R I d n
  ·rw[u]at n;rw[F]at A
   subst n;exact o.sep.apart b j _ P I L A
  ·exact z (X.trans Y.symm)
 ·obtain⟨z,d⟩:=C i p v;rw[D.1 i (XC d)]at n;rcases E j R f with⟨L,_,F⟩|⟨rfl,_,_,F⟩
  ·rw[F]at n;exact o.sep.apart i j p R d L n
  ·rw[F]at n;exact o.sep.inj i b p _ d I z n
def zd{α:Type}(σ:St)(b:Nat)(ds:List Nat)(e k:Nat)(c:α->a8)(l:List α)(K:(Hp->St)->Prop): Prop:=ZV (Xe σ.bs b) λp=>Z7 (Nat.beq p.1 e&&GA (λ_=>false) (λ_=>false) p.2&&ox σ b l.length ds) (QJ e0 p.2=l.flatMap c/\((∀x,(c x).length=k)/\l.length<=maxLen)/\K λy=>IA b ds e k c l y σ)
theorem fX{α:Type}{b:Nat}{ds:List Nat}{e k:Nat}{c:α->a8}{l:List α}{K:(Hp->St)->Prop}(h:zd σ b ds e k c l K): O7 w0 σ (λy:Hp=>IA b ds e k c l y σ)/\K λy=>IA b ds e k c l y σ:=by
 obtain⟨⟨t,cs⟩,d,h⟩:=QH h;obtain⟨a,f,⟨g,i⟩,j⟩:=Qp h;obtain⟨a,m⟩:=L6.1 a;obtain⟨n,o⟩:=L6.1 a;have p:t=e:=Le n;subst p;exact⟨pr d o f rfl g i m,j⟩
theorem uA{α:Type}(b:Nat)(ds:List Nat)(e k:Nat)(c:α->a8)(l:List α)(y:Hp): σ.le (IA b ds e k c l y σ):=⟨by simp[IA,YS],by simp[IA,XY]⟩
def Qh(g:Nat)(t:u6)(cs:a8)(M:Res): Res where
 φ x S w:=x=.bool false/\Bx w g t cs.toArray/\∃a d,M.φ d a w/\¬ a g/\(∀b,a b->b<w.heap.size)/\∀b,S b↔b=g\/a b
 one _ _ _ h:=by rw[h.1];rfl
 loc x S w w' h hφ:=by
  obtain⟨j,k,a,d,l,m,n,e⟩:=hφ;have hs:∀b,a b->w'.heap[b]?=w.heap[b]?:=λb c=>h b ((e b).2 (.inr c))
  refine⟨j,(h g ((e g).2 (.inl rfl))).trans k,a,d,M.loc _ _ _ _ hs l,m,λb c=>?_,e⟩;have f:=hs b c;rw[Array.getElem?_eq_getElem (n b c)]at f;rcases Lx b w'.heap.size with i|i
  ·exact i
  ·rw[Δ i]at f;cases f
def oy(σ:St)(b:Nat): List Nat->Bool
 | []=>true
 | d::ds=>(match YQ d σ.ts with
  | some (.ptr a o)=>Nat.beq a b&&Nat.beq o 0
  | _=>false)&&oy σ b ds
theorem MM{b:Nat}: ∀ {ds:List Nat},oy σ b ds=true->∀d,d∈ds->YQ d σ.ts=some (.ptr b 0)
 | [],_,_,h=>by cases h
 | d::ds,h,f,a=>by
  obtain⟨c,g⟩:=L6.1 h;rcases Ll.1 a with rfl|a
  ·split at c
   ·rename_i k o e;obtain⟨i,j⟩:=L6.1 c;rw[e,Le i,Le j]
   ·cases c
  ·exact MM g f a
def N6(b j:Nat)(ds:List Nat)(t:u6)(cs:List SV)(M:Res)(σ:St)(g:Nat): St:=⟨σ.n,kY ds (.val (.pointer (some ⟨g,0,none⟩))) σ.ts,Jr σ.bs b,Vr (Jr σ.rs j) (some (Qh g t (QJ e0 cs) M))⟩
theorem pu{b j t:Nat}{ds:List Nat}{cs:List SV}{M:Res}(A:Xe σ.bs b=some (t,cs))(B:Xe σ.rs j=some M)(P:GA (λ_=>false) (λ_=>false) cs=true)(I:oy σ b ds=true): O7 w0 σ (N6 b j ds t cs M σ):=λr a w f=>by
 have J:=(f.see.bs b t cs A).1;rw[YU P]at J;obtain⟨Q,C⟩:=f.see.rs j M B;have T:=f.sep.apart b j _ M A B;let γ:Gh:=⟨0,.bool false,λg=>g=r.b b\/r.S j g⟩
 have o:Ag σ r (r.add' σ γ):=Ag.add σ r γ;have O:(N6 b j ds t cs M σ (r.b b)).rs.length=σ.rs.length+1:=by simp[N6,XY,YS]
 have K:(N6 b j ds t cs M σ (r.b b)).bs.length=σ.bs.length:=YS _ _;have D:∀i R,Xe (N6 b j ds t cs M σ (r.b b)).rs i=some R->(i≠j/\Xe σ.rs i=some R/\(r.add' σ γ).x i=r.x i/\(r.add' σ γ).S i=r.S i)\/(R=Qh (r.b b) t (QJ e0 cs) M/\i=σ.rs.length/\(r.add' σ γ).x i=.bool false/\(r.add' σ γ).S i=λg=>g=r.b b\/r.S j g):=λi R d=>by
  have L:Xe (Jr σ.rs j++[some (Qh (r.b b) t (QJ e0 cs) M)]) i=some R:=XY _ _▸d;rcases Cv L with c|⟨e,c⟩
  ·obtain⟨n,l⟩:=Vo c;exact .inl ⟨n,l,o.2 i (XC l),XV _ _ (Ry (XC l))⟩
  ·rw[YS]at e;subst e;exact .inr ⟨(hW c).symm,rfl,Xp _ _ _,Xp _ _ _⟩
 have y:∀s,σ.lt s=true->(N6 b j ds t cs M σ (r.b b)).lt s=true:=λs h=>Ke (λi d=>by rw[K];exact d) (λi d=>YA (by rw[O];have:=Q1 d;omega)) s h
 refine⟨r.b b,r.add' σ γ,⟨⟨f.see.low,f.see.size,λk s z=>?_,λi U E d=>?_,λi R d=>?_,λi d=>?_⟩,⟨λi p d=>?_,λi k p q d z v=>?_,λi R d g m=>?_,λi k R H d z v g m u=>?_,λi k p R d z m=>?_⟩,f.defers⟩,o⟩
 ·rcases Eg z with⟨c,rfl⟩|c
  ·exact⟨(f.see.ts k _ (MM I k c)).1,rfl⟩
  ·obtain⟨n,l⟩:=f.see.ts k s c;exact⟨by rw[o.den l];exact n,y s l⟩
 ·obtain⟨_,c⟩:=Vo (show Xe (Jr σ.bs b) i=_ from d);obtain⟨n,l⟩:=f.see.bs i U E c;refine⟨?_,okL_all.2 λs hs=>y s (okL_all.1 l s hs)⟩;rw[o.1 i (XC c),Xt (λi=>Nat.blt i σ.bs.length) (λi=>Nat.blt i σ.rs.length) (r:=r.add' σ γ) (r':=r) (λi d=>o.1 i (Q1 d)) (λi d=>o.2 i (Q1 d)) E l];exact n
 ·rcases D i R d with⟨_,c,n,l⟩|⟨rfl,_,n,l⟩
  ·rw[n,l];exact f.see.rs i R c
  ·rw[n,l];exact⟨⟨rfl,J,r.S j,_,Q,T,C,λ_=>Iff.rfl⟩,λg m=>m.elim (λe=>e▸J.lt) (C g)⟩
 ·rw[O]at d;rcases Lx i σ.rs.length with c|c
  ·rw[o.2 i c];exact f.see.one i c
  ·have:i=σ.rs.length:=x3;subst this;rw[show(r.add' σ γ).x σ.rs.length=.bool false from Xp _ _ _];rfl
 ·obtain⟨_,c⟩:=Vo (show Xe (Jr σ.bs b) i=_ from d);rw[o.1 i (XC c)];exact f.sep.own i p c
 ·obtain⟨_,c⟩:=Vo (show Xe (Jr σ.bs b) i=_ from d);obtain⟨_,n⟩:=Vo (show Xe (Jr σ.bs b) k=_ from z);rw[o.1 i (XC c),o.1 k (XC n)];exact f.sep.inj i k p q c n v
 ·rcases D i R d with⟨_,c,_,l⟩|⟨rfl,_,_,l⟩<;>rw[l]at m
  ·exact f.sep.ownS i R c g m
  ·exact m.elim (λe=>e▸f.sep.own b _ A) (f.sep.ownS j M B g)
 ·rcases D i R d with⟨N,c,_,l⟩|⟨rfl,V,_,l⟩<;>rcases D k H z with⟨W,F,_,G⟩|⟨rfl,X,_,G⟩<;>rw[l]at m<;>rw[G]at u
  ·exact f.sep.disj i k R H c F v g m u
  ·exact u.elim (λe=>f.sep.apart b i _ R A c (e▸m)) (f.sep.disj i j R M c B N g m)
  ·exact m.elim (λe=>f.sep.apart b k _ H A F (e▸u)) λh=>f.sep.disj k j H M F B W g u h
  ·exact v (V.trans X.symm)
 ·obtain⟨N,c⟩:=Vo (show Xe (Jr σ.bs b) i=_ from d);rw[o.1 i (XC c)]at m;rcases D k R z with⟨_,F,_,G⟩|⟨rfl,_,_,G⟩<;>rw[G]at m
  ·exact f.sep.apart i k p R c F m
  ·exact m.elim (f.sep.inj i b p _ c A N) (f.sep.apart i j p M c B)
def xX(σ:St)(b j:Nat)(ds:List Nat)(K:(Nat->St)->Prop): Prop:=ZV (Xe σ.bs b) λp=>ZV (Xe σ.rs j) λM=>Z7 (GA (λ_=>false) (λ_=>false) p.2&&oy σ b ds) (K (N6 b j ds p.1 p.2 M σ))
theorem fj{b j:Nat}{ds:List Nat}{K:(Nat->St)->Prop}(h:xX σ b j ds K): ∃out,K out/\O7 w0 σ out/\∀g,σ.le (out g):=by
 obtain⟨⟨t,cs⟩,a,h⟩:=QH h;obtain⟨M,c,h⟩:=QH h;obtain⟨d,h⟩:=Qp h;obtain⟨e,f⟩:=L6.1 d;exact⟨_,h,pu a c e f,λg=>⟨by simp[N6,YS],by simp[N6,XY,YS]⟩⟩
def Qk(d j:Res): Res where
 φ x S w:=∃a c e,d.φ x a w/\j.φ e c w/\(∀b,a b->¬ c b)/\∀b,S b↔a b\/c b
 one x S w h:=by
  obtain⟨a,_,_,f,_⟩:=h;exact d.one x a w f
 loc x S w w' h hφ:=by
  obtain⟨a,c,e,f,k,l,g⟩:=hφ;exact⟨a,c,e,d.loc _ _ _ _ (λb i=>h b ((g b).2 (.inl i))) f,j.loc _ _ _ _ (λb i=>h b ((g b).2 (.inr i))) k,l,g⟩
def ES(x y:Nat)(a b:Res)(σ:St): St:={ σ with rs:=VV (Jr σ.rs y) x (Qk a b) }
theorem oG{x y:Nat}{h i:Res}(z:Xe σ.rs x=some h)(A:Xe σ.rs y=some i)(E:x≠y){r:Env}{a:Act}{w:y9}(c:Sat w0 σ r a w): ∃J,Sat w0 (ES x y h i σ) J a w/\Ag σ r J:=by
 let S:Nat->Prop:=λb=>r.S x b\/r.S y b
 have o:(ES x y h i σ).rs.length=σ.rs.length:=by simp[ES,XH,YS]
 have F:∀s,(ES x y h i σ).lt s=σ.lt s:=λs=>by simp only[St.lt,o];rfl
 have B:∀s,(ES x y h i σ).ltL s=σ.ltL s:=λs=>by simp only[St.ltL,o];rfl
 have q:∀j R,Xe (ES x y h i σ).rs j=some R->(j=x/\R=Qk h i/\Y9 r.S x S j=S)\/(j≠x/\j≠y/\Xe σ.rs j=some R/\Y9 r.S x S j=r.S j):=λj R f=>by
  rcases BQ f with⟨v,C⟩|⟨v,C⟩
  ·subst v;exact .inl ⟨rfl,C,Xp _ _ _⟩
  ·obtain⟨l,n⟩:=Vo C;exact .inr ⟨v,l,n,XV _ _ v⟩
 obtain⟨M,N⟩:=c.see.rs x h z;obtain⟨O,P⟩:=c.see.rs y i A;have G:=c.sep.disj x y h i z A E;have far:∀j R,Xe σ.rs j=some R->j≠x->j≠y->∀b,r.S j b->¬ S b:=λj R f l n b d hs=>by
  rcases hs with hs|hs
  ·exact c.sep.disj j x R h f z l b d hs
  ·exact c.sep.disj j y R i f A n b d hs
 refine⟨⟨r.b,r.x,Y9 r.S x S⟩,⟨⟨c.see.low,c.see.size,λk s Q=>?_,λj t cs f=>?_,λj R f=>?_,λj f=>c.see.one j (by rwa [o]at f)⟩,⟨c.sep.own,c.sep.inj,λj R f b d=>?_,λj m R H f I K b d g=>?_,λj m p R f I d=>?_⟩,c.defers⟩,Bk r _⟩
 ·obtain⟨l,n⟩:=c.see.ts k s Q;exact⟨by rw[KP];exact l,by rw[F];exact n⟩
 ·obtain⟨l,n⟩:=c.see.bs j t cs f;exact⟨by rw[Kx];exact l,by rw[B];exact n⟩
 ·rcases q j R f with⟨rfl,rfl,e⟩|⟨l,n,u,e⟩
  ·rw[show(⟨r.b,r.x,Y9 r.S j S⟩:Env).S j=S from e];exact⟨(show ∃V W X,_ from⟨_,_,_,M,O,G,λ_=>Iff.rfl⟩),λb d=>d.elim (N b) (P b)⟩
  ·rw[show(⟨r.b,r.x,Y9 r.S x S⟩:Env).S j=r.S j from e];exact c.see.rs j R u
 ·rcases q j R f with⟨rfl,rfl,e⟩|⟨l,n,u,e⟩
  ·rw[show(⟨r.b,r.x,Y9 r.S j S⟩:Env).S j=S from e]at d;exact d.elim (c.sep.ownS j h z b) (c.sep.ownS y i A b)
  ·rw[show(⟨r.b,r.x,Y9 r.S x S⟩:Env).S j=r.S j from e]at d;exact c.sep.ownS j R u b d
 ·rcases q j R f with⟨v,_,e⟩|⟨l,n,u,e⟩<;>rcases q m H I with⟨C,_,D⟩|⟨T,U,L,D⟩
  ·exact K (v.trans C.symm)
  ·rw[show(⟨r.b,r.x,Y9 r.S x S⟩:Env).S j=S from e]at d;rw[show(⟨r.b,r.x,Y9 r.S x S⟩:Env).S m=r.S m from D]at g;exact far m H L T U b g d
  ·rw[show(⟨r.b,r.x,Y9 r.S x S⟩:Env).S j=r.S j from e]at d;rw[show(⟨r.b,r.x,Y9 r.S x S⟩:Env).S m=S from D]at g;exact far j R u l n b d g
  ·rw[show(⟨r.b,r.x,Y9 r.S x S⟩:Env).S j=r.S j from e]at d;rw[show(⟨r.b,r.x,Y9 r.S x S⟩:Env).S m=r.S m from D]at g;exact c.sep.disj j m R H u L K b d g
 ·rcases q m R I with⟨v,_,e⟩|⟨l,n,u,e⟩
  ·rw[show(⟨r.b,r.x,Y9 r.S x S⟩:Env).S m=S from e]at d;exact d.elim (c.sep.apart j x p h f z) (c.sep.apart j y p i f A)
  ·rw[show(⟨r.b,r.x,Y9 r.S x S⟩:Env).S m=r.S m from e]at d;exact c.sep.apart j m p R f u d
def su(σ:St)(x y:Nat)(K:St->Prop): Prop:=ZV (Xe σ.rs x) λa=>ZV (Xe σ.rs y) λb=>Z7 (!Nat.beq x y) (K (ES x y a b σ))
def xJ(σ:St)(x:Nat)(R:Res)(K:St->Prop): Prop:=ZV (Xe σ.rs x) λa=>(∀u S w,a.φ u S w->R.φ u S w)/\K (Xw x R σ)
theorem Wu{x y:Nat}{K:St->Prop}(h:su σ x y K){r:Env}{a:Act}{w:y9}(g:Sat w0 σ r a w): ∃c b,K c/\Sat w0 c b a w/\Ag σ r b/\σ.le c:=by
 obtain⟨m,i,h⟩:=QH h;obtain⟨n,j,h⟩:=QH h;obtain⟨f,h⟩:=Qp h;have d:x≠y:=λe=>by subst e;rw[Nat.beq_refl]at f;cases f
 obtain⟨b,k,l⟩:=oG i j d g;exact⟨_,b,h,k,l,⟨L8 _,by simp[ES,XH,YS]⟩⟩
theorem eC{x:Nat}{R:Res}{K:St->Prop}(h:xJ σ x R K){r:Env}{a:Act}{w:y9}(d:Sat w0 σ r a w): ∃c e,K c/\Sat w0 c e a w/\Ag σ r e/\σ.le c:=by
 obtain⟨i,f,j,h⟩:=QH h;obtain⟨k,l⟩:=d.see.rs x i f;exact⟨_,_,h,d.turn f (Trn.refl _ _) (j _ _ _ k) (λb g=>⟨.inl g,l b g⟩),Bk r _,Gf x R⟩
def An:Res:=⟨λx S _=>x=.bool false/\∀b,¬ S b,λ_ _ _ h=>by rw[h.1];rfl,λ_ _ _ _ _ h=>h⟩
theorem Sat.redo{r:Env}{a:Act}{w:y9}{i:Nat}{R R':Res}{S':Nat->Prop}(h:Sat w0 σ r a w)(M:Xe σ.rs i=some R)(I:R'.φ (r.x i) S' w)(G:∀b,S' b->w0.heap.size<=b/\b<w.heap.size)(H:∀j c,Xe σ.rs j=some c->j≠i->∀b,r.S j b->¬ S' b)(J:∀j p,Xe σ.bs j=some p->¬ S' (r.b j)):
  Sat w0 (Xw i R' σ) ⟨r.b,r.x,Y9 r.S i S'⟩ a w:=by
 have n:(Xw i R' σ).rs.length=σ.rs.length:=XH _ _ _;have A:∀s,(Xw i R' σ).lt s=σ.lt s:=λs=>by simp only[St.lt,n];rfl
 have y:∀s,(Xw i R' σ).ltL s=σ.ltL s:=λs=>by simp only[St.ltL,n];rfl
 have o:∀j c,Xe (Xw i R' σ).rs j=some c->(j=i/\c=R'/\Y9 r.S i S' j=S')\/(j≠i/\Xe σ.rs j=some c/\Y9 r.S i S' j=r.S j):=λj c f=>by
  rcases BQ f with⟨u,B⟩|⟨u,B⟩
  ·subst u;exact .inl ⟨rfl,B,Xp _ _ _⟩
  ·exact .inr ⟨u,B,XV _ _ u⟩
 refine⟨⟨h.see.low,h.see.size,λk s K=>?_,λj t cs f=>?_,λj c f=>?_,λj f=>h.see.one j (by rwa [n]at f)⟩,⟨h.sep.own,h.sep.inj,λj c f b d=>?_,λj m c C f D q b d g=>?_,λj m p c f D d=>?_⟩,h.defers⟩
 ·obtain⟨l,v⟩:=h.see.ts k s K;exact⟨by rw[KP];exact l,by rw[A];exact v⟩
 ·obtain⟨l,v⟩:=h.see.bs j t cs f;exact⟨by rw[Kx];exact l,by rw[y];exact v⟩
 ·rcases o j c f with⟨rfl,rfl,e⟩|⟨q,l,e⟩
  ·rw[show(⟨r.b,r.x,Y9 r.S j S'⟩:Env).S j=S' from e];exact⟨I,λb d=>(G b d).2⟩
  ·rw[show(⟨r.b,r.x,Y9 r.S i S'⟩:Env).S j=r.S j from e];exact h.see.rs j c l
 ·rcases o j c f with⟨rfl,rfl,e⟩|⟨q,l,e⟩
  ·rw[show(⟨r.b,r.x,Y9 r.S j S'⟩:Env).S j=S' from e]at d;exact(G b d).1
  ·rw[show(⟨r.b,r.x,Y9 r.S i S'⟩:Env).S j=r.S j from e]at d;exact h.sep.ownS j c l b d
 ·rcases o j c f with⟨u,_,e⟩|⟨E,l,e⟩<;>rcases o m C D with⟨L,_,z⟩|⟨F,v,z⟩
  ·exact q (u.trans L.symm)
  ·rw[show(⟨r.b,r.x,Y9 r.S i S'⟩:Env).S j=S' from e]at d;rw[show(⟨r.b,r.x,Y9 r.S i S'⟩:Env).S m=r.S m from z]at g;exact H m C v F b g d
  ·rw[show(⟨r.b,r.x,Y9 r.S i S'⟩:Env).S j=r.S j from e]at d;rw[show(⟨r.b,r.x,Y9 r.S i S'⟩:Env).S m=S' from z]at g;exact H j c l E b d g
  ·rw[show(⟨r.b,r.x,Y9 r.S i S'⟩:Env).S j=r.S j from e]at d;rw[show(⟨r.b,r.x,Y9 r.S i S'⟩:Env).S m=r.S m from z]at g;exact h.sep.disj j m c C l v q b d g
 ·rcases o m c D with⟨u,_,e⟩|⟨q,l,e⟩
  ·rw[show(⟨r.b,r.x,Y9 r.S i S'⟩:Env).S m=S' from e]at d;exact J j p f d
  ·rw[show(⟨r.b,r.x,Y9 r.S i S'⟩:Env).S m=r.S m from e]at d;exact h.sep.apart j m p c f l d
def zq(x:Nat)(A B:Res)(σ:St): St:=Xw σ.rs.length B (Kz An (Xw x A σ))
def zp(σ:St)(x:Nat)(A B:Res)(K:St->Prop): Prop:=ZV (Xe σ.rs x) λR=>(∀u S w,R.φ u S w->∃a c,A.φ u a w/\B.φ (.bool false) c w/\(∀b,a b->¬ c b)/\∀b,a b\/c b->S b)/\K (zq x A B σ)
theorem gg{x:Nat}{A B:Res}{K:St->Prop}(h:zp σ x A B K){r:Env}{a:Act}{w:y9}(t:Sat w0 σ r a w): ∃C J,K C/\Sat w0 C J a w/\Ag σ r J/\σ.le C:=by
 obtain⟨R,o,D,h⟩:=QH h;obtain⟨N,L⟩:=t.see.rs x R o;obtain⟨z,M,O,P,Q,hs⟩:=D _ _ _ N;have T:x<σ.rs.length:=XC o;have q:=t.turn o (Trn.refl _ _) O λb c=>⟨.inl (hs b (.inl c)),L b (hs b (.inl c))⟩
 have u:=q.fresh (R:=An) (x:=.bool false) (S:=λ_=>False) (l3 _ _) ⟨rfl,λ_ h=>h⟩ (λ_ h=>h.elim);have s:(Xw x A σ).rs.length=σ.rs.length:=XH _ _ _;have f:Xe (Kz An (Xw x A σ)).rs σ.rs.length=some An:=by
  show Xe (Vr (Xw x A σ).rs (some An)) σ.rs.length=_;rw[<- s,XY];have:∀l:List (Option Res),Xe (l++[some An]) l.length=some An:=λl=>by
   induction l with
   | nil=>rfl
   | cons a l E=>exact E
  exact this _
 have v:∀j d,Xe (Kz An (Xw x A σ)).rs j=some d->j≠σ.rs.length->Xe (Xw x A σ).rs j=some d/\j<σ.rs.length:=λj d g m=>by
  have y:Xe (Vr (Xw x A σ).rs (some An)) j=some d:=g;rw[XY]at y;have key:∀(l:List (Option Res)) (j:Nat),Xe (l++[some An]) j=some d->j≠l.length->Xe l j=some d/\j<l.length:=λl=>by
   induction l with
   | nil =>
    intro j q u;cases j with
    | zero=>exact absurd rfl u
    | succ j=>cases q
   | cons a l E =>
    intro j q u;cases j with
    | zero=>exact⟨q,S6 _⟩
    | succ j=>obtain⟨F,G⟩:=E j q (y8 u);exact⟨F,Uo G⟩
  have:=key _ j y (by rw[s];exact m);rwa [s]at this
 have H:∀j,j<σ.rs.length->((⟨r.b,r.x,Y9 r.S x z⟩:Env).add' (Xw x A σ) ⟨0,.bool false,λ_=>False⟩).S j=Y9 r.S x z j:=λj g=>XV _ _ (by rw[s];omega)
 have F:=u.redo (i:=σ.rs.length) (R':=B) (S':=M) f (by
  show B.φ (Y9 r.x (Xw x A σ).rs.length (.bool false) σ.rs.length) M w;rw[s,Xp];exact P) (λb c=>⟨t.sep.ownS x R o b (hs b (.inr c)),L b (hs b (.inr c))⟩) (λj d g m b c n=>by
  obtain⟨G,U⟩:=v j d g m;rw[H j U]at c;by_cases e:j=x
  ·subst e;rw[Xp]at c;exact Q b c n
  ·rw[XV _ _ e]at c;rcases BQ G with⟨V,_⟩|⟨_,W⟩
   ·exact e V
   ·exact t.sep.disj j x d R W o e b c (hs b (.inr n))) (λj p g c=>by
  have n:(⟨r.b,r.x,Y9 r.S x z⟩:Env).b j=r.b j:=rfl;have e:((⟨r.b,r.x,Y9 r.S x z⟩:Env).add' (Xw x A σ) ⟨0,.bool false,λ_=>False⟩).b j=r.b j:=XV _ _ (Ry (XC (show Xe σ.bs j=some p from g)));rw[e]at c;exact t.sep.apart j x p R g o (hs _ (.inr c)))
 refine⟨_,_,h,F,⟨λk I=>?_,λk I=>?_⟩,⟨L8 _,?_⟩⟩
 ·exact XV _ _ (Ry I)
 ·exact XV _ _ (by rw[s];exact Ry I)
 ·simp[zq,Xw,Kz,XH,XY]
end
mutual
def SV.sub(j:Nat)(v:z0): SV->SV
 | .val x=>.val x
 | .ptr b o=>.ptr b o
 | .sli b o n c=>.sli b o n c
 | .clo f l m=>.clo f (DD j v l) (DD j v m)
 | .agg l=>.agg (DD j v l)
 | .tup l=>.tup (DD j v l)
 | .han i=>match Nat.beq i j with
  | true=>.val v
  | false=>.han i
def DD(j:Nat)(v:z0): List SV->List SV
 | []=>[]
 | s::l=>s.sub j v::DD j v l
end
mutual
theorem dH{r:Env}{j:Nat}{v:z0}(h:r.x j=v): ∀s:SV,(s.sub j v).den r=s.den r
 | .val _=>rfl
 | .ptr _ _=>rfl
 | .sli _ _ _ _=>rfl
 | .clo f l m=>by simp only[SV.sub,SV.den,VC h l,VC h m]
 | .agg l=>by simp only[SV.sub,SV.den,VC h l]
 | .tup l=>by simp only[SV.sub,SV.den,VC h l]
 | .han i=>by
  simp only[SV.sub];split
  ·rename_i e;rw[Le e];exact h.symm
  ·rfl
theorem VC{r:Env}{j:Nat}{v:z0}(h:r.x j=v): ∀l:List SV,QJ r (DD j v l)=QJ r l
 | []=>rfl
 | s::l=>by simp only[DD,QJ,dH h s,VC h l]
end
mutual
theorem l5{β ξ:Nat->Bool}{j:Nat}{v:z0}: ∀s:SV,s.ok β ξ=true->(s.sub j v).ok β ξ=true
 | .val _,h=>h
 | .ptr _ _,h=>h
 | .sli _ _ _ _,h=>h
 | .clo f l m,h=>by
  obtain⟨a,b⟩:=L6.1 h;exact L6.2 ⟨GY l a,GY m b⟩
 | .agg l,h=>GY l h
 | .tup l,h=>GY l h
 | .han i,h=>by
  simp only[SV.sub];split
  ·rfl
  ·exact h
theorem GY{β ξ:Nat->Bool}{j:Nat}{v:z0}: ∀l:List SV,GA β ξ l=true->GA β ξ (DD j v l)=true
 | [],_=>rfl
 | s::l,h=>by
  obtain⟨a,b⟩:=L6.1 h;exact L6.2 ⟨l5 s a,GY l b⟩
end
def Dp(j:Nat)(v:z0)(σ:St): St:={ σ with ts:=σ.ts.map λp=>(p.1,p.2.sub j v),bs:=σ.bs.map λo=>o.map λp=>(p.1,DD j v p.2) }
theorem PZ{j:Nat}{v:z0}: ∀ {l:List (Nat×SV)} {k:Nat} {s:SV},YQ k (l.map λp=>(p.1,p.2.sub j v))=some s->∃a,YQ k l=some a/\s=a.sub j v
 | [],_,_,h=>by cases h
 | (i,u)::l,k,s,h=>by
  simp only[T9,YQ]at h ⊢;cases e:Nat.beq i k with
  | true =>
   rw[e]at h;exact⟨u,rfl,(hW h).symm⟩
  | false =>
   rw[e]at h;exact PZ (l:=l) h
theorem Oo{j:Nat}{v:z0}: ∀ {l:List (Option (u6×List SV))} {i:Nat} {t:u6} {cs:List SV},Xe (l.map λo=>o.map λp=>(p.1,DD j v p.2)) i=some (t,cs)->∃a,Xe l i=some (t,a)/\cs=DD j v a
 | [],_,_,_,h=>by cases h
 | x::_,0,t,cs,h=>by
  cases x with
  | none=>cases h
  | some p =>
   obtain⟨d,a⟩:=p;have b:=hW h;injection b with b c
   subst b;exact⟨a,rfl,c.symm⟩
 | _::l,i+1,t,cs,h=>Oo (l:=l) (i:=i) h
section
variable {w0:World} {σ:St}
theorem Sat.subst{r:Env}{a:Act}{w:y9}{j:Nat}{v:z0}(h:Sat w0 σ r a w)(u:r.x j=v): Sat w0 (Dp j v σ) r a w:=by
 have y:(Dp j v σ).bs.length=σ.bs.length:=by simp[Dp]
 have n:∀s,σ.lt s=true->(Dp j v σ).lt (s.sub j v)=true:=λs hs=>by
  unfold St.lt at hs ⊢;rw[y];exact l5 s hs
 have e:∀l,σ.ltL l=true->(Dp j v σ).ltL (DD j v l)=true:=λl hs=>by
  unfold St.ltL at hs ⊢;rw[y];exact GY l hs
 have m:∀i p,Xe (Dp j v σ).bs i=some p->∃q,Xe σ.bs i=some q:=λi p c=>by
  obtain⟨d,b,_⟩:=Oo (t:=p.1) (cs:=p.2) c;exact⟨_,b⟩
 refine⟨⟨h.see.low,h.see.size,λk s f=>?_,λi t cs c=>?_,h.see.rs,h.see.one⟩,⟨λi p c=>?_,λi k p q c f=>?_,h.sep.ownS,h.sep.disj,λi k p R c f=>?_⟩,h.defers⟩
 ·obtain⟨A,b,rfl⟩:=PZ f;obtain⟨g,o⟩:=h.see.ts k A b;exact⟨by rw[dH u];exact g,n A o⟩
 ·obtain⟨d,b,rfl⟩:=Oo c;obtain⟨g,o⟩:=h.see.bs i t d b;exact⟨by rw[VC u];exact g,e d o⟩
 ·obtain⟨q,b⟩:=m i p c;exact h.sep.own i q b
 ·obtain⟨z,b⟩:=m i p c;obtain⟨B,g⟩:=m k q f;exact h.sep.inj i k z B b g
 ·obtain⟨z,b⟩:=m i p c;exact h.sep.apart i k z R b f
theorem jM(j:Nat)(v:z0)(σ:St): σ.le (Dp j v σ):=⟨by simp[Dp],L8 _⟩
def yE{β:Type}(σ:St)(j:Nat)(val:β->z0)(R:β->Res)(K:(β->St)->Prop): Prop:=ZV (Xe σ.rs j) λρ=>(∀x S w,ρ.φ x S w->∃y,x=val y/\(R y).φ x S w)/\K λy=>Dp j (val y) (Xw j (R y) σ)
theorem fI{β:Type}{j:Nat}{val:β->z0}{R:β->Res}{K:(β->St)->Prop}(h:yE σ j val R K){r:Env}{a:Act}{w:y9}(c:Sat w0 σ r a w): ∃out y d,K out/\Sat w0 (out y) d a w/\Ag σ r d/\σ.le (out y):=by
 obtain⟨g,e,i,h⟩:=QH h;obtain⟨k,l⟩:=c.see.rs j g e;obtain⟨y,m,n⟩:=i _ _ _ k;refine⟨_,y,_,h,(c.turn e (Trn.refl _ _) n (λb f=>⟨.inl f,l b f⟩)).subst m,Bk r _,((Gf j (R y)).trans (jM _ _ _))⟩
end
inductive Dir:Type 1 where
 | o (rid i:Nat) (x:DOp)
 | g (rid i:Nat) (b:Bool)
 | gb (rid i:Nat) (x y:List Dir)
 | reg (n:Nat) (late:List Nat)
 | br (b:Bool)
 | both (x y:List Dir)
 | loop {α:Type} (I:α->St) (C:α->Prop) (μ:α->Nat) (a0:α) (nx:α->Nat->α) (bd:α->List Dir)
 | next (k:Nat)
 | seq (rid i:Nat) (σ':St)
 | eff {β:Type} (rid i j:Nat) (val:β->Value) (R:β->Res) (bd:β->List Dir)
 | mk {β:Type} (rid i:Nat) (is:List Nat) (val:β->Value) (R:β->Res) (bd:β->List Dir)
 | inl (rid i:Nat) (fn:Func)
 | lop {α:Type} (I:α->St) (C:α->Prop) (μ:α->Nat) (a0:α) (nx:α->List Hp->α) (bd:α->List Dir)
 | nxt (u:List Hp)
 | row {α:Type} (rid i b:Nat) (ds:List Nat) (e k:Nat) (c:α->List Value) (l:List α) (bd:Hp->List Dir)
 | nil {α:Type} (rid i e k:Nat) (c:α->List Value)
 | join (rid i x y:Nat)
 | cnv (rid i x:Nat) (R:Res)
 | esc (at_:Nat)
 | opn {β:Type} (rid i j:Nat) (val:β->Value) (R:β->Res) (bd:β->List Dir)
 | unr (n:Nat)
 | fx {β:Type} (rid i j:Nat) (val:β->Value) (R:β->Res) (pn:Value->Prop) (bd:β->List Dir)
 | ord
 | pur (k:Nat)
 | spl (rid i x:Nat) (A B:Res)
 | cut {α:Type} (rid:Nat) (I:α->St) (C:α->Prop) (nx:Nat->List Hp->α) (bd:α->List Dir)
 | nxc (k:Nat) (u:List Hp)
 | cas (rid i:Nat) (b:Bool) (x y:List Dir)
 | giv (rid i b j:Nat) (ds:List Nat) (bd:Nat->List Dir)
def VL(r j a i:Nat): Bool:=Nat.beq r a&&Nat.beq j i
def OD(P:u7)(tt:List (Nat×TI))(w0:y9)(a i:Nat)(o:Oper)(σ:St)(d:List Dir)(K:Out->List Dir->Prop): Prop:=match d with
 | .o r j x::d'=>bif VL r j a i then opD P tt w0 σ o x (λout=>K out d')else yC tt σ o.op (λout=>K out d)
 | d=>yC tt σ o.op (λout=>K out d)
def aQ(σ:St)(ops:Array Oper)(g:Nat): Option Bool:=match ops[g]? with
 | some a=>(match a.dst with
  | some t=>(match YQ t σ.ts with
   | some (.val (.bool x))=>some x
   | _=>none)
  | none=>none)
 | none=>none
def aA(σ:St)(ops:Array Oper)(g:Nat): Bool:=match ops[g]? with
 | some a=>(match a.dst with
  | some t=>(match YQ t σ.ts with
   | some (.val (.tuple _))=>true
   | _=>false)
  | none=>false)
 | none=>false
def oU(x c:Bool)(K:Bool->Prop): Prop:=match x with
 | true=>K c
 | false=>K (!c)
def Hv(ops:Array Oper)(o:Oper)(a i:Nat)(σ:St)(d:List Dir)(K:Bool->List Dir->Prop): Prop:=match o.guard with
 | none=>K true d
 | some (g,c)=>(match aQ σ ops g with
  | some x=>(match d with
   | .g r j b::d'=>bif VL r j a i then x=(bif b then c else !c)/\K b d' else oU x c λb=>K b d
   | .gb r j e dy::_=>bif VL r j a i then(x=c->K true e)/\(x=(!c)->K false dy)else oU x c λb=>K b d
   | d=>oU x c λb=>K b d)
  | none=>Z7 (aA σ ops g) (K false d))
def mP(t:Nat)(c:Bool): List (Nat×SV)->List (Nat×SV)
 | []=>[]
 | (k,v)::l=>bif Nat.beq k t then(match v with | .val (.bool _)=>(k,.val (.bool c))::l|v=>(k,v)::l)else(k,v)::mP t c l
def oT(ops:Array Oper)(o:Oper)(b:Bool)(σ:St): St:=match o.guard with
 | none=>σ
 | some (g,c)=>(match ops[g]? with
  | some a=>(match a.dst with
   | some t=>{ σ with ts:=mP t (bif b then c else !c) σ.ts }
   | none=>σ)
  | none=>σ)
def DH(d:Option Tmp)(n:Nat): Bool:=match d with
 | none=>true
 | some k=>Nat.blt k n
def lX(tt:List (Nat×TI))(σ:St)(t:u6)(x y:b8)(K:St->Prop): Prop:=K3 σ x λs=>match s with
 | .ptr b o=>ZV (Xe σ.bs b) λp=>K3 σ y λu=>Fj tt t λa=>Z7 (Nat.beq u.cells.length a.size&&Nat.ble (o+a.size) p.2.length&&u.cells.all SV.okCell) (K { σ with bs:=VV σ.bs b (p.1,spl p.2 o u.cells) })
 | _=>False
def rV(P:u7)(w0:y9)(o:Oper)(σ e:St): Prop:=∀r a w,Sat w0 σ r a w->∀(Q:Exit->Act->y9->Prop) (next:Act->y9->Prop),(∀b c d,Sat w0 e b c d->Ag σ r b->next c d)->o.wp P a w next Q
def Bf(t:u6)(l:a8): Sem z0:=match l with
 | [p,v]=>do Instr.storeAt t p v;pure undef
 | _=>stuck ""
def G2{β:Type}(P:u7)(W:y9)(val:β->z0)(R:β->Res)(x:z0)(S:Nat->Prop)(m:Sem z0): Prop:=∃y c a,m.run P W=.ok (val y) a/\Trn S W a/\(R y).φ x c a/\∀b,c b->(S b\/W.heap.size<=b)/\b<a.heap.size
def EffP{β:Type}(P:u7)(w0:y9)(σ:St)(a:Res)(l:List SV)(m:a8->Sem z0)(val:β->z0)(R:β->Res): Prop:=∀W,Below w0.heap.size w0 W->Pe σ W (ZK l []) (λ_=>0) λβ =>
 Wr (GA (λb=>Y8 b (ZK l [])) (λ_=>false) l) (∀x S,a.φ x S W->G2 P W val R x S (m (QJ (I3 β) l)))
def FU{β:Type}(P:u7)(w0:y9)(l:List Res)(val:β->z0)(R:β->Res)(m:Sem z0): Prop:=∀W,Below w0.heap.size w0 W->fW W l (O6 P W val R m)
def wO{β:Type}(w0:y9)(val:β->z0)(R:β->Res)(d:z0->Prop)(x:z0)(S:Nat->Prop)(W:y9)(e:Ending)(a:y9): Prop:=(∃y c,e=.returned (val y)/\Trm w0 S W a/\(R y).φ x c a/\∀b,c b->(S b\/W.heap.size<=b)/\b<a.heap.size)\/∃v,d v/\e=.panicked [{ v:=v,recovered:=false }]/\Trm w0 S W a
def FxF{β:Type}(P:u7)(w0:y9)(a:Res)(f:FuncId)(args:b7)(val:β->z0)(R:β->Res)(c:z0->Prop): Prop:=XB P f/\∀W,Below w0.heap.size w0 W->∀x S,(∀b,S b->w0.heap.size<=b/\b<W.heap.size)->a.φ x S W->Calls P f args W (wO w0 val R c x S W)
def nD(σ:St)(w0 W:y9)(S:Nat->Prop): List Nat->(Nat->Nat)->((Nat->Nat)->Prop)->Prop
 | [],β,K=>K β
 | b::l,β,K=>match Xe σ.bs b with
  | some (t,cs)=>bif GA (λ_=>false) (λ_=>false) cs then ∀g,Bx W g t (QJ e0 cs).toArray->w0.heap.size<=g->¬ S g->nD σ w0 W S l (Y9 β b g) K else False
  | none=>False
theorem Mq{σ:St}{w0:y9}{r:Env}{a:Act}{W:y9}(g:Sat w0 σ r a W){j:Nat}{n:Res}(k:Xe σ.rs j=some n): ∀ {l:List Nat} {β:Nat->Nat} {K:(Nat->Nat)->Prop},nD σ w0 W (r.S j) l β K->∃f,K f/\(∀b,b∈l->f b=r.b b)/\∀b,b ∉ l->f b=β b
 | [],β,K,h=>⟨β,h,λ_ h=>(nomatch h),λ_ _=>rfl⟩
 | c::l,β,K,h=>by
  unfold nD at h;split at h
  ·rename_i t cs e;obtain⟨o,h⟩:=Ys h;have d:=(g.see.bs c t cs e).1;rw[YU o]at d;obtain⟨f,p,q,m⟩:=Mq g k (h _ d (g.sep.own c _ e) (g.sep.apart c j _ _ e k));refine⟨f,p,λb d=>?_,λb d=>?_⟩
   ·by_cases i:b∈l
    ·exact q b i
    ·rcases Ll.1 d with rfl|d
     ·rw[m b i];exact Xp _ _ _
     ·exact absurd d i
   ·have s:=m b λu=>d (Sr _ u)
    rw[s];exact XV _ _ λe=>d (by rw[e];simp)
  ·exact h.elim
def FxB{β:Type}(P:u7)(w0:y9)(σ:St)(a:Res)(f:FuncId)(l:List SV)(val:β->z0)(R:β->Res)(c:z0->Prop): Prop:=XB P f/\∀W,Below w0.heap.size w0 W->∀x S,(∀b,S b->w0.heap.size<=b/\b<W.heap.size)->a.φ x S W ->
 nD σ w0 W S (ZK l []) (λ_=>0) λγ=>Wr (GA (λb=>Y8 b (ZK l [])) (λ_=>false) l) (Calls P f (QJ (I3 γ) l).toArray W (wO w0 val R c x S W))
def anyR:Res:=⟨λx _ _=>x.oneCell'=true,λ_ _ _ h=>h,λ_ _ _ _ _ h=>h⟩
abbrev rT:Type 1:=Func->List SV->St->List Dir->(SV->St->List Dir->Prop)->(SV->St->List Dir->Prop)->Prop
structure Cx:Type 1 where
 inl:rT
 pan:SV->St->List Dir->Prop
def QaF(σ:St)(x:b8)(K:SV->Prop): Prop:=K3 σ x λs=>match s with
 | .val (.iface _ _)=>K s
 | _=>False
def zo(a i:Nat): List Dir->Bool
 | .seq r j _::_=>VL r j a i
 | .eff r j _ _ _ _::_=>VL r j a i
 | .mk r j _ _ _ _::_=>VL r j a i
 | .inl r j _::_=>VL r j a i
 | .fx r j _ _ _ _ _::_=>VL r j a i
 | _=>false
def sU(P:u7)(H:Cx)(w0:y9)(o:Oper)(σ:St)(d:List Dir)(K:St->List Dir->Prop): Prop:=match d with
 | .seq _ _ g::d'=>rV P w0 o σ g/\Z7 (leB σ g) (K g d')
 | .eff _ _ j val R e::_=>ZV (Xe σ.rs j) λi=>Z7 (DH o.dst σ.n) (match o.op with
  | .call c=>(match c.callee with
   | .builtin b=>gJ σ c.args.toList λl=>EffP P w0 σ i l (VG b c.argTypes o.type) val R/\∀y,K ((Xw j (R y) σ).push o.dst (.val (val y))) (e y)
   | _=>False)
  | .store t x y=>gJ σ [x,y] λl=>EffP P w0 σ i l (Bf t) (λ_=>undef) R/\∀y,K ((Xw j (R y) σ).push o.dst (.val undef)) (e y)
  | .slice t x q r u=>gJ σ [x] λl=>vO σ q λa=>vO σ r λb=>vO σ u λc=>EffP P w0 σ i l (λl=>Instr.sliceAt t (l.headD undef) a b c) val R/\∀y,K ((Xw j (R y) σ).push o.dst (.val (val y))) (e y)
  | .next w k=>gJ σ [w] λl=>EffP P w0 σ i l (λl=>Instr.next (l.headD undef) k o.type) val R/\∀y,K ((Xw j (R y) σ).push o.dst (.val (val y))) (e y)
  | _=>False)
 | .mk _ _ z val R e::_=>Z7 (DH o.dst σ.n) (WX σ z λm=>match o.op with
  | .call c=>(match c.callee with
   | .builtin b=>vL σ c.args.toList λl=>FU P w0 m val R (VG b c.argTypes o.type l)/\∀y,K ((Kz (R y) σ).push o.dst (.val (val y))) (e y)
   | _=>JC σ c λf l=>Z7 (GA (λ_=>false) (λ_=>false) l) (NewIn P w0 m f (QJ e0 l).toArray val R/\∀y,K ((Kz (R y) σ).push o.dst (.val (val y))) (e y)))
  | .makeSlice t x y=>v1 σ x λa=>v1 σ y λb=>FU P w0 m val R (Instr.makeSlice t a b)/\∀y,K ((Kz (R y) σ).push o.dst (.val (val y))) (e y)
  | .convert s t x=>v1 σ x λa=>FU P w0 m val R (Go.convert s t a)/\∀y,K ((Kz (R y) σ).push o.dst (.val (val y))) (e y)
  | .range t x=>v1 σ x λa=>FU P w0 m val R (Instr.range t a)/\∀y,K ((Kz (R y) σ).push o.dst (.val (val y))) (e y)
  | _=>False)
 | .inl _ _ fn::d'=>(match o.op with
  | .call c=>JC σ c λf l=>P.funcs[f]?=some fn/\XB P f/\Z7 (σ.ltL l&&DH o.dst σ.n) (H.inl fn l σ d' (λs g h=>K (({ σ with bs:=g.bs,rs:=g.rs }:St).push o.dst s) h) λs g h=>H.pan s { σ with bs:=g.bs,rs:=g.rs } h)
  | _=>False)
 | .fx _ _ j val R p e::_=>ZV (Xe σ.rs j) λi=>Z7 (DH o.dst σ.n) (match o.op with
  | .call c=>JC σ c λf l=>FxB P w0 σ i f l val R p/\(∀y,K ((Xw j (R y) σ).push o.dst (.val (val y))) (e y))/\∀v,p v->H.pan (.val v) (Xw j anyR σ) []
  | _=>False)
 | _=>False
def Jo(a i:Nat): Nat->St->List Dir->(St->List Dir->Prop)->Prop
 | 0,σ,d,K=>K σ d
 | n+1,σ,d,K=>match d with
  | .row r j b ds e k c l f::d'=>(match VL r j a i with
   | true=>zd σ b ds e k c l λout=>∀y,Jo a i n (out y) (f y) K
   | false=>K σ (.row r j b ds e k c l f::d'))
  | .nil r j e k c::d'=>(match VL r j a i with
   | true=>Jo a i n (Kz (Qc e k c [] none 0) σ) d' K
   | false=>K σ (.nil r j e k c::d'))
  | .join r j x y::d'=>(match VL r j a i with
   | true=>su σ x y λh=>Jo a i n h d' K
   | false=>K σ (.join r j x y::d'))
  | .cnv r j x R::d'=>(match VL r j a i with
   | true=>xJ σ x R λh=>Jo a i n h d' K
   | false=>K σ (.cnv r j x R::d'))
  | .spl r j x A B::d'=>(match VL r j a i with
   | true=>zp σ x A B λh=>Jo a i n h d' K
   | false=>K σ (.spl r j x A B::d'))
  | .opn r m j val R f::d'=>(match VL r m a i with
   | true=>yE σ j val R λout=>∀y,Jo a i n (out y) (f y) K
   | false=>K σ (.opn r m j val R f::d'))
  | .giv r m b j ds f::d'=>(match VL r m a i with
   | true=>xX σ b j ds λout=>∀g,Jo a i n (out g) (f g) K
   | false=>K σ (.giv r m b j ds f::d'))
  | .cas r j b x y::d'=>(match VL r j a i with
   | true=>(b=true->Jo a i n σ x K)/\(b=false->Jo a i n σ y K)
   | false=>K σ (.cas r j b x y::d'))
  | d=>K σ d
def dG(P:u7)(tt:List (Nat×TI))(H:Cx)(w0:y9)(a i:Nat)(o:Oper)(σ:St)(d:List Dir)(K:St->List Dir->Prop): Prop:=match zo a i d with
 | true=>sU P H w0 o σ d K
 | false=>(match o.op with
  | .store t x y=>Z7 (DH o.dst σ.n) (lX tt σ t x y λb=>K (b.push o.dst (.val undef)) d)
  | .panic x=>QaF σ x λs=>H.pan s σ d
  | _=>Z7 (DH o.dst σ.n) (OD P tt w0 a i o σ d λout c=>Z7 (σ.fits out) (K ((σ.grow out).push o.dst out.s) c)))
def JU(P:u7)(tt:List (Nat×TI))(H:Cx)(w0:y9)(a:Nat)(ops:Array Oper): List Oper->Nat->St->List Dir->(St->List Dir->Prop)->Prop
 | [],_,σ,d,K=>K σ d
 | o::l,i,σ,d,K=>Hv ops o a i σ d λb d=>(λσ=>match b with
  | true=>Jo a i 4 σ d λσ d=>dG P tt H w0 a i o σ d λσ d=>JU P tt H w0 a ops l (i+1) σ d K
  | false=>Z7 (DH o.dst σ.n) (JU P tt H w0 a ops l (i+1) (σ.push o.dst (.val undef)) d K)) (oT ops o b σ)
section
variable {P:Program} {tt:List (Nat×TI)} {w0:World} {σ:St}
theorem Ni(c:YF P tt){a i:Nat}{o:Oper}{d:List Dir}{K:Out->List Dir->Prop}(e:∀out d,K out d->σ.fits out=true)(h:OD P tt w0 a i o σ d K): ∃b,UA P w0 o σ λout=>K out b:=by
 unfold OD at h;split at h
 ·rename_i r j x b;cases f:VL r j a i with
  | true=>rw[f]at h;exact⟨b,vf c (λout=>e out b) h⟩
  | false=>rw[f]at h;exact⟨_,WN c (λout=>e out _) h⟩
 ·exact⟨_,WN c (λout=>e out _) h⟩
theorem FY{ops:Array Oper}{g:Nat}{x:Bool}(h:aQ σ ops g=some x){r:Env}{a:Act}{w:y9}(d:See w0 σ r a w): yielded ops a.tmps g=some x:=by
 unfold aQ at h;split at h
 ·rename_i k e;split at h
  ·rename_i t f;split at h
   ·rename_i y i;obtain rfl:=hW h;have b:=(d.ts _ _ i).1;unfold yielded;rw[e,Su,f,Su];have j:a.tmps[t]?=some (.bool y):=by
     rcases Lx t a.tmps.size with c|c
     ·simp[c]at b ⊢;exact b
     ·simp[c,SV.den,undef]at b
    rw[j]
   ·cases h
  ·cases h
 ·cases h
theorem TM{ops:Array Oper}{g:Nat}(h:aA σ ops g=true){r:Env}{a:Act}{w:y9}(e:See w0 σ r a w): yielded ops a.tmps g=none:=by
 unfold aA at h;split at h
 ·rename_i k f;split at h
  ·rename_i t i;split at h
   ·rename_i y j;have d:=(e.ts _ _ j).1;unfold yielded;rw[f,Su,i,Su];rcases Lx t a.tmps.size with b|b
    ·have c:a.tmps[t]?=some (.tuple y):=by simp[b]at d ⊢;exact d
     rw[c]
    ·have c:a.tmps[t]?=none:=by simp[b]
     rw[c]
   ·cases h
  ·cases h
 ·cases h
theorem DV{ops:Array Oper}{o:Oper}{l i:Nat}{d:List Dir}{K:Bool->List Dir->Prop}(h:Hv ops o l i σ d K): ∃b m,K b m/\∀r a w,See w0 σ r a w->Region.wanted o (yielded ops a.tmps)=b:=by
 unfold Hv at h;split at h
 ·rename_i p;exact⟨true,d,h,λr a w _=>by simp[Region.wanted,p]⟩
 ·rename_i g c p;split at h
  ·rename_i x t;have key:∀r a w,See w0 σ r a w->Region.wanted o (yielded ops a.tmps)=(x==c):=λr a w f=>by
    have q:=FY t f;unfold Region.wanted;rw[p];show(yielded ops a.tmps g==some c)=(x==c);rw[q];rfl
   have k:∀d,oU x c (λb=>K b d)->∃b m,K b m/\∀r a w,See w0 σ r a w->Region.wanted o (yielded ops a.tmps)=b:=λd h=>by
    cases x with
    | true=>exact⟨c,d,h,λr a w f=>by rw[key r a w f];cases c<;>rfl⟩
    | false=>exact⟨!c,d,h,λr a w f=>by rw[key r a w f];cases c<;>rfl⟩
   split at h
   ·rename_i s j b m;cases n:VL s j l i with
    | true =>
     rw[n]at h;refine⟨b,m,h.2,λr a w f=>?_⟩;rw[key r a w f,h.1];cases b<;>cases c<;>rfl
    | false=>rw[n]at h;exact k _ h
   ·rename_i s j u dy _;cases n:VL s j l i with
    | true =>
     rw[n]at h;by_cases e:x=c
     ·exact⟨true,u,h.1 e,λr a w f=>by rw[key r a w f,e];simp⟩
     ·exact⟨false,dy,h.2 (by cases x<;>cases c<;>simp_all),λr a w f=>by rw[key r a w f];simpa using e⟩
    | false=>rw[n]at h;exact k _ h
   ·exact k _ h
  ·obtain⟨q,v⟩:=Qp h;refine⟨false,d,v,λr a w f=>?_⟩;unfold Region.wanted;rw[p];show(yielded ops a.tmps g==some c)=false;rw[TM q f];rfl
theorem dW{t:Nat}{c:Bool}: ∀ {l:List (Nat×SV)},(∀x,YQ t l=some (.val (.bool x))->x=c)->mP t c l=l
 | [],_=>rfl
 | (k,v)::l,h=>by
  unfold mP;cases a:Nat.beq k t with
  | true =>
   show(match v with | .val (.bool _)=>(k,SV.val (.bool c))::l|v=>(k,v)::l)=_;split
   ·rename_i x;rw[h x (by unfold YQ;rw[a];rfl)]
   ·rfl
  | false =>
   show(k,v)::mP t c l=_;rw[dW λx b=>h x (by unfold YQ;rw[a];exact b)]
theorem bU{ops:Array Oper}{o:Oper}{b:Bool}{r:Env}{a:Act}{w:y9}(h:See w0 σ r a w)(d:Region.wanted o (yielded ops a.tmps)=b): oT ops o b σ=σ:=by
 unfold oT;split
 ·rfl
 ·rename_i g c e;split
  ·rename_i i j;split
   ·rename_i t k;rw[dW];intro x l;have m:=FY (ops:=ops) (g:=g) (x:=x) (by unfold aQ;rw[j];show(match i.dst with|some t=>_|none=>_)=_;rw[k];show(match YQ t σ.ts with|some (.val (.bool x))=>some x|_=>none)=_;rw[l]) h;unfold Region.wanted at d;rw[e]at d;have f:(yielded ops a.tmps g==some c)=b:=d;rw[m]at f;cases x<;>cases c<;>cases b<;>first|rfl|exact absurd f x4
   ·rfl
  ·rfl
theorem n9{d:Option Tmp}{n:Nat}(h:DH d n=true): ∀k,d=some k->k<n:=by
 rintro k rfl;exact Q1 h
theorem Sat.put{r:Env}{a:Act}{w:y9}(h:Sat w0 σ r a w){d:Option Tmp}{s:SV}(b:DH d σ.n=true)(hs:σ.lt s=true): Sat w0 (σ.push d s) r (a.put d (s.den r)) w:=by
 refine⟨h.see.push (n9 b) hs,?_,?_⟩
 ·obtain⟨c,e,f,g,i⟩:=h.sep;cases d<;>exact⟨c,e,f,g,i⟩
 ·have:=h.defers;cases d<;>exact this
theorem Sat.yield{r:Env}{a:Act}{w b:y9}(h:Sat w0 σ r a w){o:Out}{γ:Gh}{d:Option Tmp}(c:Below w.heap.size w b)(e:σ.fits o=true)(g:DH d σ.n=true)(f:Made (r.add' σ γ) o γ w b):
  Sat w0 ((σ.grow o).push d o.s) (r.add' σ γ) (a.put d (o.s.den (r.add' σ γ))) b:=by
 have i:=h.see.grow c e f;have j:=h.sep.grow h.see c f;exact Sat.put ⟨i,j,h.defers⟩ g (om e)
def Aa(w0:y9)(σ:St)(r:Env)(w:y9): Prop:=Sat w0 ⟨0,[],σ.bs,σ.rs⟩ r ⟨#[],[]⟩ w
theorem Sat.mem{r:Env}{a:Act}{w:y9}(h:Sat w0 σ r a w): Aa w0 σ r w :=
 ⟨⟨h.see.low,rfl,(λ_ _ h=>nomatch h),h.see.bs,h.see.rs,h.see.one⟩,⟨h.sep.own,h.sep.inj,h.sep.ownS,h.sep.disj,h.sep.apart⟩,rfl⟩
theorem Sat.back{σ':St}{r c:Env}{a:Act}{w e:y9}(h:Sat w0 σ r a w)(b:Aa w0 σ' c e)(f:σ.le σ')(j:Ag σ r c): Sat w0 { σ with bs:=σ'.bs,rs:=σ'.rs } c a e:=by
 refine⟨⟨b.see.low,h.see.size,λk s l=>?_,b.see.bs,b.see.rs,b.see.one⟩,⟨b.sep.own,b.sep.inj,b.sep.ownS,b.sep.disj,b.sep.apart⟩,h.defers⟩;obtain⟨m,g⟩:=h.see.ts k s l;exact⟨by rw[j.den g];exact m,Ke (λi d=>YA (Lb (Q1 d) f.1)) (λi d=>YA (Lb (Q1 d) f.2)) s g⟩
def I0(P:u7)(w0:y9)(H:rT): Prop:=∀fn l σ d K g,H fn l σ d K g->∀f,P.funcs[f]?=some fn->σ.ltL l=true->∀r w,Aa w0 σ r w->∀R:Ending->y9->Prop,
 (∀s a e b c,K s a e->Aa w0 a b c->Ag σ r b->σ.le a->a.lt s=true->R (.returned (s.den b)) c) ->
 (∀s a e b c,g s a e->Aa w0 a b c->Ag σ r b->σ.le a->a.lt s=true->R (.panicked [{ v:=s.den b,recovered:=false }]) c)->Calls P f (QJ r l).toArray w R
def PanTo(w0:y9)(H:Cx)(σ:St)(r:Env)(Q:Exit->Act->y9->Prop): Prop:=∀s a e b c d,H.pan s a e->Sat w0 a b c d->Ag σ r b->σ.le a->a.lt s=true->Q (.panic [{ v:=s.den b,recovered:=false }]) c d
theorem PanTo.later{H:Cx}{c:St}{r d:Env}{Q:Exit->Act->y9->Prop}(h:PanTo w0 H σ r Q)(f:Ag σ r d)(e:σ.le c): PanTo w0 H c d Q :=
 λs g i j k l m n a b hs=>h s g i j k l m n (f.trans e a) (e.trans b) hs
theorem EffP.use{β:Type}{e:Res}{l:List SV}{m:a8->Sem z0}{val:β->z0}{R:β->Res}(h:EffP P w0 σ e l m val R){r:Env}{a:Act}{w:y9}{j:Nat}(c:Sat w0 σ r a w)(f:Xe σ.rs j=some e):
  ∃y d g,(m (QJ r l)).run P w=.ok (val y) d/\Sat w0 (Xw j (R y) σ) g a d/\Ag σ r g:=by
 obtain⟨k,n,o,_⟩:=Vw c.see (h w c.see.low);obtain⟨p,i⟩:=Vz n;have q:QJ (I3 k) l=QJ r l:=Xt (λb=>Y8 b (ZK l [])) (λ_=>false) (λb s=>o b (memB_mem.1 s)) (λ_ h=>nomatch h) l p;rw[q]at i;obtain⟨y,z,d,t,u,v,x⟩:=i _ _ (c.see.rs j e f).1;exact⟨y,d,_,t,c.turn f u v x,Bk r _⟩
theorem gl{t:u6}{p v u:z0}{w a:y9}(h:(Bf t [p,v]).run P w=.ok u a): (Instr.storeAt t p v).run P w=.ok () a:=by
 unfold Bf at h;rw[p0]at h;cases e:(Instr.storeAt t p v).run P w with
 | ok x b =>
  rw[e]at h;injection h with _ h
  rw[h]
 | halt x b=>rw[e]at h;cases h
theorem VU:∀(a:a8) (k:Nat) (w:y9) (g b:Nat),b≠g->(Dm w g k a).heap[b]?=w.heap[b]?
 | [],_,_,_,_,_=>rfl
 | v::a,k,w,g,b,h=>(VU a (k+1) (w.setCell ⟨g,k,none⟩ v) g b h).trans (S5 w ⟨g,k,none⟩ v b h)
theorem gi(Z:YF P tt){o:Oper}{t:u6}{x y:b8}(ho:o.op=.store t x y){K:St->Prop}(h:lX tt σ t x y K)(hd:DH o.dst σ.n=true):
  ∃H,K H/\σ.le H/\rV P w0 o σ (H.push o.dst (.val undef)):=by
 obtain⟨s,h1,h⟩:=QF h;split at h
 case h_2=>exact h.elim
 rename_i b p;obtain⟨⟨bt,cs⟩,C,h⟩:=QH h;obtain⟨u,h3,h⟩:=QF h;obtain⟨ti,h4,h⟩:=Xz Z h;obtain⟨I,h⟩:=Qp h;obtain⟨I,c3⟩:=L6.1 I;obtain⟨J,L⟩:=L6.1 I;have J:=Le J;have L:=L3 L;refine⟨_,h,⟨by simp[XH],L8 _⟩,λr a w f Q next hn=>?_⟩;obtain⟨e1,l1⟩:=Qy f.see h1;obtain⟨e3,M⟩:=Qy f.see h3;obtain⟨V,N⟩:=f.see.bs b bt cs C;have d:=CY f.see M;have O:(u.den r).cells.size=ti.size:=by rw[<- S7,<- d,J6,J]
 have D:=GW P t p _ h4 V O (by rw[J6];exact L) (λv W=>by
  rw[<- d,XE]at W;obtain⟨z,X,rfl⟩:=Ri.1 W;exact WL f.see (okL_all.1 (F5 M) z X) (Lc.1 c3 z X))
 unfold Oper.wp;have g:(execOp a.eval o).run P w=.ok .skip (Dm w (r.b b) p (u.den r).cells.toList):=by
  unfold execOp;rw[ho];simp only[e1,e3,SV.den,p0,D,p7];rfl
 rw[g];refine hn r _ _ (Sat.put (s:=.val undef) ⟨?_,?_,f.defers⟩ hd rfl) (Ag.refl _ _)
 ·have E:=f.sep.own b _ C;have A:∀i q,Xe σ.bs i=some q->i≠b->r.b i≠r.b b:=λi q c A=>f.sep.inj i b _ _ c C A
  refine⟨stN E _ _ f.see.low,f.see.size,λk s hk=>(by have m:=f.see.ts k s hk;simp only[St.lt,XH]at m ⊢;exact m),λi t' S c=>?_,λi R c=>?_,f.see.one⟩
  ·have T:∀l,({ σ with bs:=VV σ.bs b (bt,spl cs p u.cells) }:St).ltL l=σ.ltL l:=λl=>by simp only[St.ltL,XH]
   rw[T];by_cases e:i=b
   ·subst e;rw[Qas C]at c;simp only[Option.some.injEq,Prod.mk.injEq]at c;obtain⟨rfl,rfl⟩:=c;have m:=Bx.stores (u.den r).cells.toList p V;have hs:QJ r (spl cs p u.cells)=spl (QJ r cs) p (QJ r u.cells):=by simp only[XE,FN]
    rw[SC,<- d,<- hs]at m;rw[<- d];exact⟨m,FI N (F5 M)⟩
   ·rw[Dn e]at c;obtain⟨m,U⟩:=f.see.bs i t' S c;exact⟨Bx.farN (A i _ c e) _ _ m,U⟩
  ·obtain⟨m,U⟩:=f.see.rs i R c;refine⟨R.loc _ _ _ _ (λY B=>VU _ _ _ _ _ λe=>f.sep.apart b i _ _ C c (e▸B)) m,λY B=>?_⟩;rw[JY];exact U Y B
 ·have g:∀i q,Xe (VV σ.bs b (bt,spl cs p u.cells)) i=some q->∃F,Xe σ.bs i=some F:=λi q c=>by
   by_cases e:i=b
   ·subst e;exact⟨_,C⟩
   ·rw[Dn e]at c;exact⟨_,c⟩
  obtain⟨s1,s2,s3,s4,s5⟩:=f.sep;refine⟨λi q c=>?_,λi j q F c G=>?_,s3,s4,λi j q R c G=>?_⟩
  ·obtain⟨F,c⟩:=g i q c;exact s1 i F c
  ·obtain⟨z,c⟩:=g i q c;obtain⟨z',G⟩:=g j F G;exact s2 i j z z' c G
  ·obtain⟨z,c⟩:=g i q c;exact s5 i j z R c G
theorem ST(hT:YF P tt){H:Cx}(hH:I0 P w0 H.inl){ad i:Nat}{o:Oper}{d:List Dir}{K:St->List Dir->Prop}(h:dG P tt H w0 ad i o σ d K):
  ∀r a w,Sat w0 σ r a w->∀(Q:Exit->Act->World->Prop) (next:Act->World->Prop),PanTo w0 H σ r Q->(∀G U B T g,K G U->Sat w0 G B T g->Ag σ r B->σ.le G->next T g)->o.wp P a w next Q:=by
 unfold dG at h;split at h
 ·unfold sU at h;split at h
  ·rename_i G U;intro r a w hS Q next M z
   obtain⟨V,p⟩:=Qp h.2;exact h.1 r a w hS Q next λB T g k n=>z _ _ B T g p k n (jL V)
  ·rename_i _ _ j val R bd _ _;intro r a w hS Q next M z
   obtain⟨R0,E,h⟩:=QH h;obtain⟨hd,h⟩:=Qp h;have F:∀ {op:Op},o.op=op->∀O,execOp O o=execOp O { o with op:=op }:=λe O=>by rw[<- e]
   split at h
   ·rename_i c e;split at h
    ·rename_i b I;obtain⟨l,⟨h,p⟩,k⟩:=Z5 w0 h;obtain⟨y,g,B,n,q,C⟩:=h.use hS E;have D:(execOp a.eval o).run P w=.ok (.value (val y)) g:=by
      rw[F e];unfold execOp
      unfold VG at n;split at n;all_goals first|(simp[resolve,I,invoke,builtin,JB _ _ _ (k r a w hS.see).1,n];done)|(cases n;done)
     unfold Oper.wp;rw[D];exact z _ _ B _ g (p y) (Sat.put (s:=.val _) q hd rfl) C ((Gf j _).trans (Yw _ _ _))
    ·exact h.elim
   ·rename_i t x y0 e;obtain⟨l,⟨h,p⟩,k⟩:=Z5 w0 h;obtain⟨y,g,B,n,q,C⟩:=h.use hS E;rw[<- (k r a w hS.see).1]at n;have J:=gl n;have D:(execOp a.eval o).run P w=.ok .skip g:=by
     rw[F e];unfold execOp
     simp only[p0,J,p7];rfl
    unfold Oper.wp;rw[D];exact z _ _ B _ g (p y) (Sat.put (s:=.val undef) q hd rfl) C ((Gf j _).trans (Yw _ _ _))
   ·rename_i t x lo hi mx e;obtain⟨l,h,k⟩:=Z5 w0 h;obtain⟨va,h,ha⟩:=Gn w0 h;obtain⟨vb,h,N⟩:=Gn w0 h;obtain⟨vc,⟨h,p⟩,I⟩:=Gn w0 h;obtain⟨y,g,B,n,q,C⟩:=h.use hS E;rw[<- (k r a w hS.see).1,<- ha r a w hS.see,<- N r a w hS.see,<- I r a w hS.see]at n;unfold Oper.wp;rw[show execOp a.eval o=(do pure (.value (<- Instr.sliceAt t (([x].map a.eval).headD undef) (lo.map a.eval) (hi.map a.eval) (mx.map a.eval))):Sem Next)by rw[F e];rfl,XI n];exact z _ _ B _ g (p y) (Sat.put (s:=.val _) q hd rfl) C ((Gf j _).trans (Yw _ _ _))
   ·rename_i it ae e;obtain⟨l,⟨h,p⟩,k⟩:=Z5 w0 h;obtain⟨y,g,B,n,q,C⟩:=h.use hS E;rw[<- (k r a w hS.see).1]at n;unfold Oper.wp;rw[show execOp a.eval o=(do pure (.value (<- Instr.next (([it].map a.eval).headD undef) ae o.type)):Sem Next)by rw[F e];rfl,XI n];exact z _ _ B _ g (p y) (Sat.put (s:=.val _) q hd rfl) C ((Gf j _).trans (Yw _ _ _))
   ·exact h.elim
  ·rename_i _ _ is val R bd _ _;intro r a w hS Q next M z
   obtain⟨hd,h⟩:=Qp h;obtain⟨m,h,L⟩:=GT w0 h;have F:∀ {op:Op},o.op=op->∀O,execOp O o=execOp O { o with op:=op }:=λe O=>by rw[<- e]
   have fin:∀ {s:Sem Value},FU P w0 m val R s->execOp a.eval o=(do pure (.value (<- s)):Sem Next)->(∀y,K ((Kz (R y) σ).push o.dst (.val (val y))) (bd y))->o.wp P a w next Q:=λ{s} k n p=>by
    obtain⟨y,x,S,g,q,C,D,J⟩:=L r a w _ hS.see (k w hS.see.low);unfold Oper.wp;rw[n,XI q];exact z _ _ _ _ g (p y) (Sat.put (s:=.val _) (hS.fresh C D J) hd rfl) (Ag.add _ _ _) ((Od _).trans (Yw _ _ _))
   split at h
   ·rename_i c e;split at h
    ·rename_i b I;obtain⟨l,⟨h,p⟩,k⟩:=Du w0 h;obtain⟨y,x,S,g,q,C,D,J⟩:=L r a w _ hS.see (h w hS.see.low);have h7:(execOp a.eval o).run P w=.ok (.value (val y)) g:=by
      rw[F e];unfold execOp
      unfold VG at q;split at q;all_goals first|(simp[resolve,I,invoke,builtin,JB _ _ _ (k r a w hS.see),q];done)|(cases q;done)
     unfold Oper.wp;rw[h7];exact z _ _ _ _ g (p y) (Sat.put (s:=.val _) (hS.fresh C D J) hd rfl) (Ag.add _ _ _) ((Od _).trans (Yw _ _ _))
    ·obtain⟨f,l,h,_,W⟩:=Yp P w0 h;obtain⟨p1,⟨X,I⟩,p⟩:=Qp h;unfold Oper.wp;rw[W o e X r a w hS.see,YU p1];show Calls P f _ w _;refine(L r a w _ hS.see (I w hS.see.low)).mono ?_
     rintro e g ⟨y,x,S,rfl,D,J,C⟩;exact z _ _ _ _ g (p y) (Sat.put (s:=.val _) (hS.fresh C D J) hd rfl) (Ag.add _ _ _) ((Od _).trans (Yw _ _ _))
   ·rename_i t x y e;obtain⟨v,h,k⟩:=Xm w0 h;obtain⟨u,h,n⟩:=Xm w0 h;exact fin h.1 (by rw[F e];unfold execOp;simp only[k r a w hS.see,n r a w hS.see]) h.2
   ·rename_i s t x e;obtain⟨v,h,k⟩:=Xm w0 h;exact fin h.1 (by rw[F e];unfold execOp;simp only[k r a w hS.see]) h.2
   ·rename_i t x e;obtain⟨v,h,k⟩:=Xm w0 h;exact fin h.1 (by rw[F e];unfold execOp;simp only[k r a w hS.see]) h.2
   ·exact h.elim
  ·rename_i fn U _;split at h
   ·rename_i c e;obtain⟨f,l,h,_,W⟩:=Yp P w0 h;obtain⟨hf,X,h⟩:=h;obtain⟨V,h⟩:=Qp h;obtain⟨V,hd⟩:=L6.1 V;intro r a w hS Q next M z
    unfold Oper.wp;rw[W o e X r a w hS.see];show Calls P f _ w _;refine hH fn l σ U _ _ h f hf V r w hS.mem _ (λs G Y B g p L Z A hs=>?_) λs G Y B g p L Z A hs=>M s _ Y B a g p (hS.back L A Z) Z ⟨A.1,A.2⟩ hs
    exact z _ _ B _ g p ((hS.back L A Z).put hd hs) Z (St.le.trans (σ':={ σ with bs:=G.bs,rs:=G.rs }) ⟨A.1,A.2⟩ (Yw _ _ _))
   ·exact h.elim
  ·rename_i _ _ j val R pn bd _ _;intro r a w hS Q next M z
   obtain⟨R0,E,h⟩:=QH h;obtain⟨hd,h⟩:=Qp h;split at h
   ·rename_i c e;obtain⟨f,l,h,_,W⟩:=Yp P w0 h;obtain⟨⟨X,I⟩,p,hp⟩:=h;have hR:=hS.see.rs j R0 E;obtain⟨γ,k,n,_⟩:=Mq hS E (I w hS.see.low _ _ (λb N=>⟨hS.sep.ownS j R0 E b N,hR.2 b N⟩) hR.1);obtain⟨c1,q⟩:=Vz k;have e1:QJ (I3 γ) l=QJ r l:=Xt (λb=>Y8 b (ZK l [])) (λ_=>false) (λb N=>n b (memB_mem.1 N)) (λ_ h=>nomatch h) l c1;rw[e1]at q;unfold Oper.wp;rw[W o e X r a w hS.see];show Calls P f _ w _;refine q.mono ?_
    rintro e g (⟨y,S',rfl,D,J,h7⟩|⟨v,hv,rfl,D⟩)
    ·exact z _ _ _ _ g (p y) (Sat.put (s:=.val _) (hS.turm E D J h7) hd rfl) (Bk r _) ((Gf j _).trans (Yw _ _ _))
    ·exact M (.val v) _ _ _ a g (hp v hv) (hS.turm (R':=anyR) (S':=λ_=>False) E D (hS.see.one j (XC E)) (λ_ h=>h.elim)) (Bk r _) (Gf j _) rfl
   ·exact h.elim
  ·exact h.elim
 ·split at h
  ·rename_i t x y ho;obtain⟨hd,h⟩:=Qp h;obtain⟨G,k,A,n⟩:=gi (w0:=w0) hT ho h hd;exact λr a w hS Q next _ z=>n r a w hS Q next λB T g q C=>z _ _ B T g k q C (A.trans (Yw _ _ _))
  ·rename_i x e;obtain⟨s,k,h⟩:=QF h;split at h
   ·rename_i t v;intro r a w hS Q next M z
    have n:(execOp a.eval o).run P w=.halt (.panic (.iface t v)) w:=by
     have F:execOp a.eval o=execOp a.eval { o with op:=.panic x }:=by rw[<- e]
     rw[F];unfold execOp
     simp only[(Qy hS.see k).1,SV.den,p0];simp[Instr.panic,goPanic,go_sem]
    unfold Oper.wp;rw[n];exact M _ _ _ r a w h hS (Ag.refl _ _) (St.le.refl _) rfl
   ·exact h.elim
  ·obtain⟨hd,h⟩:=Qp h;obtain⟨U,out,k,n⟩:=Ni hT (λout d h=>(Qp h).1) h;obtain⟨hf,q⟩:=Qp k;exact λr a w hw Q next _ z=>n r a w hw.see Q next λu γ g hu N L=>by
    subst hu;exact z _ _ _ _ _ q (hw.yield N hf hd L) (Ag.add _ _ _) ((oJ _ _).trans (Yw _ _ _))
theorem GJ{q i:Nat}{K:St->List Dir->Prop}: ∀(n:Nat) {σ:St} {d:List Dir},Jo q i n σ d K->∀r a w,Sat w0 σ r a w->∃m s o,K m s/\Sat w0 m o a w/\Ag σ r o/\σ.le m
 | 0,σ,d,h,r,a,w,l=>⟨σ,d,r,h,l,Ag.refl _ _,St.le.refl _⟩
 | n+1,σ,d,h,r,a,w,l=>by
  have step:∀ {p:St} {t:List Dir} {r1:Env},Jo q i n p t K->Sat w0 p r1 a w->Ag σ r r1->σ.le p->∃m s o,K m s/\Sat w0 m o a w/\Ag σ r o/\σ.le m:=λf k j e=>by
   obtain⟨u,v,z,k1,A,B,C⟩:=GJ n f _ a w k;exact⟨u,v,z,k1,A,j.trans e B,e.trans C⟩
  have c:∀ {t:List Dir},K σ t->∃m s o,K m s/\Sat w0 m o a w/\Ag σ r o/\σ.le m:=λf=>⟨σ,_,r,f,l,Ag.refl _ _,St.le.refl _⟩
  unfold Jo at h;split at h
  ·split at h
   ·obtain⟨f,k⟩:=fX (w0:=w0) h;obtain⟨y,o,j,e⟩:=f r a w l;exact step (k y) j e (uA _ _ _ _ _ _ y)
   ·exact c h
  ·split at h
   ·obtain⟨_,o,j,e⟩:=pw _ _ _ r a w l;exact step h j e (Od _)
   ·exact c h
  ·split at h
   ·obtain⟨p,r1,f,k,j,e⟩:=Wu h l;exact step f k j e
   ·exact c h
  ·split at h
   ·obtain⟨p,r1,f,k,j,e⟩:=eC h l;exact step f k j e
   ·exact c h
  ·split at h
   ·obtain⟨p,r1,f,k,j,e⟩:=gg h l;exact step f k j e
   ·exact c h
  ·split at h
   ·obtain⟨out,y,r1,f,k,j,e⟩:=fI h l;exact step (f y) k j e
   ·exact c h
  ·split at h
   ·obtain⟨out,f,k,j⟩:=fj (w0:=w0) h;obtain⟨g,o,e,D⟩:=k r a w l;exact step (f g) e D (j g)
   ·exact c h
  ·split at h
   ·rename_i b x y _ _ _;cases b with
    | true=>exact step (h.1 rfl) l (Ag.refl _ _) (St.le.refl _)
    | false=>exact step (h.2 rfl) l (Ag.refl _ _) (St.le.refl _)
   ·exact c h
  ·exact c h
theorem KQ(t:YF P tt){H:Cx}(u:I0 P w0 H.inl){v:Nat}{ops:Array Oper}: ∀(l:List Oper) (i:Nat) (σ:St) (d:List Dir) (K:St->List Dir->Prop),JU P tt H w0 v ops l i σ d K ->
  ∀r a w,Sat w0 σ r a w->∀(Q:Exit->Act->y9->Prop),PanTo w0 H σ r Q->(∀x R k n p,K x R->Sat w0 x k n p->Ag σ r k->σ.le x->Q .normal n p)->wpList P ops Q l a w
 | [],i,σ,d,K,h=>λr a w c Q _ q=>q σ d r a w h c (Ag.refl _ _) (St.le.refl _)
 | o::l,i,σ,d,K,h=>by
  obtain⟨b,S,y,z⟩:=DV (w0:=w0) h;intro r a w c Q A q;rw[bU c.see (z r a w c.see)]at y;cases b with
  | true =>
   unfold wpList;rw[if_pos (z r a w c.see)];obtain⟨X,T,r1,k1,U,N,B⟩:=GJ 4 y r a w c;exact .inl (ST t u k1 r1 a w U Q _ (A.later N B) λO V k n p C D E F=>(λ(m:Ag σ r k) (e:σ.le O)=>KQ t u l (i+1) O V K C k n p D Q (A.later m e) λG d3 I J L M f g j=>q G d3 I J L M f (m.trans e g) (e.trans j)) (N.trans B E) (B.trans F))
  | false =>
   obtain⟨W,C⟩:=Qp y;unfold wpList;rw[if_neg (by rw[z r a w c.see];simp)];exact KQ t u l (i+1) _ S K C r _ w (c.put (s:=.val undef) W rfl) Q (A.later (Ag.refl _ _) (Yw _ _ _)) λG d3 I J L M f g j=>q G d3 I J L M f (g.le (Yw _ _ _)) ((Yw _ _ _).trans j)
end
structure Hd where
 d:Nat
 out:Out
 cl:List Nat
def DA(ds:List Nat): List (Nat×SV)->List (Nat×SV)
 | []=>[]
 | (k,s)::l=>bif Y8 k ds then DA ds l else(k,s)::DA ds l
def mQ(cl:List Nat): List Hd->Nat->List (Nat×SV)->List (Nat×SV)
 | [],_,t=>t
 | h::l,j,t=>bif Y8 j cl then(h.d,h.out.s)::mQ cl l (j+1) t else mQ cl l (j+1) t
def rD(cl:List Nat): List Hd->Nat->List (Option (u6×List SV))
 | [],_=>[]
 | h::l,j=>(bif Y8 j cl then h.out.b else none)::rD cl l (j+1)
def rE(cl:List Nat): List Hd->Nat->List (Option Res)
 | [],_=>[]
 | h::l,j=>(bif Y8 j cl then h.out.r else none)::rE cl l (j+1)
def tp{α:Type}: List α->List α->List α
 | [],m=>m
 | x::l,m=>x::tp l m
theorem FX{α:Type}: ∀l m:List α,tp l m=l++m
 | [],_=>rfl
 | x::l,m=>Ly (x::·) (FX l m)
def Jm(σ:St)(base:List (Nat×SV))(hs:List Hd)(cl:List Nat): St:=⟨σ.n,mQ cl hs 0 base,tp σ.bs (rD cl hs 0),tp σ.rs (rE cl hs 0)⟩
def dK:List Hd->List (Nat×SV)->List (Nat×SV)
 | [],t=>t
 | h::l,t=>(h.d,h.out.s)::dK l t
def dI:List Hd->List (Option (u6×List SV))
 | []=>[]
 | h::l=>h.out.b::dI l
def dJ:List Hd->List (Option Res)
 | []=>[]
 | h::l=>h.out.r::dJ l
def Kj(σ:St)(hs:List Hd): St:=⟨σ.n,dK hs σ.ts,tp σ.bs (dI hs),tp σ.rs (dJ hs)⟩
def aZ:List Hd->Nat->List Nat
 | [],_=>[]
 | h::_,0=>h.cl
 | _::l,n+1=>aZ l n
def zB:List Nat->List Nat->List Nat
 | [],m=>m
 | j::l,m=>bif Y8 j m then zB l m else zB l (j::m)
theorem OY{x:Nat}: ∀ {l m:List Nat},x∈zB l m->x∈l\/x∈m
 | [],_,h=>.inr h
 | j::l,m,h=>by
  unfold zB at h;cases e:Y8 j m with
  | true=>rw[e]at h;exact(OY h).imp (Sr _) id
  | false =>
   rw[e]at h;rcases OY h with h|h
   ·exact .inl (Sr _ h)
   ·rcases Ll.1 h with rfl|h
    ·exact .inl x6
    ·exact .inr h
def ew(hs:List Hd): List Nat->List Nat
 | []=>[]
 | j::l=>zB (j::aZ hs j) (ew hs l)
def WV(n:Nat)(cl:List Nat)(b:Nat): Bool:=Nat.blt b n||(Nat.ble n b&&Y8 (b-n) cl)
def li(σ:St)(i:Nat)(cl:List Nat)(o:Out): Bool :=
 o.s.ok (WV σ.bs.length (i::cl)) (WV σ.rs.length (i::cl))&&(match o.b with|some (_,cs)=>GA (WV σ.bs.length cl) (WV σ.rs.length cl) cs|none=>true)
def jH(P:u7)(e j:Nat)(σ:St)(o:Op)(d:List Dir)(K:Out->List Dir->Prop): Prop:=match o with
 | .extract x i=>K3 σ x λs=>mE s λl=>ZV (VQ l i) λc=>K (one c) d
 | .move x=>K3 σ x λs=>K (one s) d
 | .slice t x f none none=>(match d with
  | .o r i (.set v)::d'=>Z7 (VL r i e j) (v1 σ x λa=>vO σ f λb=>(∀w,(Instr.sliceAt t a b none none).run P w=.ok v w)/\K (one (.val v)) d')
  | _=>False)
 | _=>False
def AA(P:u7)(tt:List (Nat×TI))(w0:y9)(a:Nat)(ops:Array Oper)(late:List Nat)(σ:St)(base:List (Nat×SV)): List Oper->Nat->Nat->List Hd->List Dir->(List Hd->List Dir->Prop)->Prop
 | _,0,_,hs,d,K=>K hs d
 | [],_+1,_,_,_,_=>False
 | o::l,n+1,i,hs,d,K=>(λcl=>(λc=>Hv ops o a i c d λb d=>ZV o.dst λk=>match b with
  | true=>(match Y8 i late with
   | true=>jH P a i c o.op d λout d=>Z7 (c.fits out&&li σ i cl out) (AA P tt w0 a ops late σ base l n (i+1) (Vr hs ⟨k,out,cl⟩) d K)
   | false=>OD P tt w0 a i o c d λout d=>Z7 (c.fits out&&li σ i cl out) (AA P tt w0 a ops late σ base l n (i+1) (Vr hs ⟨k,out,cl⟩) d K))
  | false=>Z7 (!Y8 i late) (AA P tt w0 a ops late σ base l n (i+1) (Vr hs ⟨k,one (.val undef),cl⟩) d K)) (Jm σ base hs cl)) (ew hs (Bj o))
def GI:List Oper->Nat->List Nat
 | _,0=>[]
 | [],_+1=>[]
 | o::l,n+1=>(match o.dst with|some d=>d|none=>0)::GI l n
def vv(P:u7)(e k:Nat)(o:Oper)(σ:St)(d:List Dir)(K:z0->List Dir->Prop): Prop:=match o.op with
 | .move x=>v1 σ x λa=>K a d
 | .nilCheck x=>v1 σ x λa=>match a with
  | .pointer (some _)=>K a d
  | _=>False
 | .fieldAddr t x f=>v1 σ x λa=>match d with
  | .o r i (.set v)::d'=>Z7 (VL r i e k) ((∀w,(Instr.fieldAt t a f).run P w=.ok v w)/\K v d')
  | _=>False
 | .extract x i=>K3 σ x λs=>mE s λl=>ZV (VQ l i) λc=>Z7 c.plain (K (c.den e0) d)
 | .indexAddr t x y=>v1 σ x λa=>v1 σ y λb=>match d with
  | .o r i (.set v)::d'=>Z7 (VL r i e k) ((∀w,(Instr.indexAt t a b).run P w=.ok v w)/\K v d')
  | _=>False
 | .slice t x g none none=>v1 σ x λa=>vO σ g λb=>match d with
  | .o r i (.set v)::d'=>Z7 (VL r i e k) ((∀w,(Instr.sliceAt t a b none none).run P w=.ok v w)/\K v d')
  | _=>False
 | _=>False
def oo(f:Nat->List Dir->Prop): List Nat->List Dir->Prop
 | [],_=>False
 | [i],d=>f i d
 | i::j::l,d=>match d with
  | .both x y::_=>f i x/\oo f (j::l) y
  | _=>False
def WO(P:u7)(tt:List (Nat×TI))(H:Cx)(w0:y9)(a:Nat)(ops:Array Oper): Nat->Array Bool->St->List Dir->(St->List Dir->Prop)->Prop
 | 0,listed,σ,d,K=>match Region.ready .any ops listed with
  | []=>K σ d
  | _=>False
 | n+1,listed,σ,d,K=>match Region.ready .any ops listed with
  | []=>K σ d
  | i::l=>match d with
   | .pur k::d=>ZV ops[k]? λo=>ZV o.dst λt=>Z7 ((i::l).contains k&&Region.free .any ops listed k&&(match o.guard with|none=>true|_=>false)&&Nat.blt t σ.n) (vv P a k o σ d λv d=>WO P tt H w0 a ops n (listed.setIfInBounds k true) (σ.push (some t) (.val v)) d K)
   | d=>oo (λi d=>ZV ops[i]? λo=>Hv ops o a i σ d λb d=>(λσ=>match b with
    | true=>Jo a i 4 σ d λσ d=>dG P tt H w0 a i o σ d λσ d=>WO P tt H w0 a ops n (listed.setIfInBounds i true) σ d K
    | false=>Z7 (DH o.dst σ.n) (WO P tt H w0 a ops n (listed.setIfInBounds i true) (σ.push o.dst (.val undef)) d K)) (oT ops o b σ)) (i::l) d
def FL(P:u7)(tt:List (Nat×TI))(H:Cx)(w0:y9)(id:Nat)(ops:Array Oper)(σ:St)(d:List Dir)(K:St->List Dir->Prop): Prop:=match d with
 | .reg n late::d=>Z7 (yx ops.toList (GI ops.toList n) late σ.n) (AA P tt w0 id ops late σ (DA (GI ops.toList n) σ.ts) ops.toList n 0 [] d λhs d =>
  JU P tt H w0 id ops (ops.toList.drop n) n (Kj σ hs) d K)
 | .ord::d=>Z7 (Region.noSelect ops) (WO P tt H w0 id ops ops.size (Array.replicate ops.size false) σ d K)
 | _=>False
def xg(P:u7)(w0:y9)(ops:Array Oper)(late:List Nat)(σ:St)(base:List (Nat×SV))(hs:List Hd)(i:Nat)(h:Hd)(o:Oper): Prop :=
 o.dst=some h.d/\(∀j,j∈h.cl->Rch ops i j)/\(Jm σ base (hs.take i) h.cl).fits h.out=true/\li σ i h.cl h.out=true /\
 (((∀r a w,See w0 (Jm σ base (hs.take i) h.cl) r a w->Region.wanted o (yielded ops a.tmps)=true) /\
   ((Y8 i late=false/\gQ P w0 o (Jm σ base (hs.take i) h.cl) λu=>u=h.out) \/
    (Y8 i late=true/\h.out.b=none/\h.out.r=none/\∀r a w,See w0 (Jm σ base (hs.take i) h.cl) r a w->∀c,(execOp a.eval o).run P c=.ok (.value (h.out.s.den r)) c))) \/
  ((∀r a w,See w0 (Jm σ base (hs.take i) h.cl) r a w->Region.wanted o (yielded ops a.tmps)=false)/\Y8 i late=false/\h.out=one (.val undef)))
section
variable {P:Program} {tt:List (Nat×TI)} {w0:World} {σ:St}
theorem ez{ops:Array Oper}{hs:List Hd}(a:∀k h,hs[k]?=some h->∀j,j∈h.cl->Rch ops k j): ∀ {k j:Nat},j∈aZ hs k->Rch ops k j:=by
 have key:∀(l:List Hd) (k j:Nat),j∈aZ l k->∃h,l[k]?=some h/\j∈h.cl:=by
  intro l;induction l with
  | nil=>intro k j h;cases h
  | cons x l b =>
   intro k j h;cases k with
   | zero=>exact⟨x,rfl,h⟩
   | succ k=>simpa using b k j h
 intro k j h;obtain⟨x,c,d⟩:=key hs k j h;exact a k x c j d
theorem Pt{ops:Array Oper}{hs:List Hd}(a:∀k h,hs[k]?=some h->∀j,j∈h.cl->Rch ops k j){i:Nat}: ∀ {l:List Nat},(∀j,j∈l->j∈YK ops i)->∀j,j∈ew hs l->Rch ops i j
 | [],_,_,h=>by cases h
 | k::l,b,j,h=>by
  unfold ew at h;rcases OY h with h|h
  ·rcases Ll.1 h with rfl|h
   ·exact .one (b j x6)
   ·exact .more (b k x6) (ez a h)
  ·exact Pt a (λm c=>b m (by simp[c])) j h
theorem jI{n j:Nat}{o:Oper}{d:List Dir}{K:Out->List Dir->Prop}(h:jH P n j σ o.op d K): ∃out q,K out q/\out.b=none/\out.r=none/\∀r a w,See w0 σ r a w->∀f,(execOp a.eval o).run P f=.ok (.value (out.s.den r)) f:=by
 unfold jH at h;split at h
 ·rename_i x i e;obtain⟨s,k,h⟩:=QF h;obtain⟨l,h,u⟩:=EI h;obtain⟨c,v,h⟩:=QH h;refine⟨_,_,h,rfl,rfl,λr A w g f=>?_⟩;have m:execOp A.eval o=execOp A.eval { o with op:=.extract x i }:=by rw[<- e]
  rw[m];refine XI ?_
  rw[(Qy g k).1,u];simp[Instr.extract,GO v,one]
 ·rename_i x e;obtain⟨s,k,h⟩:=QF h;refine⟨_,_,h,rfl,rfl,λr A w g f=>?_⟩;have m:execOp A.eval o=execOp A.eval { o with op:=.move x }:=by rw[<- e]
  rw[m];show(pure (.value (A.eval x)):Sem Next).run P f=_;rw[(Qy g k).1];rfl
 ·rename_i t x p e;split at h
  ·obtain⟨_,h⟩:=Qp h;obtain⟨B,h,y⟩:=Xm w0 h;obtain⟨C,⟨k,h⟩,z⟩:=Gn w0 h;refine⟨_,_,h,rfl,rfl,λr A w g f=>?_⟩;have m:execOp A.eval o=execOp A.eval { o with op:=.slice t x p none none }:=by rw[<- e]
   rw[m];show(do pure (.value (<- Instr.sliceAt t (A.eval x) (p.map A.eval) none none)):Sem Next).run P f=_;refine XI ?_
   rw[y r A w g,z r A w g,k];rfl
  ·exact h.elim
 ·exact h.elim
theorem MN(I:YF P tt){t:Nat}{ops:Array Oper}{late:List Nat}{base:List (Nat×SV)}{K:List Hd->List Dir->Prop}: ∀(n:Nat) (l:List Oper) (i:Nat) (a:List Hd) (d:List Dir),
  (∀j,l[j]?=ops[i+j]?)->a.length=i->(∀k h,a[k]?=some h->∀j,j∈h.cl->Rch ops k j)->AA P tt w0 t ops late σ base l n i a d K ->
  ∃hs u,K hs u/\hs.length=i+n/\hs.take i=a/\∀j,i<=j->j<i+n->∃h o,hs[j]?=some h/\ops[j]?=some o/\xg P w0 ops late σ base hs j h o
 | 0,l,i,a,d,_,m,_,h=>by
  refine⟨a,d,(by cases l<;>exact h),m,by rw[<- m];exact List.take_length,λj f v=>x3⟩
 | n+1,[],i,a,d,_,_,_,h=>False.elim h
 | n+1,o::l,i,a,d,J,m,w,h=>by
  have L:ops[i]?=some o:=by have:=J 0;simpa using this.symm
  have B:∀j,l[j]?=ops[i+1+j]?:=λj=>by have:=J (j+1);rw[show i+1+j=i+(j+1)by omega];simpa using this
  have A:∀j,j∈ew a (Bj o)->Rch ops i j:=Pt w λj z=>by unfold YK;rw[L];exact z
  have c:∀x:Hd,x.cl=ew a (Bj o)->∀d,AA P tt w0 t ops late σ base l n (i+1) (Vr a x) d K ->
    (∀hs:List Hd,hs.take i=a->xg P w0 ops late σ base hs i x o)->∃hs u,K hs u/\hs.length=i+(n+1)/\hs.take i=a/\∀j,i<=j->j<i+(n+1)->∃h o,hs[j]?=some h/\ops[j]?=some o/\xg P w0 ops late σ base hs j h o:=λx O d h C=>by
   rw[XY]at h;obtain⟨hs,u,f,v,s,D⟩:=MN I n l (i+1) (a++[x]) d B (by simp[m]) (λk y g j z=>by
    rcases Lx k a.length with r|r
    ·rw[List.getElem?_append_left r]at g;exact w k y g j z
    ·have p:k=i:=by
      have M:=(sT.1 g).1;simp at M;omega
     subst p;rw[<- m]at g;simp at g;subst g;rw[O]at z;exact A j z) h
   have r:hs.take i=a:=by
    have:=Ly (List.take i) s;rw[List.take_take,T4 x3,Tn x3,<- m,List.take_length]at this;rw[<- m];exact this
   refine⟨hs,u,f,x3,r,λj p M=>?_⟩;by_cases e:j=i
   ·subst e;refine⟨x,o,?_,L,C hs r⟩;have N:(hs.take (j+1))[j]?=(a++[x])[j]?:=by rw[s]
    rw[o4 x3]at N;rw[N,<- m];simp
   ·exact D j x3 x3
  simp only[AA]at h;obtain⟨b,R,f,E⟩:=DV (w0:=w0) h;obtain⟨k,g,f⟩:=QH f;cases b with
  | true =>
   cases q:Y8 i late with
   | true =>
    rw[q]at f;obtain⟨out,Q,v,s,D,r⟩:=jI (P:=P) (w0:=w0) f;obtain⟨F,p⟩:=Qp v;obtain⟨G,H⟩:=L6.1 F;exact c _ rfl _ p λhs e=>⟨g,A,by rw[e];exact G,H,.inl ⟨by rw[e];exact E,.inr ⟨q,s,D,by rw[e];exact r⟩⟩⟩
   | false =>
    rw[q]at f;obtain⟨Q,out,v,s⟩:=Ni (w0:=w0) I (λout d h=>(L6.1 (Qp h).1).1) f;obtain⟨F,p⟩:=Qp v;obtain⟨G,H⟩:=L6.1 F;exact c _ rfl _ p λhs e=>⟨g,A,by rw[e];exact G,H,.inl ⟨by rw[e];exact E,.inl ⟨q,by rw[e];exact s⟩⟩⟩
  | false =>
   obtain⟨q,p⟩:=Qp f;have q:Y8 i late=false:=y8 q;exact c _ rfl _ p λhs e=>⟨g,A,rfl,rfl,.inr ⟨by rw[e];exact E,q,rfl⟩⟩
end
def Md(v:z0): z0:=if v.oneCell' then v else .bool false
theorem RP(v:z0): (Md v).oneCell'=true:=by
 unfold Md;split
 ·assumption
 ·rfl
theorem Ou{v:z0}(h:v.oneCell'=true): Md v=v:=if_pos h
def rg(σ:St)(r:Env)(γ:Nat->Gh): Env :=
 ⟨λk=>if k<σ.bs.length then r.b k else(γ (k-σ.bs.length)).b,λk=>if k<σ.rs.length then r.x k else Md (γ (k-σ.rs.length)).x,λk=>if k<σ.rs.length then r.S k else(γ (k-σ.rs.length)).S⟩
theorem vF{σ:St}{r:Env}{γ:Nat->Gh}{g:Gh}(a:g.x.oneCell'=true)(i:Nat): rg σ r (Y9 γ i g)=(rg σ r γ).add (σ.bs.length+i) (σ.rs.length+i) g:=by
 unfold rg Env.add Y9;congr 1
 ·funext k;show(if k<σ.bs.length then r.b k else(if k-σ.bs.length=i then g else γ (k-σ.bs.length)).b)=if k=σ.bs.length+i then g.b else if k<σ.bs.length then r.b k else(γ (k-σ.bs.length)).b
  by_cases h:k<σ.bs.length
  ·rw[if_pos h,if_neg x3,if_pos h]
  ·by_cases e:k=σ.bs.length+i
   ·rw[if_neg h,if_pos e,if_pos x3]
   ·rw[if_neg h,if_neg e,if_neg h,if_neg x3]
 ·funext k;show(if k<σ.rs.length then r.x k else Md (if k-σ.rs.length=i then g else γ (k-σ.rs.length)).x)=if k=σ.rs.length+i then g.x else if k<σ.rs.length then r.x k else Md (γ (k-σ.rs.length)).x
  by_cases h:k<σ.rs.length
  ·rw[if_pos h,if_neg x3,if_pos h]
  ·by_cases e:k=σ.rs.length+i
   ·rw[if_neg h,if_pos e,if_pos x3,Ou a]
   ·rw[if_neg h,if_neg e,if_neg h,if_neg x3]
 ·funext k;show(if k<σ.rs.length then r.S k else(if k-σ.rs.length=i then g else γ (k-σ.rs.length)).S)=if k=σ.rs.length+i then g.S else if k<σ.rs.length then r.S k else(γ (k-σ.rs.length)).S
  by_cases h:k<σ.rs.length
  ·rw[if_pos h,if_neg x3,if_pos h]
  ·by_cases e:k=σ.rs.length+i
   ·rw[if_neg h,if_pos e,if_pos x3]
   ·rw[if_neg h,if_neg e,if_neg h,if_neg x3]
theorem lm{σ:St}{r:Env}{γ:Nat->Gh}{s:SV}(h:σ.lt s=true): s.den (rg σ r γ)=s.den r :=
 Zc _ _ (λ_ a=>if_pos (Q1 a)) (λ_ a=>if_pos (Q1 a)) s h
theorem dq{σ:St}{r:Env}{γ:Nat->Gh}{l:List SV}(h:σ.ltL l=true): QJ (rg σ r γ) l=QJ r l :=
 Xt _ _ (λ_ a=>if_pos (Q1 a)) (λ_ a=>if_pos (Q1 a)) l h
theorem Nj{n:Nat}{cl:List Nat}{b:Nat}(h:WV n cl b=true): b<n\/(n<=b/\b-n∈cl):=by
 rcases Bool.or_eq_true_iff.1 h with h|h
 ·exact .inl (Q1 h)
 ·obtain⟨a,c⟩:=L6.1 h;exact .inr ⟨L3 a,memB_mem.1 c⟩
theorem zb{σ:St}{r:Env}{γ a:Nat->Gh}{cl:List Nat}(h:∀j,j∈cl->γ j=a j){i:Nat}(d:WV σ.bs.length cl i=true): (rg σ r γ).b i=(rg σ r a).b i:=by
 unfold rg;rcases Nj d with c|⟨c,e⟩
 ·simp only[if_pos c]
 ·have f:¬ i<σ.bs.length:=x3;simp only[if_neg f,h _ e]
theorem zc{σ:St}{r:Env}{γ a:Nat->Gh}{cl:List Nat}(h:∀j,j∈cl->γ j=a j){i:Nat}(c:WV σ.rs.length cl i=true): (rg σ r γ).x i=(rg σ r a).x i:=by
 unfold rg;rcases Nj c with b|⟨b,d⟩
 ·simp only[if_pos b]
 ·have e:¬ i<σ.rs.length:=x3;simp only[if_neg e,h _ d]
theorem Eh{cl:List Nat}{k:Nat}{s:SV}: ∀ {hs:List Hd} {a:Nat} {t:List (Nat×SV)},YQ k (mQ cl hs a t)=some s->(∃j,∃h:Hd,hs[j]?=some h/\(a+j)∈cl/\h.d=k/\s=h.out.s)\/YQ k t=some s
 | [],_,_,h=>.inr h
 | x::hs,a,t,h=>by
  unfold mQ at h;cases e:Y8 a cl with
  | true =>
   rw[e]at h;simp only[cond_true,YQ]at h;cases c:Nat.beq x.d k with
   | true =>
    rw[c]at h;obtain rfl:=hW h;exact .inl ⟨0,x,rfl,memB_mem.1 e,Le c,rfl⟩
   | false =>
    rw[c]at h;rcases Eh (hs:=hs) h with⟨j,y,b,f,g⟩|b
    ·exact .inl ⟨j+1,y,y8 b,by rw[show a+(j+1)=a+1+j by omega];exact f,g⟩
    ·exact .inr b
  | false =>
   rw[e]at h;rcases Eh (hs:=hs) h with⟨j,y,b,f,g⟩|b
   ·exact .inl ⟨j+1,y,y8 b,by rw[show a+(j+1)=a+1+j by omega];exact f,g⟩
   ·exact .inr b
theorem Ef{ds:List Nat}{k:Nat}{s:SV}: ∀ {t:List (Nat×SV)},YQ k (DA ds t)=some s->k ∉ ds/\YQ k t=some s
 | [],h=>by cases h
 | (j,u)::t,h=>by
  unfold DA at h;cases e:Y8 j ds with
  | true =>
   rw[e]at h;obtain⟨b,d⟩:=Ef (t:=t) h;refine⟨b,?_⟩;unfold YQ;cases a:Nat.beq j k with
   | true=>exact absurd (memB_mem.1 e) (Le a▸b)
   | false=>exact d
  | false =>
   rw[e]at h;simp only[cond_false,YQ]at h;unfold YQ;cases a:Nat.beq j k with
   | true =>
    rw[a]at h;refine⟨λc=>?_,h⟩;rw[<- Le a]at c;rw[memB_mem.2 c]at e;cases e
   | false=>rw[a]at h;exact Ef (t:=t) h
theorem MU{k:Nat}{s:SV}: ∀ {hs:List Hd} {t:List (Nat×SV)},YQ k (dK hs t)=some s->(∃(j:Nat) (h:Hd),hs[j]?=some h/\h.d=k/\s=h.out.s)\/((∀(j:Nat) (h:Hd),hs[j]?=some h->h.d≠k)/\YQ k t=some s)
 | [],_,h=>.inr ⟨λ_ _ h=>by simp at h,h⟩
 | x::hs,t,h=>by
  simp only[dK,YQ]at h;cases a:Nat.beq x.d k with
  | true =>
   rw[a]at h;obtain rfl:=hW h;exact .inl ⟨0,x,rfl,Le a,rfl⟩
  | false =>
   rw[a]at h;rcases MU (hs:=hs) h with⟨j,y,b,c⟩|⟨b,c⟩
   ·exact .inl ⟨j+1,y,y8 b,c⟩
   ·refine .inr ⟨λj y e=>?_,c⟩;cases j with
    | zero=>simp at e;subst e;exact Nat.ne_of_beq_eq_false a
    | succ j=>exact b j y (y8 e)
theorem D8{α:Type}: ∀ {l m:List (Option α)} {i:Nat} {y:α},Xe (tp l m) i=some y->Xe l i=some y\/(l.length<=i/\Xe m (i-l.length)=some y)
 | [],_,_,_,h=>.inr ⟨La _,h⟩
 | _::_,_,0,_,h=>.inl h
 | _::l,m,i+1,_,h=>(D8 (l:=l) (m:=m) (i:=i) h).imp id λ⟨a,b⟩=>⟨Si a,by rw[Rc,Nat.add_sub_add_right];exact b⟩
theorem RH{cl:List Nat}{y:u6×List SV}: ∀ {hs:List Hd} {j0 j:Nat},Xe (rD cl hs j0) j=some y->∃h,hs[j]?=some h/\(j0+j)∈cl/\h.out.b=some y
 | [],_,_,h=>by cases h
 | x::hs,j0,0,h=>by
  change (bif Y8 j0 cl then x.out.b else none)=some y at h;cases e:Y8 j0 cl with
  | true=>rw[e]at h;exact⟨x,rfl,memB_mem.1 e,h⟩
  | false=>rw[e]at h;cases h
 | x::hs,j0,j+1,h=>by
  obtain⟨z,a,c,d⟩:=RH (hs:=hs) (j0:=j0+1) (j:=j) h;exact⟨z,y8 a,by rw[show j0+(j+1)=j0+1+j by omega];exact c,d⟩
theorem RI{cl:List Nat}{y:Res}: ∀ {hs:List Hd} {j0 j:Nat},Xe (rE cl hs j0) j=some y->∃h,hs[j]?=some h/\(j0+j)∈cl/\h.out.r=some y
 | [],_,_,h=>by cases h
 | x::hs,j0,0,h=>by
  change (bif Y8 j0 cl then x.out.r else none)=some y at h;cases e:Y8 j0 cl with
  | true=>rw[e]at h;exact⟨x,rfl,memB_mem.1 e,h⟩
  | false=>rw[e]at h;cases h
 | x::hs,j0,j+1,h=>by
  obtain⟨z,a,b,c⟩:=RI (hs:=hs) (j0:=j0+1) (j:=j) h;exact⟨z,y8 a,by rw[show j0+(j+1)=j0+1+j by omega];exact b,c⟩
theorem M7{y:u6×List SV}: ∀ {hs:List Hd} {j:Nat},Xe (dI hs) j=some y->∃h,hs[j]?=some h/\h.out.b=some y
 | [],_,h=>by cases h
 | x::hs,0,h=>⟨x,rfl,h⟩
 | x::hs,j+1,h=>by
  obtain⟨z,a,c⟩:=M7 (hs:=hs) (j:=j) h;exact⟨z,y8 a,c⟩
theorem M8{y:Res}: ∀ {hs:List Hd} {j:Nat},Xe (dJ hs) j=some y->∃h,hs[j]?=some h/\h.out.r=some y
 | [],_,h=>by cases h
 | x::hs,0,h=>⟨x,rfl,h⟩
 | x::hs,j+1,h=>by
  obtain⟨z,a,b⟩:=M8 (hs:=hs) (j:=j) h;exact⟨z,y8 a,b⟩
theorem TO(cl:List Nat): ∀(hs:List Hd) (j:Nat),(rD cl hs j).length=hs.length
 | [],_=>rfl
 | _::hs,j=>Ly Nat.succ (TO cl hs (j+1))
theorem TP(cl:List Nat): ∀(hs:List Hd) (j:Nat),(rE cl hs j).length=hs.length
 | [],_=>rfl
 | _::hs,j=>Ly Nat.succ (TP cl hs (j+1))
theorem Ns:∀(hs:List Hd),(dI hs).length=hs.length
 | []=>rfl
 | _::hs=>Ly Nat.succ (Ns hs)
theorem Nt:∀(hs:List Hd),(dJ hs).length=hs.length
 | []=>rfl
 | _::hs=>Ly Nat.succ (Nt hs)
theorem OZ(σ:St)(base:List (Nat×SV))(hs:List Hd)(cl:List Nat): (Jm σ base hs cl).bs.length=σ.bs.length+hs.length:=by simp[Jm,FX,TO]
theorem O0(σ:St)(base:List (Nat×SV))(hs:List Hd)(cl:List Nat): (Jm σ base hs cl).rs.length=σ.rs.length+hs.length:=by simp[Jm,FX,TP]
theorem dL(σ:St)(hs:List Hd): (Kj σ hs).bs.length=σ.bs.length+hs.length:=by simp[Kj,FX,Ns]
theorem dM(σ:St)(hs:List Hd): (Kj σ hs).rs.length=σ.rs.length+hs.length:=by simp[Kj,FX,Nt]
theorem bo:∀ {l:List Oper} {n:Nat},(∀j,j<n->∃o d,l[j]?=some o/\o.dst=some d)->(GI l n).length=n/\∀j o d,j<n->l[j]?=some o->o.dst=some d->(GI l n)[j]?=some d
 | l,0,_=>⟨by cases l<;>rfl,λ_ _ _ h=>x3⟩
 | [],n+1,h=>by obtain⟨o,d,a,_⟩:=h 0 x3;simp at a
 | x::l,n+1,h=>by
  obtain⟨a,e⟩:=bo (l:=l) (n:=n) λj f=>by simpa using h (j+1) x3
  refine⟨by simp[GI,a],λj o d f b c=>?_⟩;cases j with
  | zero=>simp at b;subst b;simp[GI,c]
  | succ j=>simpa [GI]using e j o d x3 (y8 b) c
theorem HW{k:Nat}: ∀ {ds:List Nat} {i:Nat},k ∉ ds->TY k ds i=none
 | [],_,_=>rfl
 | d::ds,i,h=>by
  unfold TY;rw[if_neg λe=>h (by simp[e])];exact HW λa=>h (by simp[a])
def nq(σ:St)(r:Env)(hs:List Hd)(j:Nat)(u:Nat->z0)(γ:Nat->Gh)(W:y9): Prop:=∀h,hs[j]?=some h ->
 u j=h.out.s.den (rg σ r γ)/\(∀t cs,h.out.b=some (t,cs)->Bx W (γ j).b t (QJ (rg σ r γ) cs).toArray)/\(∀R,h.out.r=some R->(R.φ (γ j).x (γ j).S W/\∀b,(γ j).S b->b<W.heap.size)/\(γ j).x.oneCell'=true)/\(∀p R,h.out.b=some p->h.out.r=some R->¬(γ j).S (γ j).b)
def zR(hs:List Hd)(i:Nat)(g:Gh)(b:Nat): Prop:=∃h,hs[i]?=some h/\((∃p,h.out.b=some p/\b=g.b)\/(∃R,h.out.r=some R/\g.S b))
section
variable {P:Program} {tt:List (Nat×TI)} {w0:World} {σ:St} {r:Env} {a:Act} {w:World} {ops:Array Oper} {late:List Nat} {base:List (Nat×SV)} {hs:List Hd} {ds:List Nat} {n:Nat}
theorem qw(U:See w0 σ r a w)(A:∀k s,YQ k base=some s->k ∉ ds/\YQ k σ.ts=some s)(K:ds.Nodup)(P:hs.length=n)(L:∀(j:Nat) (h:Hd),hs[j]?=some h->ds[j]?=some h.d)(V:ds.length=n)(M:∀d,d∈ds->d<a.tmps.size)(E:∀(j:Nat) (h:Hd),hs[j]?=some h->∃cl,(Jm σ base (hs.take j) cl).fits h.out=true){i:Nat}(hi:i<n){cl:List Nat}(_hcl:∀j,j∈cl->j<i){W:y9}(X:Below w.heap.size w W){u:Nat->z0}{γ:Nat->Gh}(N:∀j,j∈cl->nq σ r hs j u γ W):
  See w0 (Jm σ base (hs.take i) cl) (rg σ r γ) (Ah a ds u) W:=by
 have D:=U.later X;have F:(hs.take i).length=i:=by rw[Lk];omega
 have m:∀(j:Nat) (h:Hd),(hs.take i)[j]?=some h->hs[j]?=some h/\j<i:=λj h G=>by
  have f:=(sT.1 G).1;rw[F]at f;rw[o4 f]at G;exact⟨G,f⟩
 have o:=OZ σ base (hs.take i) cl;have p:=O0 σ base (hs.take i) cl;rw[F]at o p;have H:∀s:SV,σ.lt s=true->(Jm σ base (hs.take i) cl).lt s=true:=λs h=>Ke (λk c=>YA (by have:=Q1 c;rw[o];omega)) (λk c=>YA (by have:=Q1 c;rw[p];omega)) s h
 have B:∀s:List SV,σ.ltL s=true->(Jm σ base (hs.take i) cl).ltL s=true:=λs h=>Z9 (λk c=>YA (by have:=Q1 c;rw[o];omega)) (λk c=>YA (by have:=Q1 c;rw[p];omega)) s h
 have q:∀(j:Nat) (h:Hd),hs[j]?=some h->j<i->(Jm σ base (hs.take i) cl).lt h.out.s=true/\∀t cs,h.out.b=some (t,cs)->(Jm σ base (hs.take i) cl).ltL cs=true:=λj h G Y=>by
  obtain⟨I,Z⟩:=E j h G;have O:(hs.take j).length=j:=by rw[Lk];omega
  have b1:=OZ σ base (hs.take j) I;have b2:=O0 σ base (hs.take j) I;rw[O]at b1 b2;obtain⟨f1,Q⟩:=L6.1 Z;refine⟨Ke (λk c=>YA ?_) (λk c=>YA ?_) _ f1,λt cs e=>?_⟩
  ·have g:=Q1 c;cases e:h.out.b<;>rw[e]at g<;>simp only[b1]at g<;>rw[o]<;>omega
  ·have g:=Q1 c;cases e:h.out.r<;>rw[e]at g<;>simp only[b2]at g<;>rw[p]<;>omega
  ·rw[e]at Q;exact Z9 (λk c=>YA (by have g:=Q1 c;rw[b1]at g;rw[o];omega)) (λk c=>YA (by have g:=Q1 c;rw[b2]at g;rw[p];omega)) cs Q
 refine⟨D.low,by rw[Cc];exact D.size,λk s c=>?_,λk t cs c=>?_,λk R c=>?_,λk c=>?_⟩
 ·rcases Eh c with⟨j,h,f,z,rfl,rfl⟩|f
  ·obtain⟨v,l⟩:=m j h f;rw[Lj]at z;have g:=(N j z h v).1;have C:=L j h v;have hd:h.d<a.tmps.size:=M _ (List.mem_of_getElem? C);refine⟨?_,(q j h v l).1⟩;have J:=HJ (i:=0) K C;rw[Lj]at J;exact DT hd J g
  ·obtain⟨z,v⟩:=A k s f;obtain⟨l,g⟩:=D.ts k s v;refine⟨?_,H s g⟩;rw[lm g];rcases Lx k a.tmps.size with y|y
   ·exact Hs y (HW z) l
   ·rw[<- l,h8,h8,Δ (by rw[Cc];exact y),Δ y]
 ·rcases D8 c with f|⟨f,z⟩
  ·obtain⟨v,l⟩:=D.bs k t cs f;rw[dq l,show(rg σ r γ).b k=r.b k from if_pos (XC f)];exact⟨v,B cs l⟩
  ·obtain⟨h,v,l,g⟩:=RH z;obtain⟨C,J⟩:=m _ h v;rw[Lj]at l;rw[show(rg σ r γ).b k=(γ (k-σ.bs.length)).b from if_neg x3];exact⟨(N _ l h C).2.1 t cs g,(q _ h C J).2 t cs g⟩
 ·rcases D8 c with f|⟨f,z⟩
  ·rw[show(rg σ r γ).x k=r.x k from if_pos (XC f),show(rg σ r γ).S k=r.S k from if_pos (XC f)];exact D.rs k R f
  ·obtain⟨h,v,l,g⟩:=RI z;obtain⟨C,J⟩:=m _ h v;rw[Lj]at l;have T:=N _ l h C;rw[show(rg σ r γ).x k=Md (γ (k-σ.rs.length)).x from if_neg x3,show(rg σ r γ).S k=(γ (k-σ.rs.length)).S from if_neg x3,Ou (T.2.2.1 R g).2];exact(T.2.2.1 R g).1
 ·rcases Lx k σ.rs.length with f|f
  ·rw[show(rg σ r γ).x k=r.x k from if_pos f];exact D.one k f
  ·rw[show(rg σ r γ).x k=Md (γ (k-σ.rs.length)).x from if_neg x3];exact RP _
theorem lx(F:Sat w0 σ r a w)(al:ds.Nodup)(V:hs.length=n)(X:∀(j:Nat) (h:Hd),hs[j]?=some h->ds[j]?=some h.d)(bd:ds.length=n)(ao:∀d,d∈ds->d<a.tmps.size)(Y:∀(j:Nat) (h:Hd),hs[j]?=some h->∃cl,(Jm σ base (hs.take j) cl).fits h.out=true){W:y9}(hb:Below w.heap.size w W){u:Nat->z0}{γ:Nat->Gh}(Z:∀j,j<n->nq σ r hs j u γ W)(N:∀i,i<n->∀b,zR hs i (γ i) b->w.heap.size<=b/\b<W.heap.size)(hD:∀i j,i<n->j<n->i≠j->∀b,zR hs i (γ i) b->¬ zR hs j (γ j) b):
  Sat w0 (Kj σ hs) (rg σ r γ) (Ah a ds u) W:=by
 have U:=F.see.later hb;have H:=dL σ hs;have I:=dM σ hs;rw[V]at H I;have f:∀(j:Nat) (h:Hd),hs[j]?=some h->j<n:=λj h G=>y6 ((sT.1 G).1)
 have ad:∀s:SV,σ.lt s=true->(Kj σ hs).lt s=true:=λs h=>Ke (λk y=>YA (by have:=Q1 y;rw[H];omega)) (λk y=>YA (by have:=Q1 y;rw[I];omega)) s h
 have P:∀s:List SV,σ.ltL s=true->(Kj σ hs).ltL s=true:=λs h=>Z9 (λk y=>YA (by have:=Q1 y;rw[H];omega)) (λk y=>YA (by have:=Q1 y;rw[I];omega)) s h
 have J:∀(j:Nat) (h:Hd),hs[j]?=some h->(Kj σ hs).lt h.out.s=true/\∀t cs,h.out.b=some (t,cs)->(Kj σ hs).ltL cs=true:=λj h G=>by
  obtain⟨ae,hf⟩:=Y j h G;have f:=f j h G;have aw:(hs.take j).length=j:=by rw[Lk];omega
  have b1:=OZ σ base (hs.take j) ae;have b2:=O0 σ base (hs.take j) ae;rw[aw]at b1 b2;obtain⟨f1,f2⟩:=L6.1 hf;refine⟨Ke (λk y=>YA ?_) (λk y=>YA ?_) _ f1,λt cs e=>?_⟩
  ·have D:=Q1 y;cases e:h.out.b<;>rw[e]at D<;>simp only[b1]at D<;>rw[H]<;>omega
  ·have D:=Q1 y;cases e:h.out.r<;>rw[e]at D<;>simp only[b2]at D<;>rw[I]<;>omega
  ·rw[e]at f2;exact Z9 (λk y=>YA (by have D:=Q1 y;rw[b1]at D;rw[H];omega)) (λk y=>YA (by have D:=Q1 y;rw[b2]at D;rw[I];omega)) cs f2
 have Q:∀i p,Xe σ.bs i=some p->r.b i<w.heap.size:=λi p K=>(F.see.bs i p.1 p.2 K).1.lt
 have aB:=F.see.low.size;have nb:∀k p,Xe (Kj σ hs).bs k=some p->(Xe σ.bs k=some p/\(rg σ r γ).b k=r.b k)\/∃(j:Nat) (h:Hd),k=σ.bs.length+j/\hs[j]?=some h/\h.out.b=some p/\(rg σ r γ).b k=(γ j).b:=λk p y=>by
  rcases D8 y with c|⟨c,l⟩
  ·exact .inl ⟨c,if_pos (XC c)⟩
  ·obtain⟨h,v,E⟩:=M7 l;exact .inr ⟨k-σ.bs.length,h,x3,v,E,if_neg x3⟩
 have nr:∀k R,Xe (Kj σ hs).rs k=some R->(Xe σ.rs k=some R/\(rg σ r γ).S k=r.S k/\(rg σ r γ).x k=r.x k)\/∃(j:Nat) (h:Hd),k=σ.rs.length+j/\hs[j]?=some h/\h.out.r=some R/\(rg σ r γ).S k=(γ j).S/\(rg σ r γ).x k=(γ j).x:=λk R y=>by
  rcases D8 y with c|⟨c,l⟩
  ·exact .inl ⟨c,if_pos (XC c),if_pos (XC c)⟩
  ·obtain⟨h,v,E⟩:=M8 l;refine .inr ⟨k-σ.rs.length,h,x3,v,E,if_neg x3,?_⟩;rw[show(rg σ r γ).x k=Md (γ (k-σ.rs.length)).x from if_neg x3,Ou ((Z _ (f _ h v) h v).2.2.1 R E).2]
 refine⟨⟨U.low,by rw[Cc];exact U.size,λk s y=>?_,λk t cs y=>?_,λk R y=>?_,λk y=>?_⟩,⟨λi p K=>?_,λi j p q K G L=>?_,λi R K b o=>?_,λi j R R' K G L b B C=>?_,λi j p R K G o=>?_⟩,F.defers⟩
 ·rcases MU y with⟨j,h,c,rfl,rfl⟩|⟨c,l⟩
  ·have D:=(Z j (f j h c) h c).1;have h6:=X j h c;have h7:=HJ (i:=0) al h6;rw[Lj]at h7;exact⟨DT (ao _ (List.mem_of_getElem? h6)) h7 D,(J j h c).1⟩
  ·obtain⟨E,D⟩:=U.ts k s l;refine⟨?_,ad s D⟩;rw[lm D];have ag:k ∉ ds:=λhm=>by
    obtain⟨j,G,e⟩:=List.getElem_of_mem hm;have h6:j<hs.length:=x3;have h7:=X j hs[j] (by simp[h6]);rw[m0 G]at h7;exact c j hs[j] (by simp[h6]) (by rw[<- e];exact(hW h7).symm)
   rcases Lx k a.tmps.size with M|M
   ·exact Hs M (HW ag) E
   ·rw[<- E,h8,h8,Δ (by rw[Cc];exact M),Δ M]
 ·rcases nb k _ y with⟨c,l⟩|⟨j,h,rfl,c,l,v⟩
  ·obtain⟨v,E⟩:=U.bs k t cs c;rw[dq E,l];exact⟨v,P cs E⟩
  ·rw[v];exact⟨(Z j (f j h c) h c).2.1 t cs l,(J j h c).2 t cs l⟩
 ·rcases nr k R y with⟨c,l,v⟩|⟨j,h,rfl,c,l,v,E⟩
  ·rw[l,v];exact U.rs k R c
  ·rw[v,E];exact((Z j (f j h c) h c).2.2.1 R l).1
 ·rcases Lx k σ.rs.length with c|c
  ·rw[show(rg σ r γ).x k=r.x k from if_pos c];exact U.one k c
  ·rw[show(rg σ r γ).x k=Md (γ (k-σ.rs.length)).x from if_neg x3];exact RP _
 ·rcases nb i p K with⟨c,l⟩|⟨j,h,rfl,c,l,v⟩
  ·rw[l];exact F.sep.own i p c
  ·rw[v];have:=(N j (f j h c) _ ⟨h,c,.inl ⟨p,l,rfl⟩⟩).1;omega
 ·rcases nb i p K with⟨c,l⟩|⟨k,h,rfl,c,l,v⟩<;>rcases nb j q G with⟨z,A⟩|⟨m,g,rfl,z,A,O⟩
  ·rw[l,A];exact F.sep.inj i j p q c z L
  ·rw[l,O];have:=(N m (f m g z) _ ⟨g,z,.inl ⟨q,A,rfl⟩⟩).1;have:=Q i p c;omega
  ·rw[v,A];have:=(N k (f k h c) _ ⟨h,c,.inl ⟨p,l,rfl⟩⟩).1;have:=Q j q z;omega
  ·rw[v,O];have T:k≠m:=λe=>L (by rw[e])
   intro e;exact hD k m (f k h c) (f m g z) T _ ⟨h,c,.inl ⟨p,l,rfl⟩⟩ ⟨g,z,.inl ⟨q,A,e⟩⟩
 ·rcases nr i R K with⟨c,l,v⟩|⟨j,h,rfl,c,l,v,E⟩
  ·rw[l]at o;exact F.sep.ownS i R c b o
  ·rw[v]at o;have:=(N j (f j h c) _ ⟨h,c,.inr ⟨R,l,o⟩⟩).1;omega
 ·rcases nr i R K with⟨c,l,_⟩|⟨k,h,rfl,c,l,v,_⟩<;>rcases nr j R' G with⟨z,A,_⟩|⟨m,g,rfl,z,A,O,_⟩
  ·rw[l]at B;rw[A]at C;exact F.sep.disj i j R R' c z L b B C
  ·rw[l]at B;rw[O]at C
   have:=(N m (f m g z) _ ⟨g,z,.inr ⟨R',A,C⟩⟩).1;have:=(F.see.rs i R c).2 b B;omega
  ·rw[v]at B;rw[A]at C
   have:=(N k (f k h c) _ ⟨h,c,.inr ⟨R,l,B⟩⟩).1;have:=(F.see.rs j R' z).2 b C;omega
  ·rw[v]at B;rw[O]at C
   have T:k≠m:=λe=>L (by rw[e])
   exact hD k m (f k h c) (f m g z) T _ ⟨h,c,.inr ⟨R,l,B⟩⟩ ⟨g,z,.inr ⟨R',A,C⟩⟩
 ·rcases nb i p K with⟨c,l⟩|⟨k,h,rfl,c,l,v⟩<;>rcases nr j R G with⟨z,A,_⟩|⟨m,g,rfl,z,A,O,_⟩
  ·rw[l,A]at o;exact F.sep.apart i j p R c z o
  ·rw[l,O]at o;have:=(N m (f m g z) _ ⟨g,z,.inr ⟨R,A,o⟩⟩).1;have:=Q i p c;omega
  ·rw[v,A]at o;have:=(N k (f k h c) _ ⟨h,c,.inl ⟨p,l,rfl⟩⟩).1;have:=(F.see.rs j R z).2 _ o;omega
  ·rw[v,O]at o;by_cases e:k=m
   ·subst e;obtain rfl:=hW (c.symm.trans z);exact(Z k (f k h c) h c).2.2.2 p R l A o
   ·exact hD k m (f k h c) (f m g z) e _ ⟨h,c,.inl ⟨p,l,rfl⟩⟩ ⟨g,z,.inr ⟨R,A,o⟩⟩
theorem vx{ops:Array Oper}{n:Nat}(e:(List.range n).all (λi=>(YK ops i).all (·<i))=true){i j:Nat}(h:Rch ops i j): i<n->j<i:=by
 have c:∀a k,a<n->k∈YK ops a->k<a:=λa k b f=>by
  have d:=Lc.1 e a (Lr.2 b);simpa using Lc.1 d _ f
 induction h with
 | one h=>exact λb=>c _ _ b h
 | more h _ g =>
  intro b;have d:=c _ _ b h;have:=g x3;omega
theorem PP{f:Nat->List Dir->Prop}: ∀ {l:List Nat} {d:List Dir},oo f l d->∀i,i∈l->∃b,f i b
 | [],_,h,_,_=>h.elim
 | [i],d,h,j,a=>⟨d,by rw[Re.1 a];exact h⟩
 | i::k::l,d,h,j,a=>by
  unfold oo at h;split at h
  ·rcases Ll.1 a with rfl|a
   ·exact⟨_,h.1⟩
   ·exact PP h.2 j a
  ·exact h.elim
theorem qj{p k:Nat}{o:Oper}{d:List Dir}{K:z0->List Dir->Prop}(h:vv P p k o σ d K): ∃v A,K v A/\∀r a w,See w0 σ r a w->∀b,(execOp a.eval o).run P b=.ok (.value v) b:=by
 have m:∀ {op:Op},o.op=op->∀q,execOp q o=execOp q { o with op:=op }:=λe q=>by rw[<- e]
 unfold vv at h;split at h
 ·rename_i x e;obtain⟨v,h,j⟩:=Xm w0 h;refine⟨v,_,h,λr a w g b=>?_⟩;rw[m e];show(pure (.value (a.eval x)):Sem Next).run P b=_;rw[j r a w g];rfl
 ·rename_i x e;obtain⟨v,h,j⟩:=Xm w0 h;split at h
  ·refine⟨_,_,h,λr a w g b=>?_⟩;rw[m e];unfold execOp;simp only[j r a w g];rfl
  ·exact h.elim
 ·rename_i t x f e;obtain⟨v,h,j⟩:=Xm w0 h;split at h
  ·obtain⟨_,n,h⟩:=Qp h;refine⟨_,_,h,λr a w g b=>?_⟩;rw[m e];refine XI ?_
   rw[j r a w g];exact n b
  ·exact h.elim
 ·rename_i x i e;obtain⟨s,j,h⟩:=QF h;obtain⟨l,h,B⟩:=EI h;obtain⟨c,C,h⟩:=QH h;obtain⟨D,h⟩:=Qp h;refine⟨_,_,h,λr a w g b=>?_⟩;rw[m e];refine XI ?_
  rw[(Qy g j).1,B,<- JW D r];simp[Instr.extract,GO C]
 ·rename_i t x y e;obtain⟨v,h,j⟩:=Xm w0 h;obtain⟨u,h,z⟩:=Xm w0 h;split at h
  ·obtain⟨_,n,h⟩:=Qp h;refine⟨_,_,h,λr a w g b=>?_⟩;rw[m e];refine XI ?_
   rw[j r a w g,z r a w g];exact n b
  ·exact h.elim
 ·rename_i t x E e;obtain⟨v,h,j⟩:=Xm w0 h;obtain⟨u,h,z⟩:=Gn w0 h;split at h
  ·obtain⟨_,n,h⟩:=Qp h;refine⟨_,_,h,λr a w g b=>?_⟩;rw[m e];show(do pure (.value (<- Instr.sliceAt t (a.eval x) (E.map a.eval) none none)):Sem Next).run P b=_;refine XI ?_
   rw[j r a w g,z r a w g,n b]
  ·exact h.elim
 ·exact h.elim
theorem FJ(G:YF P tt){H:Cx}(I:I0 P w0 H.inl){id:Nat}(j:Region.noSelect ops=true): ∀(n:Nat) (listed:Array Bool) (σ:St) (d:List Dir) (K:St->List Dir->Prop),WO P tt H w0 id ops n listed σ d K ->
  ∀r a w,Sat w0 σ r a w->∀(Q:Exit->Act->y9->Prop),(∀(d:Tmp) (v:z0) c a w,Q (.panic c) (a.put (some d) v) w->Q (.panic c) a w)->PanTo w0 H σ r Q->(∀x C p q u,K x C->Sat w0 x p q u->Ag σ r p->σ.le x->Q .normal q u)->wpAny P .any ops Q n listed a w
 | 0,listed,σ,d,K,h,r,a,w,m,Q,_,_,f=>by
  unfold WO at h;split at h
  ·rename_i e;exact⟨e,f _ _ _ _ _ h m (Ag.refl _ _) (St.le.refl _)⟩
  ·exact h.elim
 | n+1,listed,σ,d,K,h,r,a,w,m,Q,J,L,f=>by
  unfold WO at h;split at h
  ·rename_i e;exact wpAny_done e (f _ _ _ _ _ h m (Ag.refl _ _) (St.le.refl _)) _
  rename_i i l e;split at h
  ·rename_i k d1;obtain⟨o,M,h⟩:=QH h;obtain⟨t,Y,h⟩:=QH h;obtain⟨Z,h⟩:=Qp h;simp only[Lu]at Z;obtain⟨⟨⟨c1,c2⟩,c3⟩,c4⟩:=Z;obtain⟨v,D,h,hv⟩:=qj (w0:=w0) h;have hw:Region.wanted o (yielded ops a.tmps)=true:=by
    cases B:o.guard with
    | none=>simp[Region.wanted,B]
    | some g=>rw[B]at c3;cases c3
   refine wpAny_take M j c2 (by rw[e];exact c1) (by rw[Y];exact J t v) (.inl ⟨hw,hv r a w m.see⟩) ?_
   rw[Y];have y:Sat w0 (σ.push (some t) (.val v)) r (a.put (some t) v) w:=Sat.put (s:=.val v) m c4 rfl;exact FJ G I j n _ _ D K h r _ w y Q J (L.later (Ag.refl _ _) (Yw _ _ _)) λx C p q u N z E O=>f x C p q u N z ((Ag.refl _ _).trans (Yw _ _ _) E) ((Yw _ _ _).trans O)
  ·refine wpAny_all e x6 λi hi=>?_
   obtain⟨d1,h⟩:=PP h i hi;obtain⟨o,M,h⟩:=QH h;obtain⟨b,D,h,B⟩:=DV (w0:=w0) h;rw[bU m.see (B r a w m.see)]at h;unfold wpOp;simp only[M];cases b with
   | true =>
    rw[if_pos (B r a w m.see)];obtain⟨σ1,ad,r1,k1,k2,k3,R⟩:=GJ 4 h r a w m;exact .inl (ST G I k1 r1 a w k2 Q _ (L.later k3 R) λσ2 D p q u z S T U=>(λ(F:Ag σ r p) (A:σ.le σ2)=>FJ G I j n _ σ2 D K z p q u S Q J (L.later F A) λσ3 d3 r3 a3 w3 E V W X=>f σ3 d3 r3 a3 w3 E V (F.trans A W) (A.trans X)) (k3.trans R T) (R.trans U))
   | false =>
    obtain⟨hd,z⟩:=Qp h;rw[if_neg (by rw[B r a w m.see];simp)];have y:=Sat.put (s:=.val undef) m hd rfl;exact FJ G I j n _ _ D K z r _ w y Q J (L.later (Ag.refl _ _) (Yw _ _ _)) λx C p q u N z E O=>f x C p q u N z ((Ag.refl _ _).trans (Yw _ _ _) E) ((Yw _ _ _).trans O)
theorem WW(hT:YF P tt){H:Cx}(hH:I0 P w0 H.inl){id:Nat}{d:List Dir}{K:St->List Dir->Prop}(h:FL P tt H w0 id ops σ d K):
  ∀r a w,Sat w0 σ r a w->∀(Q:Exit->Act->y9->Prop),(∀(d:Tmp) (v:z0) c a w,Q (.panic c) (a.put (some d) v) w->Q (.panic c) a w)->PanTo w0 H σ r Q->(∀σ' d' r' a' D,K σ' d'->Sat w0 σ' r' a' D->Ag σ r r'->σ.le σ'->Q .normal a' D)->wpAny P .any ops Q ops.size (Array.replicate ops.size false) a { w with drawn:=w.drawn+1 }:=by
 obtain⟨l⟩:=ops;unfold FL at h;split at h
 case h_2=>obtain⟨h1,M⟩:=Qp h;exact λr a w X Q hQ hP G=>FJ hT hH h1 _ _ σ _ K M r a _ ⟨X.see.later (l3 _ _).drew,X.sep,X.defers⟩ Q hQ hP G
 case h_3=>exact h.elim
 rename_i n late d0;dsimp only at h;obtain⟨T,h⟩:=Qp h;obtain⟨hs,d1,hK,I,_,cb⟩:=MN hT n l 0 [] d0 (λj=>by rw[Lj];simp) rfl (λk x E=>by simp at E) h;rw[Lj]at I;have hl:=KQ hT hH (l.drop n) n (Kj σ hs) d1 K hK;intro r a w X Q hQ hP G;have C:∀j,j<n->∃(x:Hd) (o:Oper),hs[j]?=some x/\l[j]?=some o/\xg P w0 l.toArray late σ (DA (GI l n) σ.ts) hs j x o:=λj z=>by
  obtain⟨x,o,h1,M,N⟩:=cb j (La _) x3;exact⟨x,o,h1,y8 M,N⟩
 have q:∀(j:Nat) (x:Hd),hs[j]?=some x->j<n/\∃o,l[j]?=some o/\xg P w0 l.toArray late σ (DA (GI l n) σ.ts) hs j x o:=λj x m=>by
  have z:j<n:=y6 ((sT.1 m).1);obtain⟨y,o,h1,M,N⟩:=C j z;obtain rfl:=hW (m.symm.trans h1);exact⟨z,o,M,N⟩
 simp only[yx,Lu]at T;obtain⟨⟨⟨⟨c1,c2⟩,c3⟩,c4⟩,c5⟩:=T;obtain⟨O,cc⟩:=bo (l:=l) (n:=n) λj z=>by
  obtain⟨x,o,_,M,N⟩:=C j z;exact⟨o,x.d,M,N.1⟩
 have ao:=Cu c3;have aw:∀(j:Nat) (x:Hd),hs[j]?=some x->(GI l n)[j]?=some x.d:=λj x m=>by
  obtain⟨z,o,M,N⟩:=q j x m;exact cc j o x.d z M N.1
 have Y:∀d,d∈GI l n->d<a.tmps.size:=λd hd=>by
  rw[X.see.size];simpa using Lc.1 c4 d hd
 have U:∀(j:Nat) (x:Hd),hs[j]?=some x->∃cl,(Jm σ (DA (GI l n) σ.ts) (hs.take j) cl).fits x.out=true:=λj x m=>by
  obtain⟨_,o,_,N⟩:=q j x m;exact⟨x.cl,N.2.2.1⟩
 have Z:(List.range n).all (λi=>(YK l.toArray i).all (·<i))=true:=by
  have ad:=c1;simp only[Dz,Lu]at ad;rw[O]at ad;exact ad.1.2
 have V:∀i x,hs[i]?=some x->(∀j,j∈x.cl->Rch l.toArray i j)->∀u γ W,Below w.heap.size w W->(∀j,Rch l.toArray i j->nq σ r hs j u γ W)->See w0 (Jm σ (DA (GI l n) σ.ts) (hs.take i) x.cl) (rg σ r γ) (Ah a (GI l n) u) W:=λi x m aB u γ W J F =>
  qw X.see (λk s E=>Ef E) ao I aw O Y U (q i x m).1 (λj z=>vx Z (aB j z) (q i x m).1) J (λj z=>F j (aB j z))
 have ae:∀i x,hs[i]?=some x->(Jm σ (DA (GI l n) σ.ts) (hs.take i) x.cl).bs.length=σ.bs.length+i/\(Jm σ (DA (GI l n) σ.ts) (hs.take i) x.cl).rs.length=σ.rs.length+i:=λi x m=>by
  have hi:=(q i x m).1;have cd:(hs.take i).length=i:=by rw[Lk];omega
  rw[OZ,O0,cd];exact⟨rfl,rfl⟩
 refine Fk (Γ:=Gh) (l:=l) (GI l n) (λW=>Below w.heap.size w W) (nq σ r hs) (zR hs) (λ_=>Gh.no) (λi=>!late.contains i) c1 hQ c2 c3 (Lc.2 λd hd=>by simpa using Y d hd) (l3 _ _).drew ?hst ?hcg ?hop ?hlate ?htail
 case hst =>
  intro i u γ W W' _ J F x m;obtain⟨p1,p2,p3,p4⟩:=F x m;exact⟨p1,λt cs e=>(p2 t cs e).later J,λR e=>⟨⟨R.loc _ _ _ _ (λb B=>J.block b ((p3 R e).1.2 b B)) (p3 R e).1.1,λb B=>Lb ((p3 R e).1.2 b B) J.size⟩,(p3 R e).2⟩,p4⟩
 case hcg =>
  intro i u u' γ γ' W hi hu F x m;obtain⟨_,o,_,ok⟩:=q i x m;obtain⟨p1,p2,p3,p4⟩:=F x m;have hγ:∀j,j∈i::x.cl->γ j=γ' j:=λj z=>by
   rcases Ll.1 z with rfl|z
   ·exact(hu j (.inl rfl)).2
   ·exact(hu j (.inr (ok.2.1 j z))).2
  have bd:=hu i (.inl rfl);obtain⟨f1,f2⟩:=L6.1 ok.2.2.2.1;rw[<- bd.1,<- bd.2];refine⟨by rw[p1];exact Zc _ _ (λk E=>zb hγ E) (λk E=>zc hγ E) _ f1,λt cs e=>?_,p3,p4⟩;rw[e]at f2;rw[<- Xt _ _ (r:=rg σ r γ) (λk E=>zb (λj z=>hγ j (Sr _ z)) E) (λk E=>zc (λj z=>hγ j (Sr _ z)) E) cs f2];exact p2 t cs e
 case hop =>
  intro i hi o ho u γ W hG F Q' K' bi;obtain⟨x,o',m,ag,ok⟩:=C i x3;have eo:o'=o:=hW (ag.symm.trans (y8 ho));subst eo;obtain⟨k1,k2,k3,k4,k5⟩:=ok;have A:=V i x m k2 u γ W hG F;obtain⟨l1,l2⟩:=ae i x m;have bk:∀g:Gh,g.x.oneCell'=true->rg σ r (Y9 γ i g)=(rg σ r γ).add' (Jm σ (DA (GI l n) σ.ts) (hs.take i) x.cl) g:=λg hg=>by
   unfold Env.add';rw[vF hg,l1,l2]
  have bl:∀v D,x.out.b=none->x.out.r=none->v=x.out.s.den (rg σ r γ)->Below W.heap.size W D->K' ((Ah a (GI l n) u).put o'.dst v) D:=λv D S e2 hv J=>by
   refine bi v (γ i) D J (nxt hG J) ?_ ?_
   ·intro y L;obtain rfl:=hW (m.symm.trans L);have eγ:Y9 γ i (γ i)=γ:=by funext k;unfold Y9;split<;>simp_all
    rw[eγ,Xp];exact⟨hv,λt cs e=>(by rw[S]at e;cases e),λR e=>(by rw[e2]at e;cases e),λp R e=>(by rw[S]at e;cases e)⟩
   ·rintro b ⟨y,L,T⟩;obtain rfl:=hW (m.symm.trans L);rcases T with⟨p,e,_⟩|⟨R,e,_⟩
    ·rw[S]at e;cases e
    ·rw[e2]at e;cases e
  rcases k5 with⟨kw,⟨_,kq⟩|⟨_,S,e2,kr⟩⟩|⟨kw,_,ke⟩
  ·rw[if_pos (kw _ _ _ A)];refine kq _ _ _ A Q' K' ?_
   rintro out g D rfl J f;refine bi _ g D J (nxt hG J) ?_ ?_
   ·intro y L;obtain rfl:=hW (m.symm.trans L);rw[Xp,Xp,bk g f.one];exact⟨rfl,λt cs e=>(f.b t cs e).1,λR e=>⟨⟨(f.r R e).1,λb B=>((f.r R e).2 b B).2⟩,f.one⟩,f.apart⟩
   ·rintro b ⟨y,L,T⟩;obtain rfl:=hW (m.symm.trans L);rcases T with⟨p,e,rfl⟩|⟨R,e,B⟩
    ·exact⟨(f.b p.1 p.2 e).2,(f.b p.1 p.2 e).1.lt⟩
    ·exact(f.r R e).2 b B
  ·rw[if_pos (kw _ _ _ A)];unfold Oper.wp;rw[kr _ _ _ A];exact bl _ _ S e2 rfl (l3 _ _)
  ·rw[if_neg (by rw[kw _ _ _ A];simp)];exact bl undef W (by rw[ke];rfl) (by rw[ke];rfl) (by rw[ke];rfl) (l3 _ _)
 case hlate =>
  intro i hi hst;obtain⟨x,o',m,ag,ok⟩:=C i x3;obtain⟨k1,k2,k3,k4,k5⟩:=ok;have bX:Y8 i late=true:=by
   refine memB_mem.2 ?_
   simpa using hst
  rcases k5 with⟨kw,⟨e,_⟩|⟨_,S,e2,kr⟩⟩|⟨_,e,_⟩
  ·rw[bX]at e;cases e
  ·refine⟨?_,λo ho u γ W hG F=>?_⟩
   ·rintro g b ⟨y,L,T⟩;obtain rfl:=hW (m.symm.trans L);rcases T with⟨p,e,_⟩|⟨R,e,_⟩
    ·rw[S]at e;cases e
    ·rw[e2]at e;cases e
   ·have eo:o'=o:=hW (ag.symm.trans (y8 ho));subst eo;have A:=V i x m k2 u γ W hG F;refine⟨_,.inl ⟨kw _ _ _ A,λD=>kr _ _ _ A D⟩,?_⟩;intro y L;obtain rfl:=hW (m.symm.trans L);rw[Xp];exact⟨rfl,λt cs e=>(by rw[S]at e;cases e),λR e=>(by rw[e2]at e;cases e),λp R e=>(by rw[S]at e;cases e)⟩
  ·rw[bX]at e;cases e
 case htail =>
  intro u γ W hG F hF hD;rw[O]at F hF hD ⊢;have al:σ.le (Kj σ hs):=⟨by rw[dL];exact Rg _ _,by rw[dM];exact Rg _ _⟩
  have bY:Ag σ r (rg σ r γ):=⟨λ_ hi=>if_pos hi,λ_ hi=>if_pos hi⟩
  exact hl _ _ _ (lx X ao I aw O Y U hG F hF hD) Q (hP.later bY al) λσ' d' r' a' D E cf ch ca=>G σ' d' r' a' D E cf (bY.trans al ch) (al.trans ca)
end
inductive Ex where
 | normal
 | exit (id:Nat)
 | ret
def Ex.to:Ex->Exit
 | .normal=>.normal
 | .exit id=>.exit id
 | .ret=>.ret
def dw(a b:z0)(p:Prop): Prop:=match a with
 | .int k x=>(match b with
  | .int c y=>Z7 (bM k c) (x=y/\p)
  | _=>False)
 | .bool x=>(match b with
  | .bool y=>x=y/\p
  | _=>False)
 | .string x=>(match b with
  | .string y=>x=y/\p
  | _=>False)
 | a=>a=b/\p
theorem af{a b:z0}{p:Prop}(h:dw a b p): a=b/\p:=by
 unfold dw at h;split at h
 ·split at h
  ·obtain⟨c,e,d⟩:=Qp h;rw[Ib c,e];exact⟨rfl,d⟩
  ·exact h.elim
 ·split at h
  ·obtain⟨rfl,h⟩:=h;exact⟨rfl,h⟩
  ·exact h.elim
 ·split at h
  ·obtain⟨rfl,h⟩:=h;exact⟨rfl,h⟩
  ·exact h.elim
 ·exact h
mutual
def lr(s u:SV)(p:Prop): Prop:=match s with
 | .val a=>(match u with
  | .val b=>dw a b p
  | _=>False)
 | .ptr b o=>(match u with
  | .ptr d e=>Z7 (Nat.beq b d&&Nat.beq o e) p
  | _=>False)
 | .sli b o n c=>(match u with
  | .sli d e g h=>Z7 (Nat.beq b d&&Nat.beq o e&&Nat.beq n g&&Nat.beq c h) p
  | _=>False)
 | .clo f l m=>(match u with
  | .clo k q r=>f=k/\CB l q (CB m r p)
  | _=>False)
 | .agg l=>(match u with
  | .agg m=>CB l m p
  | _=>False)
 | .tup l=>(match u with
  | .tup m=>CB l m p
  | _=>False)
 | .han i=>(match u with
  | .han j=>Z7 (Nat.beq i j) p
  | _=>False)
def CB(l m:List SV)(p:Prop): Prop:=match l with
 | []=>(match m with
  | []=>p
  | _=>False)
 | s::l=>(match m with
  | u::m=>lr s u (CB l m p)
  | _=>False)
end
mutual
theorem ID:∀(s u:SV) (p:Prop),lr s u p->s=u/\p
 | .val a,u,p,h=>by
  cases u<;>first|exact False.elim h|skip
  obtain⟨e,d⟩:=af (show dw a _ p from h);rw[e];exact⟨rfl,d⟩
 | .ptr b o,u,p,h=>by
  cases u<;>first|exact False.elim h|skip
  obtain⟨g,h⟩:=Qp (show Z7 _ p from h);obtain⟨j,d⟩:=L6.1 g;rw[Le j,Le d];exact⟨rfl,h⟩
 | .sli b o n c,u,p,h=>by
  cases u<;>first|exact False.elim h|skip
  obtain⟨g,h⟩:=Qp (show Z7 _ p from h);obtain⟨g,k⟩:=L6.1 g;obtain⟨g,q⟩:=L6.1 g;obtain⟨j,d⟩:=L6.1 g;rw[Le j,Le d,Le q,Le k];exact⟨rfl,h⟩
 | .clo f l m,u,p,h=>by
  cases u<;>first|exact False.elim h|skip
  obtain⟨r,d⟩:=(show _=_/\CB l _ (CB m _ p)from h)
  obtain⟨t,q⟩:=KD l _ _ d;obtain⟨v,k⟩:=KD m _ _ q;rw[r,t,v];exact⟨rfl,k⟩
 | .agg l,u,p,h=>by
  cases u<;>first|exact False.elim h|skip
  obtain⟨e,d⟩:=KD l _ p h;rw[e];exact⟨rfl,d⟩
 | .tup l,u,p,h=>by
  cases u<;>first|exact False.elim h|skip
  obtain⟨e,d⟩:=KD l _ p h;rw[e];exact⟨rfl,d⟩
 | .han i,u,p,h=>by
  cases u<;>first|exact False.elim h|skip
  obtain⟨g,h⟩:=Qp (show Z7 _ p from h);rw[Le g];exact⟨rfl,h⟩
theorem KD:∀(l m:List SV) (p:Prop),CB l m p->l=m/\p
 | [],m,p,h=>by
  cases m<;>first|exact⟨rfl,h⟩|exact False.elim h
 | s::l,m,p,h=>by
  cases m with
  | nil=>exact False.elim h
  | cons u m =>
   obtain⟨a,b⟩:=ID s u _ h;obtain⟨c,d⟩:=KD l m p b;rw[a,c];exact⟨rfl,d⟩
end
def lZ(σ τ:St): List (Nat×SV)->Prop->Prop
 | [],p=>p
 | (k,s)::l,p=>match YQ k σ.ts with
  | some u=>Z7 (τ.lt s) (lr u s (lZ σ τ l p))
  | none=>False
def qW(τ:St): List (Option (u6×List SV))->List (Option (u6×List SV))->Prop->Prop
 | _,[],p=>p
 | [],_::_,_=>False
 | _::l,none::m,p=>qW τ l m p
 | x::l,some q::m,p=>Z7 (τ.ltL q.2) (x=some q/\qW τ l m p)
def gp:List (Option Res)->List (Option Res)->Prop->Prop
 | _,[],p=>p
 | [],_::_,_=>False
 | _::l,none::m,p=>gp l m p
 | x::l,some R::m,p=>match x with
  | some a=>(∀v S w,a.φ v S w->R.φ v S w)/\gp l m p
  | none=>False
def XT(σ τ:St)(p:Prop): Prop:=Z7 (Nat.beq σ.n τ.n) (lZ σ τ τ.ts (qW τ σ.bs τ.bs (gp σ.rs τ.rs p)))
def G8:Code->Option Nat
 | .region id _ _=>some id
 | .seq a b=>(match G8 a with
  | some k=>some k
  | none=>G8 b)
 | .cond _ a b=>(match G8 a with
  | some k=>some k
  | none=>G8 b)
 | .block _ b=>G8 b
 | .loop b=>G8 b
 | .rangeFunc _ _ a b=>(match G8 a with
  | some k=>some k
  | none=>G8 b)
 | _=>none
def Ho(c:Code): Nat:=match G8 c with
 | some k=>k
 | none=>0
def bK:List (Option Res)->List (Option Res)->List (Option Res)
 | _,[]=>[]
 | [],m=>m
 | _::l,some R::m=>some R::bK l m
 | x::l,none::m=>x::bK l m
def ET:List (Option (u6×List SV))->List (Option (u6×List SV))->List (Option (u6×List SV))
 | _,[]=>[]
 | [],m=>m
 | _::l,some (t,c::cs)::m=>some (t,c::cs)::ET l m
 | _::l,some (_,[])::m=>none::ET l m
 | x::l,none::m=>x::ET l m
def Ge(σ τ:St): St:={ τ with bs:=ET σ.bs τ.bs,rs:=bK σ.rs τ.rs }
def ltO(τ:St): Option (u6×List SV)->Bool
 | none=>true
 | some q=>τ.ltL q.2
def OT(τ:St): List (Option (u6×List SV))->List (Option (u6×List SV))->List (Option (u6×List SV))->Prop->Prop
 | _,_,[],p=>p
 | [],_,_::_,_=>False
 | _::_,[],_::_,_=>False
 | x::l,y::m,none::n,p=>Z7 (ltO τ y) (x=y/\OT τ l m n p)
 | _::l,_::m,some (_,[])::n,p=>OT τ l m n p
 | x::l,_::m,some (t,c::cs)::n,p=>match x with
  | some (u,ds)=>Z7 (Nat.beq u t&&τ.ltL (c::cs)) (CB ds (c::cs) (OT τ l m n p))
  | none=>False
def gn(a σ τ:St)(p:Prop): Prop:=Z7 (Nat.beq a.n τ.n) (lZ a (Ge σ τ) τ.ts (OT (Ge σ τ) a.bs σ.bs τ.bs (gp a.rs (bK σ.rs τ.rs) p)))
def xZ:List Dir->Bool
 | .row _ j _ _ _ _ _ _ _::_=>Nat.beq j 99999
 | .nil _ j _ _ _::_=>Nat.beq j 99999
 | .join _ j _ _::_=>Nat.beq j 99999
 | .cnv _ j _ _::_=>Nat.beq j 99999
 | .opn _ j _ _ _ _::_=>Nat.beq j 99999
 | _=>false
def Qag(a:Nat): List Dir->Bool
 | .cut r _ _ _ _::_=>Nat.beq r a
 | _=>false
def zX(a:Nat×Nat)(σ:St): Bool:=Nat.ble a.1 σ.bs.length&&Nat.ble a.2 σ.rs.length
def jT(f:St->List Dir->(Ex->St->List Dir->Prop)->Prop): Nat->St->List Dir->(Ex->St->List Dir->Prop)->Prop
 | 0,_,_,_=>False
 | n+1,σ,d,K=>f σ d λe a b=>match e with
  | .normal=>jT f n a b K
  | .exit id=>K (.exit id) a b
  | .ret=>K .ret a b
def Xu(P:u7)(tt:List (Nat×TI))(H:Cx)(f:Nat×Nat)(w0:y9): Code->St->List Dir->(Ex->St->List Dir->Prop)->Prop
 | .skip,σ,d,K=>K .normal σ d
 | .region id ops o,σ,d,K=>(match o with
  | true=>FL P tt H w0 id ops σ d λσ d=>K .normal σ d
  | false=>JU P tt H w0 id ops ops.toList 0 σ d λσ d=>K .normal σ d)
 | .seq a b,σ,d,K=>match Qag (Ho b) d with
  | true=>(match d with
   | .cut _ I C nx l::g=>Xu P tt H f w0 a σ g (λe h j=>match e with
    | .normal=>(match j with
     | .nxc k u::_=>gn h σ (I (nx k u)) (C (nx k u))
     | _=>False)
    | .exit id=>K (.exit id) h j
    | .ret=>K .ret h j)/\∀z,C z->Z7 (zX f (Ge σ (I z))) (Xu P tt H f w0 b (Ge σ (I z)) (l z) K)
   | _=>False)
  | false=>Xu P tt H f w0 a σ d λe σ d=>match e with
   | .normal=>(match xZ d with
    | true=>Jo (Ho b) 99999 4 σ d λσ d=>Xu P tt H f w0 b σ d K
    | false=>Xu P tt H f w0 b σ d K)
   | .exit id=>K (.exit id) σ d
   | .ret=>K .ret σ d
 | .cond c x y,σ,d,K=>K3 σ c λs=>match s with
  | .val (.bool v)=>(match d with
   | .br b::d=>v=b/\(match b with
    | true=>Xu P tt H f w0 x σ d K
    | false=>Xu P tt H f w0 y σ d K)
   | .both p dy::_=>(v=true->Xu P tt H f w0 x σ p K)/\(v=false->Xu P tt H f w0 y σ dy K)
   | d=>(match v with
    | true=>Xu P tt H f w0 x σ d K
    | false=>Xu P tt H f w0 y σ d K))
  | _=>False
 | .block id b,σ,d,K=>Xu P tt H f w0 b σ d λe σ d=>match e with
  | .normal=>K .normal σ d
  | .exit i=>(match Nat.beq i id with
   | true=>K .normal σ d
   | false=>K (.exit i) σ d)
  | .ret=>K .ret σ d
 | .loop b,σ,d,K=>(match d with
  | .loop I C μ m nx l::_=>gn σ σ (I m) (C m/\∀a,C a->Z7 (zX f (Ge σ (I a))) (Xu P tt H f w0 b (Ge σ (I a)) (l a) λe h g=>match e with
   | .normal=>(match g with
    | .next k::_=>gn h σ (I (nx a k)) (C (nx a k)/\μ (nx a k)<μ a)
    | _=>False)
   | .exit id=>K (.exit id) h g
   | .ret=>K .ret h g))
  | .lop I C μ m nx l::_=>gn σ σ (I m) (C m/\∀a,C a->Z7 (zX f (Ge σ (I a))) (Xu P tt H f w0 b (Ge σ (I a)) (l a) λe h g=>match e with
   | .normal=>(match g with
    | .nxt u::_=>gn h σ (I (nx a u)) (C (nx a u)/\μ (nx a u)<μ a)
    | _=>False)
   | .exit id=>K (.exit id) h g
   | .ret=>K .ret h g))
  | .unr n::g=>jT (λσ d K=>Xu P tt H f w0 b σ d K) n σ g K
  | _=>False)
 | .exit id,σ,d,K=>K (.exit id) σ d
 | .ret,σ,d,K=>K .ret σ d
 | .label _,σ,d,K=>K .normal σ d
 | _,_,_,_=>False
section
variable {P:Program} {tt:List (Nat×TI)} {w0:World}
theorem B1{σ τ:St}: ∀ {l:List (Nat×SV)} {p:Prop},lZ σ τ l p->p/\∀k s,YQ k l=some s->YQ k σ.ts=some s/\τ.lt s=true
 | [],p,h=>⟨h,λ_ _ h=>by cases h⟩
 | (j,u)::l,p,h=>by
  unfold lZ at h;split at h
  ·rename_i y b;obtain⟨c,d⟩:=Qp h;obtain⟨rfl,f⟩:=ID _ _ _ d;obtain⟨g,i⟩:=B1 (l:=l) f;refine⟨g,λk s a=>?_⟩;unfold YQ at a;cases e:Nat.beq j k with
   | true =>
    rw[e]at a;obtain rfl:=hW a;rw[<- Le e];exact⟨b,c⟩
   | false=>rw[e]at a;exact i k s a
  ·exact h.elim
theorem BY{τ:St}: ∀ {l m:List (Option (u6×List SV))} {p:Prop},qW τ l m p->p/\m.length<=l.length/\∀i t cs,Xe m i=some (t,cs)->Xe l i=some (t,cs)/\τ.ltL cs=true
 | l,[],p,h=>⟨(by cases l<;>exact h),La _,λ_ _ _ h=>by cases h⟩
 | [],_::_,p,h=>False.elim h
 | x::l,none::m,p,h=>by
  obtain⟨b,c,d⟩:=BY (l:=l) (m:=m) h;refine⟨b,Si c,λi t cs a=>?_⟩;cases i with
  | zero=>cases a
  | succ i=>exact d i t cs a
 | x::l,some q::m,p,h=>by
  obtain⟨f,rfl,g⟩:=Qp h;obtain⟨b,c,d⟩:=BY (l:=l) (m:=m) g;refine⟨b,Si c,λi j e a=>?_⟩;cases i with
  | zero=>obtain rfl:=hW a;exact⟨rfl,f⟩
  | succ i=>exact d i j e a
theorem BZ{τ:St}: ∀ {l m n:List (Option (u6×List SV))} {p:Prop},OT τ l m n p->p/\(ET m n).length<=l.length/\∀i t cs,Xe (ET m n) i=some (t,cs)->Xe l i=some (t,cs)/\τ.ltL cs=true
 | l,m,[],p,h=>⟨(by unfold OT at h;exact h),(by unfold ET;exact La _),λ_ _ _ h=>by unfold ET at h;cases h⟩
 | x::l,y::m,none::n,p,h=>by
  unfold OT at h;obtain⟨k,rfl,o⟩:=Qp h;obtain⟨f,g,j⟩:=BZ (l:=l) (m:=m) (n:=n) o;refine⟨f,Si g,λi d a b=>?_⟩;cases i with
  | zero=>obtain rfl:x=some (d,a):=b;exact⟨rfl,k⟩
  | succ i=>exact j i d a b
 | x::l,y::m,some (t,[])::n,p,h=>by
  unfold OT at h;obtain⟨f,g,j⟩:=BZ (l:=l) (m:=m) (n:=n) h;refine⟨f,Si g,λi d a b=>?_⟩;cases i with
  | zero=>cases b
  | succ i=>exact j i d a b
 | x::l,y::m,some (t,c::cs)::n,p,h=>by
  unfold OT at h;split at h
  ·rename_i u ds;obtain⟨q,h⟩:=Qp h;obtain⟨k1,k⟩:=L6.1 q;obtain⟨r,o⟩:=KD _ _ _ h;have s:=Le k1;obtain⟨f,g,j⟩:=BZ (l:=l) (m:=m) (n:=n) o;refine⟨f,Si g,λi d a b=>?_⟩;cases i with
   | zero =>
    have e:(t,c::cs)=(d,a):=hW b;obtain⟨rfl,rfl⟩:=Prod.mk.inj e;rw[r,s];exact⟨rfl,k⟩
   | succ i=>exact j i d a b
  ·exact h.elim
 | [],_,_::_,p,h=>False.elim h
 | _::_,[],_::_,p,h=>False.elim h
theorem B0:∀ {l m:List (Option Res)} {p:Prop},gp l m p->p/\m.length<=l.length/\∀i R,Xe m i=some R->∃b,Xe l i=some b/\∀v S w,b.φ v S w->R.φ v S w
 | l,[],p,h=>⟨(by cases l<;>exact h),La _,λ_ _ h=>by cases h⟩
 | [],_::_,p,h=>False.elim h
 | x::l,none::m,p,h=>by
  obtain⟨c,d,e⟩:=B0 (l:=l) (m:=m) h;refine⟨c,Si d,λi R a=>?_⟩;cases i with
  | zero=>cases a
  | succ i=>exact e i R a
 | x::l,some R::m,p,h=>by
  unfold gp at h;split at h
  ·rename_i b;obtain⟨c,d,e⟩:=B0 (l:=l) (m:=m) h.2;refine⟨c,Si d,λi f a=>?_⟩;cases i with
   | zero =>
    obtain rfl:=hW a;exact⟨b,rfl,h.1⟩
   | succ i=>exact e i f a
  ·exact h.elim
theorem dA{σ τ:St}(m:Nat.beq σ.n τ.n=true)(o:∀k s,YQ k τ.ts=some s->YQ k σ.ts=some s/\τ.lt s=true)(g:∀i t cs,Xe τ.bs i=some (t,cs)->Xe σ.bs i=some (t,cs)/\τ.ltL cs=true)(u:τ.rs.length<=σ.rs.length)(h:∀i R,Xe τ.rs i=some R->∃f,Xe σ.rs i=some f/\∀v S w,f.φ v S w->R.φ v S w): ∀r a w,Sat w0 σ r a w->Sat w0 τ r a w:=by
 refine λr a w c=>⟨⟨c.see.low,c.see.size.trans (Le m),λk s x=>?_,λi t cs b=>?_,λi R b=>?_,λi b=>c.see.one i (Lb b u)⟩,⟨λi p b=>?_,λi j p q b l=>?_,λi R b=>?_,λi j R f b l=>?_,λi j p R b l=>?_⟩,c.defers⟩
 ·obtain⟨d,e⟩:=o k s x;exact⟨(c.see.ts k s d).1,e⟩
 ·obtain⟨d,e⟩:=g i t cs b;exact⟨(c.see.bs i t cs d).1,e⟩
 ·obtain⟨f,d,e⟩:=h i R b;obtain⟨y,z⟩:=c.see.rs i f d;exact⟨e _ _ _ y,z⟩
 ·exact c.sep.own i p (g i p.1 p.2 b).1
 ·exact c.sep.inj i j p q (g i p.1 p.2 b).1 (g j q.1 q.2 l).1
 ·obtain⟨f,d,_⟩:=h i R b;exact c.sep.ownS i f d
 ·obtain⟨_,d,_⟩:=h i R b;obtain⟨_,e,_⟩:=h j f l;exact c.sep.disj i j _ _ d e
 ·obtain⟨_,e,_⟩:=h j R l;exact c.sep.apart i j p _ (g i p.1 p.2 b).1 e
theorem QV(w0:y9){σ τ:St}{p:Prop}(h:XT σ τ p): p/\∀r a w,Sat w0 σ r a w->Sat w0 τ r a w:=by
 obtain⟨b,h⟩:=Qp h;obtain⟨h,c⟩:=B1 h;obtain⟨h,_,d⟩:=BY h;obtain⟨h,e,f⟩:=B0 h;exact⟨h,dA b c d e f⟩
theorem GX(w0:y9){b σ τ:St}{p:Prop}(h:gn b σ τ p): p/\∀r a w,Sat w0 b r a w->Sat w0 (Ge σ τ) r a w:=by
 obtain⟨c,h⟩:=Qp h;obtain⟨h,d⟩:=B1 h;obtain⟨h,_,e⟩:=BZ h;obtain⟨h,f,g⟩:=B0 h;exact⟨h,dA (τ:=Ge σ τ) c d e f g⟩
theorem E3{α:Type}{c:Code}{Q:Exit->Act->y9->Prop}(J:α->Act->y9->Prop)(μ:α->Nat)(round:∀x a w,J x a w->c.wp P (Exit.then (λh i=>∃y,J y h i/\μ y<μ x) Q) a w)(r:α){a:Act}{w:y9}(s:J r a w): (Code.loop c).wp P Q a w:=by
 intro b k cs;have key:∀n x a w,μ x=n->J x a w->∃e h i,Q e h i/\Arrives P (lone (b.at a (.code c::.inLoop c::k)) cs w) b k cs e h i:=by
  intro n;induction n using Nat.strongRecOn with
  | _ n t =>
   intro x a w u v;obtain⟨e,j,m,f,d⟩:=round x a w v b (.inLoop c::k) cs;cases e with
   | normal =>
    obtain⟨y,o,p⟩:=f;obtain⟨z,A,B,q,g⟩:=t (μ y) (u▸p) y j m rfl o;exact⟨z,A,B,q,.of_steps (Steps.trans d (.one step_inLoop)) g⟩
   | exit id=>exact⟨_,j,m,f,.pass (x:=.inLoop c) rfl (λ_ _=>.inl x6) d⟩
   | goto l=>exact⟨_,j,m,f,.pass (x:=.inLoop c) rfl (λ_ _=>.inl x6) d⟩
   | ret=>exact⟨_,j,m,f,.pass (x:=.inLoop c) rfl (λ_ _=>.inl x6) d⟩
   | panic C=>exact⟨_,j,m,f,.pass (x:=.inLoop c) rfl (λ_ _=>.inl x6) d⟩
   | outgrown=>exact⟨_,j,m,f,.pass (x:=.inLoop c) rfl (λ_ _=>.inl x6) d⟩
 obtain⟨e,h,i,f,d⟩:=key _ r a w rfl s;exact⟨e,h,i,f,.of_steps (.one step_loop) d⟩
structure Rules (P:Program) (V:Code->(Exit->Act->World->Prop)->Act->World->Prop):Prop where
 skip:∀ {Q:Exit->Act->World->Prop} {a:Act} {w:World},Q .normal a w->V .skip Q a w
 label:∀ {l:Nat} {Q:Exit->Act->World->Prop} {a:Act} {w:World},Q .normal a w->V (.label l) Q a w
 exit:∀ {id:Nat} {Q:Exit->Act->World->Prop} {a:Act} {w:World},Q (.exit id) a w->V (.exit id) Q a w
 ret:∀ {Q:Exit->Act->World->Prop} {a:Act} {w:World},Q .ret a w->V .ret Q a w
 rl:∀ {id:Nat} {ops:Array Oper} {Q:Exit->Act->World->Prop} {a:Act} {w:World},wpList P ops Q ops.toList a w->V (.region id ops false) Q a w
 rd:∀ {id:Nat} {ops:Array Oper} {Q:Exit->Act->World->Prop} {a:Act} {w:World},wpAny P .any ops Q ops.size (Array.replicate ops.size false) a { w with drawn:=w.drawn+1 }->V (.region id ops true) Q a w
 seq:∀ {x y:Code} {Q:Exit->Act->World->Prop} {a:Act} {w:World},V x (Exit.then (V y Q) Q) a w->V (.seq x y) Q a w
 ct:∀ {c:Operand} {x y:Code} {Q:Exit->Act->World->Prop} {a:Act} {w:World},a.eval c=.bool true->V x Q a w->V (.cond c x y) Q a w
 cf:∀ {c:Operand} {x y:Code} {Q:Exit->Act->World->Prop} {a:Act} {w:World},a.eval c=.bool false->V y Q a w->V (.cond c x y) Q a w
 block:∀ {id:Nat} {c:Code} {Q:Exit->Act->World->Prop} {a:Act} {w:World},V c (Exit.inBlock id Q) a w->V (.block id c) Q a w
 loop:∀ {α:Type} {c:Code} {Q:Exit->Act->World->Prop} (J:α->Act->World->Prop) (μ:α->Nat),(∀x a w,J x a w->V c (Exit.then (λa' w'=>∃y,J y a' w'/\μ y<μ x) Q) a w)->∀(x0:α) {a:Act} {w:World},J x0 a w->V (.loop c) Q a w
theorem Jv(b:P.follows .mixedOrders=true): Rules P λc Q a w=>c.wp P Q a w :=
 ⟨wp_skip,wp_label,wp_exit,wp_ret,wp_region_list,wp_region_any b,wp_seq,wp_cond_true,wp_cond_false,wp_block,λJ μ h d _ _ e=>E3 J μ h d e⟩
def G3(Q:Exit->Act->y9->Prop): Prop:=∀(d:Tmp) (v:z0) c a w,Q (.panic c) (a.put (some d) v) w->Q (.panic c) a w
def AgN(a:Nat×Nat)(r c:Env): Prop:=(∀i,i<a.1->c.b i=r.b i)/\∀i,i<a.2->c.x i=r.x i
def FlOk(a:Nat×Nat)(σ:St): Prop:=a.1<=σ.bs.length/\a.2<=σ.rs.length
theorem AgN.refl(a:Nat×Nat)(r:Env): AgN a r r:=⟨λ_ _=>rfl,λ_ _=>rfl⟩
theorem AgN.trans{c:Nat×Nat}{r d a:Env}(h:AgN c r d)(k:AgN c d a): AgN c r a:=⟨λi b=>(k.1 i b).trans (h.1 i b),λi b=>(k.2 i b).trans (h.2 i b)⟩
theorem Ag.n{fl:Nat×Nat}{σ:St}{r a:Env}(h:Ag σ r a)(b:FlOk fl σ): AgN fl r a:=⟨λi hi=>h.1 i (Lb hi b.1),λi hi=>h.2 i (Lb hi b.2)⟩
theorem FlOk.le{a:Nat×Nat}{σ σ':St}(h:FlOk a σ)(k:σ.le σ'): FlOk a σ':=⟨L9 h.1 k.1,L9 h.2 k.2⟩
theorem Wm{a:Nat×Nat}{σ:St}(h:zX a σ=true): FlOk a σ:=by
 obtain⟨b,c⟩:=L6.1 h;exact⟨L3 b,L3 c⟩
def PanN(w0:y9)(H:Cx)(c:Nat×Nat)(r:Env)(Q:Exit->Act->y9->Prop): Prop:=∀s a f b d e,H.pan s a f->Sat w0 a b d e->FlOk c a->AgN c r b->a.lt s=true->Q (.panic [{ v:=s.den b,recovered:=false }]) d e
theorem PanN.at{H:Cx}{a:Nat×Nat}{σ:St}{r:Env}{Q:Exit->Act->y9->Prop}(h:PanN w0 H a r Q)(b:FlOk a σ): PanTo w0 H σ r Q:=λs c d e f g i j k l hs=>h s c d e f g i j (b.le l) (k.n b) hs
theorem PanN.later{H:Cx}{a:Nat×Nat}{r c:Env}{Q:Exit->Act->y9->Prop}(h:PanN w0 H a r Q)(d:AgN a r c): PanN w0 H a c Q:=λs e f g i j k l m b hs=>h s e f g i j k l m (d.trans b) hs
theorem V6{V:Code->(Exit->Act->y9->Prop)->Act->y9->Prop}(G:Rules P V)(hT:YF P tt){H:Cx}(hH:I0 P w0 H.inl)(W:Nat×Nat): ∀(c:Code) (σ:St) (d:List Dir) (K:Ex->St->List Dir->Prop),Xu P tt H W w0 c σ d K->FlOk W σ->∀r a w,Sat w0 σ r a w->∀(Q:Exit->Act->y9->Prop),G3 Q->PanN w0 H W r Q ->
  (∀e D B p u z,K e D B->Sat w0 D p u z->FlOk W D->AgN W r p->Q e.to u z)->V c Q a w:=by
 intro c;induction c with
 | skip=>exact λσ d K h A r a w q Q _ _ o=>G.skip (o _ _ _ _ _ _ h q A (AgN.refl _ _))
 | region id ops dr =>
  intro σ d K h A r a w q Q F E o;cases dr with
  | true=>exact G.rd (WW hT hH (show FL P tt H w0 id ops σ d _ from h) r a w q Q F (E.at A) λD B p u z L f k hl=>o _ _ _ _ _ _ L f (A.le hl) (k.n A))
  | false=>exact G.rl (KQ hT hH ops.toList 0 σ d _ (show JU P tt H w0 id ops ops.toList 0 σ d _ from h) r a w q Q (E.at A) λD B p u z L f k hl=>o _ _ _ _ _ _ L f (A.le hl) (k.n A))
 | seq x y M J =>
  intro σ d K h A r a w q Q F E o;unfold Xu at h;split at h
  ·split at h
   ·obtain⟨L,h2⟩:=h;refine G.seq (M σ _ _ L A r a w q _ (λd v c a w N=>F d v c a w N) (λs D B p u z=>E s D B p u z) λe D B p u z j f g k=>?_);cases e with
    | normal =>
     dsimp only at j;split at j
     ·obtain⟨k1,X⟩:=GX w0 j;obtain⟨O,hx⟩:=Qp (h2 _ k1);exact J _ _ K hx (Wm O) p u z (X _ _ _ f) Q F (E.later k) λe σ3 d3 r3 a3 w3 R S T U=>o e σ3 d3 r3 a3 w3 R S T (k.trans U)
     ·exact j.elim
    | exit id=>exact o _ _ _ _ _ _ j f g k
    | ret=>exact o _ _ _ _ _ _ j f g k
   ·exact h.elim
  refine G.seq (M σ d _ h A r a w q _ (λd v c a w N=>F d v c a w N) (λs D B p u z=>E s D B p u z) λe D B p u z j f g k=>?_);cases e with
  | normal =>
   dsimp only at j;split at j
   ·obtain⟨Z,d1,r1,k1,k2,X,k4⟩:=GJ 4 j p u z f;exact J _ _ K k1 (g.le k4) r1 u z k2 Q F (E.later (k.trans (X.n g))) λe σ3 d3 r3 a3 w3 R S T U=>o e σ3 d3 r3 a3 w3 R S T (k.trans ((X.n g).trans U))
   ·exact J D _ K j g p u z f Q F (E.later k) λe σ3 d3 r3 a3 w3 R S T U=>o e σ3 d3 r3 a3 w3 R S T (k.trans U)
  | exit id=>exact o _ _ _ _ _ _ j f g k
  | ret=>exact o _ _ _ _ _ _ j f g k
 | cond c x y M J =>
  intro σ d K h A r a w q Q F E o;obtain⟨s,L,h⟩:=QF (show K3 σ c _ from h);split at h
  ·rename_i v;have he:=(Qy q.see L).1;split at h
   ·rename_i b B _;obtain⟨rfl,h⟩:=h;cases v with
    | true=>exact G.ct he (M σ B K h A r a w q Q F E o)
    | false=>exact G.cf he (J σ B K h A r a w q Q F E o)
   ·rename_i dx dy _ _;cases v with
    | true=>exact G.ct he (M σ dx K (h.1 rfl) A r a w q Q F E o)
    | false=>exact G.cf he (J σ dy K (h.2 rfl) A r a w q Q F E o)
   ·cases v with
    | true=>exact G.ct he (M σ _ K h A r a w q Q F E o)
    | false=>exact G.cf he (J σ _ K h A r a w q Q F E o)
  ·exact h.elim
 | block id b ih =>
  intro σ d K h A r a w q Q F E o;refine G.block (ih σ d _ h A r a w q _ (λd v c a w N=>F d v c a w N) (λs D B p u z=>E s D B p u z) λe D B p u z j f g k=>?_);cases e with
  | normal=>exact o .normal _ _ _ _ _ j f g k
  | exit i =>
   show(if i=id then Q .normal u z else Q (.exit i) u z);dsimp only at j;cases e2:Nat.beq i id with
   | true=>rw[e2]at j;rw[if_pos (Le e2)];exact o .normal _ _ _ _ _ j f g k
   | false=>rw[e2]at j;rw[if_neg (Nat.ne_of_beq_eq_false e2)];exact o (.exit i) _ _ _ _ _ j f g k
  | ret=>exact o .ret _ _ _ _ _ j f g k
 | loop b ih =>
  intro σ d K h A r a w q Q F E o;unfold Xu at h;split at h
  ·rename_i α I C μ a0 nx bd _;obtain⟨⟨L,h2⟩,h3⟩:=GX w0 h;refine G.loop (λx a w=>C x/\∃p,Sat w0 (Ge σ (I x)) p a w/\AgN W r p) μ (λx a w hJ=>?_) a0 ⟨L,r,h3 r a w q,AgN.refl _ _⟩;obtain⟨hc,r1,q,t⟩:=hJ;obtain⟨O,Y⟩:=Qp (h2 x hc);refine ih (Ge σ (I x)) (bd x) _ Y (Wm O) r1 a w q _ (λd v c a w N=>F d v c a w N) (λs D B p u z j f g k=>E s D B p u z j f g (t.trans k)) λe D B p u z j f g k=>?_
   cases e with
   | normal =>
    dsimp only at j;split at j
    ·obtain⟨⟨k1,k2⟩,X⟩:=GX w0 j;exact⟨_,⟨k1,p,X _ _ _ f,t.trans k⟩,k2⟩
    ·exact j.elim
   | exit id=>exact o _ _ _ _ _ _ j f g (t.trans k)
   | ret=>exact o _ _ _ _ _ _ j f g (t.trans k)
  ·rename_i α I C μ a0 nx bd _;obtain⟨⟨L,h2⟩,h3⟩:=GX w0 h;refine G.loop (λx a w=>C x/\∃p,Sat w0 (Ge σ (I x)) p a w/\AgN W r p) μ (λx a w hJ=>?_) a0 ⟨L,r,h3 r a w q,AgN.refl _ _⟩;obtain⟨hc,r1,q,t⟩:=hJ;obtain⟨O,Y⟩:=Qp (h2 x hc);refine ih (Ge σ (I x)) (bd x) _ Y (Wm O) r1 a w q _ (λd v c a w N=>F d v c a w N) (λs D B p u z j f g k=>E s D B p u z j f g (t.trans k)) λe D B p u z j f g k=>?_
   cases e with
   | normal =>
    dsimp only at j;split at j
    ·obtain⟨⟨k1,k2⟩,X⟩:=GX w0 j;exact⟨_,⟨k1,p,X _ _ _ f,t.trans k⟩,k2⟩
    ·exact j.elim
   | exit id=>exact o _ _ _ _ _ _ j f g (t.trans k)
   | ret=>exact o _ _ _ _ _ _ j f g (t.trans k)
  ·rename_i n B;refine G.loop (λm a w=>∃Z d1 r1,jT (λσ d K=>Xu P tt H W w0 b σ d K) m Z d1 K/\Sat w0 Z r1 a w/\FlOk W Z/\AgN W r r1) (λm=>m) (λm a w hJ=>?_) n ⟨σ,B,r,h,q,A,AgN.refl _ _⟩;obtain⟨Z,d1,r1,L,ad,ae,t⟩:=hJ;cases m with
   | zero=>exact False.elim L
   | succ m =>
    refine ih Z d1 _ L ae r1 a w ad _ (λd v c a w N=>F d v c a w N) (λs D B p u z j f g k=>E s D B p u z j f g (t.trans k)) λe D B p u z j f g k=>?_
    cases e with
    | normal=>exact⟨m,⟨D,B,p,j,f,g,t.trans k⟩,Sh m⟩
    | exit id=>exact o _ _ _ _ _ _ j f g (t.trans k)
    | ret=>exact o _ _ _ _ _ _ j f g (t.trans k)
  ·exact h.elim
 | exit id=>exact λσ d K h A r a w q Q _ _ o=>G.exit (o (.exit id) _ _ _ _ _ h q A (AgN.refl _ _))
 | ret=>exact λσ d K h A r a w q Q _ _ o=>G.ret (o .ret _ _ _ _ _ h q A (AgN.refl _ _))
 | label l=>exact λσ d K h A r a w q Q _ _ o=>G.label (o .normal _ _ _ _ _ h q A (AgN.refl _ _))
 | _=>intro σ d K h;exact False.elim h
theorem bz(k:YF P tt)(l:P.follows .mixedOrders=true){H:Cx}(m:I0 P w0 H.inl)(b:Nat×Nat)(c:Code)(σ:St)(d:List Dir)(K:Ex->St->List Dir->Prop)(h:Xu P tt H b w0 c σ d K)(n:FlOk b σ)(r:Env)(a:Act)(w:y9)(o:Sat w0 σ r a w)(Q:Exit->Act->y9->Prop)(p:G3 Q)(q:PanN w0 H b r Q)(s:∀e f t g i j,K e f t->Sat w0 f g i j->FlOk b f->AgN b r g->Q e.to i j): c.wp P Q a w :=
 V6 (Jv l) k m b c σ d K h n r a w o Q p q s
end
def ldS(tt:List (Nat×TI))(σ:St)(t:u6)(s:SV)(K:SV->Prop): Prop:=match s with
 | .ptr b o=>ZV (Xe σ.bs b) λp=>Fj tt t λa=>match a.k.agg with
  | true=>Z7 (Nat.ble (o+a.size) p.2.length) (K (.agg ((p.2.drop o).take a.size)))
  | false=>ZV (VQ p.2 o) K
 | _=>False
def WY(tt:List (Nat×TI))(σ:St)(v:ResultVar)(K:SV->Prop): Prop:=match v with
 | .tmp t=>K3 σ (.tmp t) K
 | .cell a t=>K3 σ (.tmp a) λs=>ldS tt σ t s K
def fU(tt:List (Nat×TI))(σ:St): List ResultVar->(List SV->Prop)->Prop
 | [],K=>K []
 | v::l,K=>WY tt σ v λs=>fU tt σ l λm=>K (s::m)
def uk(l:List SV)(K:SV->Prop): Prop:=match l with
 | [s]=>K s
 | l=>K (.tup l)
def Vj(tt:List (Nat×TI))(rs:List ResultVar)(e:Ex)(σ:St)(K:SV->Prop): Prop:=match e with
 | .exit _=>False
 | _=>fU tt σ rs λl=>uk l K
def bv:a8->Nat->List (Nat×SV)
 | [],_=>[]
 | v::l,k=>(k,.val v)::bv l (k+1)
def MB:List SV->Nat->List (Nat×SV)
 | [],_=>[]
 | s::l,k=>(k,s)::MB l (k+1)
def Ws(P:u7)(tt:List (Nat×TI))(w0:y9): Nat->rT
 | 0=>λ_ _ _ _ _ _=>False
 | n+1=>λfn l σ d K b=>match fn.body with
  | some c=>Z7 (Nat.ble l.length fn.ntmps) (Xu P tt ⟨Ws P tt w0 n,b⟩ (σ.bs.length,σ.rs.length) w0 c ⟨fn.ntmps,MB l 0,σ.bs,σ.rs⟩ d λe a f=>Vj tt fn.results.toList e a λs=>Z7 (a.lt s) (K s a f))
  | none=>False
def JI(P:u7)(tt:List (Nat×TI))(w0:y9): Cx:=⟨Ws P tt w0 9,λ_ _ _=>False⟩
def O4(N:Nat)(args:a8): St:=⟨N,bv args 0,[],[]⟩
def vC(tmps:b7): ResultVar->Sem z0
 | .tmp t=>pure (tmps.getD t undef)
 | .cell a t=>do loadVar t (<- asAddr (tmps.getD a undef))
theorem WZ(fn:Func)(tmps:b7): results fn tmps=(do
 let a <- fn.results.mapM (vC tmps)
 pure (if h:a.size=1 then a[0]else .tuple a)):=rfl
section
variable {P:Program} {tt:List (Nat×TI)} {w0:World} {σ:St}
theorem fV(l:YF P tt){v:ResultVar}{K:SV->Prop}(h:WY tt σ v K): ∃s,K s/\∀r a w,Sat w0 σ r a w ->
  (vC a.tmps v).run P w=.ok (s.den r) w:=by
 unfold WY at h;split at h
 ·rename_i t;obtain⟨s,e,h⟩:=QF h;exact⟨s,h,λr a w d=>by rw[<- (Qy d.see e).1];rfl⟩
 ·rename_i x t;obtain⟨s,e,h⟩:=QF h;unfold ldS at h;split at h
  ·rename_i b o;obtain⟨p,g,h⟩:=QH h;obtain⟨q,i,h⟩:=Xz l h;have j:∀r a w,Sat w0 σ r a w->a.tmps.getD x undef=.pointer (some ⟨r.b b,o,none⟩):=λr a w d=>(Qy d.see e).1
   have k:∀(r:Env) (w:y9),(do loadVar t (<- asAddr (.pointer (some ⟨r.b b,o,none⟩))):Sem z0).run P w=(Instr.loadAt t (.pointer (some ⟨r.b b,o,none⟩))).run P w:=λr w=>rfl
   split at h
   ·rename_i f;obtain⟨m,h⟩:=Qp h;refine⟨_,h,λr a w d=>?_⟩;show(do loadVar t (<- asAddr (a.tmps.getD x undef)):Sem z0).run P w=_;rw[j r a w d,k];simp only[SV.den,Fs];exact If i f (d.see.bs _ p.1 p.2 g).1 (by rw[J6];exact L3 m)
   ·rename_i f;obtain⟨c,n,h⟩:=QH h;refine⟨_,h,λr a w d=>?_⟩;show(do loadVar t (<- asAddr (a.tmps.getD x undef)):Sem z0).run P w=_;rw[j r a w d,k];exact Ig i f (d.see.bs _ p.1 p.2 g).1 (GO n)
  ·exact h.elim
theorem Nk(b:YF P tt): ∀ {l:List ResultVar} {K:List SV->Prop},fU tt σ l K->∃m,K m/\∀r a w,Sat w0 σ r a w ->
  (l.mapM (vC a.tmps)).run P w=.ok (QJ r m) w
 | [],K,h=>⟨[],h,λ_ _ _ _=>rfl⟩
 | v::l,K,h=>by
  obtain⟨s,h,d⟩:=fV (w0:=w0) b h;obtain⟨m,h,e⟩:=Nk b (l:=l) h;refine⟨s::m,h,λr a w c=>?_⟩;rw[List.mapM_cons,p0,d r a w c,p7,p0,e r a w c];rfl
theorem By(w0:y9)(rs:List ResultVar)(f:YF P tt){fn:Func}(g:fn.results=rs.toArray){e:Ex}{K:SV->Prop}(h:Vj tt rs e σ K): (e=.normal\/e=.ret)/\∃s,K s/\∀r a w,Sat w0 σ r a w->(results fn a.tmps).run P w=.ok (s.den r) w:=by
 have key:fU tt σ rs (λl=>uk l K)->∃s,K s/\∀r a w,Sat w0 σ r a w->(results fn a.tmps).run P w=.ok (s.den r) w:=λh=>by
  obtain⟨m,h,i⟩:=Nk (w0:=w0) f h;have d:∀r a w,Sat w0 σ r a w->(results fn a.tmps).run P w=.ok (if h:(QJ r m).toArray.size=1 then(QJ r m).toArray[0]else .tuple (QJ r m).toArray) w:=λr a w b=>by
   rw[WZ,g,Array.mapM_eq_mapM_toList,p0,Sem.run_map,i r a w b];rfl
  unfold uk at h;split at h
  ·exact⟨_,h,λr a w b=>by rw[d r a w b];rfl⟩
  ·rename_i c;refine⟨_,h,λr a w b=>?_⟩;rw[d r a w b,dif_neg ?_]
   ·rfl
   ·intro e;have j:m.length=1:=by rw[<- J6 r m];simpa using e
    obtain⟨s,rfl⟩:=List.length_eq_one_iff.1 j;exact c s rfl
 unfold Vj at h;cases e with
 | exit id=>exact h.elim
 | normal=>exact⟨.inl rfl,key h⟩
 | ret=>exact⟨.inr rfl,key h⟩
theorem MT{k:Nat}{s:SV}: ∀ {l:a8} {j:Nat},YQ k (bv l j)=some s->∃i v,l[i]?=some v/\k=j+i/\s=.val v
 | [],_,h=>by cases h
 | v::l,j,h=>by
  simp only[bv,YQ]at h;cases e:Nat.beq j k with
  | true =>
   rw[e]at h;obtain rfl:=hW h;exact⟨0,v,rfl,(Le e).symm,rfl⟩
  | false =>
   rw[e]at h;obtain⟨i,u,a,c,b⟩:=MT (l:=l) h;exact⟨i+1,u,y8 a,x3,b⟩
theorem lw{N:Nat}{args:a8}(e:args.length<=N)(w:y9): Sat w (O4 N args) e0 { tmps:=args.toArray++Array.replicate (N-args.toArray.size) undef,defers:=[] } w:=by
 refine⟨⟨l3 _ _,?_,λk s c=>?_,λi t cs a=>?_,λi R a=>?_,λi a=>?_⟩,⟨λi p a=>?_,λi j p q a=>?_,λi R a=>?_,λi j R f a=>?_,λi j p R a=>?_⟩,rfl⟩
 ·simp[O4];omega
 ·obtain⟨i,v,b,rfl,rfl⟩:=MT c;refine⟨?_,rfl⟩;have d:i<args.length:=(sT.1 b).1;rw[Lj,h8,Array.getElem?_append_left (y8 d)];simp[b,SV.den]
 ·cases a
 ·cases a
 ·exact absurd a (R6 _)
 ·cases a
 ·cases a
 ·cases a
 ·cases a
 ·cases a
theorem Ih{k:Nat}{s:SV}: ∀ {l:List SV} {j:Nat},YQ k (MB l j)=some s->∃i,l[i]?=some s/\k=j+i
 | [],_,h=>by cases h
 | v::l,j,h=>by
  simp only[MB,YQ]at h;cases e:Nat.beq j k with
  | true =>
   rw[e]at h;obtain rfl:=hW h;exact⟨0,rfl,(Le e).symm⟩
  | false =>
   rw[e]at h;obtain⟨i,a,b⟩:=Ih (l:=l) h;exact⟨i+1,y8 a,x3⟩
theorem ah(σ:St)(N:Nat)(l:List SV){r:Env}{w:y9}(e:l.length<=N)(a:σ.ltL l=true)(h:Aa w0 σ r w): Sat w0 ⟨N,MB l 0,σ.bs,σ.rs⟩ r { tmps:=(QJ r l).toArray++Array.replicate (N-(QJ r l).toArray.size) undef,defers:=[] } w:=by
 refine⟨⟨h.see.low,?_,λk s c=>?_,h.see.bs,h.see.rs,h.see.one⟩,⟨h.sep.own,h.sep.inj,h.sep.ownS,h.sep.disj,h.sep.apart⟩,rfl⟩
 ·simp[J6];omega
 ·obtain⟨i,b,rfl⟩:=Ih c;refine⟨?_,okL_all.1 a s (List.mem_of_getElem? b)⟩;have d:i<l.length:=(sT.1 b).1;rw[Lj,h8,Array.getElem?_append_left (by simpa [J6]using d)];simp[XE,b]
theorem C3(t:YF P tt)(y:P.follows .mixedOrders=true){H:Cx}(z:I0 P w0 H.inl){fl:Nat×Nat}{f:FuncId}{fn:Func}{c:Code}(A:P.funcs[f]?=some fn)(B:fn.body=some c){args:b7}{σ:St}{r:Env}{w:y9}{d:List Dir}{K:SV->St->List Dir->Prop}(h:Xu P tt H fl w0 c σ d λe g j=>Vj tt fn.results.toList e g λs=>K s g j)(o:FlOk fl σ)(C:Sat w0 σ r { tmps:=args++Array.replicate (fn.ntmps-args.size) undef,defers:=[] } w){R:Ending->y9->Prop}(D:∀s g j i m k,K s g j->Sat w0 g i m k->FlOk fl g->AgN fl r i->R (.returned (s.den i)) k)(E:∀s g j i m k,H.pan s g j->Sat w0 g i m k->FlOk fl g->AgN fl r i->g.lt s=true->R (.panicked [{ v:=s.den i,recovered:=false }]) k): Calls P f args w R:=by
 refine calls_of_wp A B ?_
 refine bz t y z fl c _ d _ h o r _ w C _ (λd v I a w u=>?_) (λs g j i m k p b n q hs=>⟨b.defers,E s g j i m k p b n q hs⟩) λe g j i m k p b n q=>?_
 ·exact⟨u.1,u.2⟩
 ·obtain⟨F,s,G,l⟩:=By w0 fn.results.toList t rfl p;have x:=D s g j i m k G b n q;rcases F with rfl|rfl
  ·exact⟨b.defers,_,l _ _ _ b,x⟩
  ·exact⟨b.defers,_,l _ _ _ b,x⟩
theorem Jp(p:YF P tt)(q:P.follows .mixedOrders=true): ∀n,I0 P w0 (Ws P tt w0 n)
 | 0=>λ_ _ _ _ _ _ h=>False.elim h
 | n+1=>λfn l σ d K t h f u g r w v R x y=>by
  unfold Ws at h;split at h
  ·rename_i c z;obtain⟨A,h⟩:=Qp h;refine C3 p q (H:=⟨Ws P tt w0 n,t⟩) (Jp p q n) u z h ⟨L8 _,L8 _⟩ (ah _ _ _ (L3 A) g v) (λs i j k D m o b a e=>?_) λs i j k _ m o b a e hs=>y s i j k m o b.mem ⟨e.1,e.2⟩ ⟨a.1,a.2⟩ hs
   obtain⟨B,C⟩:=Qp o;exact x s i j k m C b.mem ⟨e.1,e.2⟩ ⟨a.1,a.2⟩ B
  ·exact h.elim
theorem NK(K:SV->St->Prop)(g:YF P tt)(i:P.follows .mixedOrders=true){f:FuncId}{fn:Func}{c:Code}(j:P.funcs[f]?=some fn)(k:fn.body=some c){args:a8}(l:Nat.ble args.length fn.ntmps=true){d:List Dir}(h:Xu P tt (JI P tt w0) (0,0) w0 c (O4 fn.ntmps args) d λe σ _=>Vj tt fn.results.toList e σ λs=>K s σ):
  Calls P f args.toArray w0 λe m=>∃s σ r a,e=.returned (s.den r)/\K s σ/\Sat w0 σ r a m :=
 C3 g i (H:=JI P tt w0) (Jp g i 9) j k (K:=λs σ _=>K s σ) h ⟨La _,La _⟩ (lw (L3 l) w0) (λs n _ o p _ q b _ _=>⟨s,n,o,p,rfl,q,b⟩) λ_ _ _ _ _ _ h=>False.elim h
theorem Qaa(b:YF P tt)(g:P.follows .mixedOrders=true){f:FuncId}{fn:Func}{c:Code}(i:XB P f)(j:P.funcs[f]?=some fn)(k:fn.body=some c){args:a8}(l:Nat.ble args.length fn.ntmps=true){R:z0}{d:y9->List Dir}(h:∀W,Below w0.heap.size w0 W->Xu P tt (JI P tt W) (0,0) W c (O4 fn.ntmps args) (d W) λe σ _=>Vj tt fn.results.toList e σ λs=>Z7 s.plain (s.den e0=R)):
  RetAt P w0 f args.toArray R:=by
 refine⟨i,λW m=>(NK (λs σ=>Z7 s.plain (s.den e0=R)) (w0:=W) b g j k l (h W m)).mono ?_⟩;rintro e t ⟨s,σ,r,a,rfl,n,o⟩;obtain⟨p,q⟩:=Qp n;rw[JW p,q];exact⟨rfl,o.see.low⟩
def EM(P:u7)(tt:List (Nat×TI))(W:y9)(fn:Func)(σ:St)(d:List Dir)(K:Ex->St->List Dir->Prop): Prop:=match fn.body with
 | some c=>Xu P tt (JI P tt W) (0,0) W c σ d K
 | none=>False
theorem WF(w0:y9)(T:Prop)(Z:z0->y9->Prop)(E:SV->St->Prop)(j:YF P tt)(k:P.follows .mixedOrders=true){f:FuncId}{fn:Func}(l:P.funcs[f]?=some fn){N:Nat}(m:fn.ntmps=N){rs:Array ResultVar}(n:fn.results=rs)(args:a8)(o:Nat.ble args.length N=true)(d:List Dir)(h:T)(p:T=EM P tt w0 fn (O4 N args) d λe σ _=>Vj tt rs.toList e σ λs=>E s σ)(q:∀s σ,E s σ->∀r a b,Sat w0 σ r a b->Z (s.den r) b):
  Calls P f args.toArray w0 λe b=>∃v,e=.returned v/\Z v b/\Below w0.heap.size w0 b:=by
 have key:=p▸h;subst m;subst n;unfold EM at key;cases g:fn.body with
 | none =>
  rw[g]at key;exact key.elim
 | some c =>
  rw[g]at key;refine(NK E j k l g o key).mono ?_
  rintro e b ⟨s,σ,r,a,rfl,t,i⟩;exact⟨_,rfl,q s σ t r a b i,i.see.low⟩
end
theorem ai{a b:Prop}(h:a)(k:b): a/\b:=⟨h,k⟩
abbrev rle(R a:Res): Prop:=∀(x:z0) (S:Nat->Prop) (w:y9),R.φ x S w->a.φ x S w
theorem Zo(R a:Res)(h:∀(x:z0) (S:Nat->Prop) (w:y9),R.φ x S w->a.φ x S w): rle R a:=h
abbrev vH{β:Type}(R:Res)(v:β->z0)(a:β->Res): Prop:=∀(x:z0) (S:Nat->Prop) (w:y9),R.φ x S w->∃y:β,x=v y/\(a y).φ x S w
theorem XA(b:Bool){A B:Prop}(f:b=true->A)(g:b=false->B): (b=true->A)/\(b=false->B):=⟨f,g⟩
theorem ZG(b l:Bool){A B:Prop}(f:b=l->A)(g:b=(!l)->B): (b=l->A)/\(b=(!l)->B):=⟨f,g⟩
theorem eB(r b:Bool)(h:r=b): (.bool b:z0)=.bool r:=by rw[h]
theorem eI(r b:Int)(h:r=b): (.int .i64 b:z0)=.int .i64 r:=by rw[h]
abbrev cQ(n:Nat)(f:Nat->Bool)(k:Nat): Prop:=k<=n/\∀j,j<k->f j=false
def P1(I:Nat->St)(n:Nat)(f:Nat->Bool)(D:Nat->List Dir): Dir:=.loop I (cQ n f) (λk=>n-k) 0 (λk _=>k+1) D
theorem c0(n:Nat)(f:Nat->Bool): cQ n f 0:=⟨La _,λ_ a=>absurd a (R6 _)⟩
theorem cS{n k:Nat}{f:Nat->Bool}(h:cQ n f k)(a:k<n)(b:f k=false): cQ n f (k+1):=⟨a,λj c=>by
 rcases Nat.lt_or_eq_of_le (Tt c)with d|rfl
 ·exact h.2 j d
 ·exact b⟩
theorem O1{n k:Nat}(h:k<n): n-(k+1)<n-k:=x3
def P0(I:Nat×Hp->St)(n:Nat)(a:Nat×Hp)(D:Nat×Hp->List Dir): Dir:=.lop I (λq=>q.1<=n) (λq=>n-q.1) a (λq u=>(q.1+1,u.headD (none,0))) D
theorem X7{a b r:Prop}(c:a)(d:b)(h:r): a/\b/\r:=⟨c,d,h⟩
theorem JH{a b c r:Prop}(d:a)(e:b)(f:c)(h:r): a/\b/\c/\r:=⟨d,e,f,h⟩
theorem Km{a b c d r:Prop}(e:a)(f:b)(g:c)(i:d)(h:r): a/\b/\c/\d/\r:=⟨e,f,g,i,h⟩
theorem Kr{a b c d e r:Prop}(f:a)(g:b)(i:c)(j:d)(k:e)(h:r): a/\b/\c/\d/\e/\r:=⟨f,g,i,j,k,h⟩
theorem Gz{a b c d e f r:Prop}(g:a)(i:b)(j:c)(k:d)(l:e)(m:f)(h:r): a/\b/\c/\d/\e/\f/\r:=⟨g,i,j,k,l,m,h⟩
theorem DM{a b c d e f g r:Prop}(i:a)(j:b)(k:c)(l:d)(m:e)(n:f)(o:g)(h:r): a/\b/\c/\d/\e/\f/\g/\r:=⟨i,j,k,l,m,n,o,h⟩
theorem Zb{a b c d e f g i r:Prop}(j:a)(k:b)(l:c)(m:d)(n:e)(o:f)(p:g)(q:i)(h:r): a/\b/\c/\d/\e/\f/\g/\i/\r:=⟨j,k,l,m,n,o,p,q,h⟩
abbrev OB:=Option (u6×List SV)
theorem qk(x:OB): x=x:=rfl
abbrev iV(n:Int): SV:=.val (.int .i64 n)
abbrev bV(b:Bool): SV:=.val (.bool b)
abbrev sV(s:u4): SV:=.val (.string s)
abbrev lV(a:u5)(n c:Nat): SV:=.val (.slice a n c)
theorem rc{P:u7}(w0:y9){f:FuncId}{args:b7}{R:z0}(a:XB P f)(h:∀W,b9 P f args W R): RetAt P w0 f args R:=⟨a,λW _=>h W⟩
theorem RetAt.at{P:u7}{w0:y9}{f:FuncId}{args:b7}{R:z0}(h:RetAt P w0 f args R): b9 P f args w0 R:=h.2 w0 (l3 _ _)
theorem Qaz{a b:Int}(h:a=b): (a != b)=false:=by subst h;simp
theorem wn{p n:Int}(h:IntKind.i64.wrap (-p)=n): IntKind.i64.wrap (0-p)=n:=by rw[Int.zero_sub];exact h
theorem K5(P:u7)(w0:y9)(ts:Array u6)(t:u6)(k:IntKind)(x y:Int): Qn P w0 (Builtin.max_ ts t #[.int k x,.int k y]) (.int k (max x y)):=λW _=>by
 simp only[Builtin.max_,List.foldlM,Builtin.max2];rw[show(if x<y then y else x)=max x y by split<;>omega]
 rfl
theorem Df(P:u7)(w0:y9)(ts:Array u6)(t:u6)(k:IntKind)(x y:Int): Qn P w0 (Builtin.min_ ts t #[.int k x,.int k y]) (.int k (min x y)):=λW _=>by
 simp only[Builtin.min_,List.foldlM,Builtin.min2];rw[show(if y<x then y else x)=min x y by split<;>omega]
 rfl
def sr(w:y9)(F:Nat->Prop): Res where
 φ x S w':=x.oneCell'=true/\(∀b,S b↔F b)/\∀b,F b->w'.heap[b]?=w.heap[b]?
 one _ _ _ h:=h.1
 loc _ _ _ _ h hφ:=⟨hφ.1,hφ.2.1,λb a=>(h b ((hφ.2.1 b).2 a)).trans (hφ.2.2 b a)⟩
def fxK{β:Type}(val:β->z0)(R:β->Res)(F:Res)(s:SV)(σ:St): Prop:=match Xe σ.rs 0 with
 | some a=>(match Xe σ.rs 1 with
  | some b=>b=F/\Z7 s.plain (∃y,s.den e0=val y/\∀(x:z0) (S:Nat->Prop) (w:y9),a.φ x S w->(R y).φ x S w)
  | none=>False)
 | none=>False
def fxP(a:z0->Prop)(F:Res)(s:SV)(σ:St): Prop:=match Xe σ.rs 1 with
 | some b=>b=F/\∃v,s=.val v/\a v
 | none=>False
def aP{β:Type}(P:u7)(tt:List (Nat×TI))(w0:y9)(fn:Func)(N:Nat)(args:a8)(a F:Res)(val:β->z0)(R:β->Res)(b:z0->Prop)(rs:List ResultVar)(d:List Dir): Prop:=match fn.body with
 | some c=>Xu P tt ⟨Ws P tt w0 9,λs σ _=>fxP b F s σ⟩ (0,2) w0 c ⟨N,MB (args.map .val) 0,[],[some a,some F]⟩ d λe σ _=>Vj tt rs e σ λs=>fxK val R F s σ
 | none=>False
section
variable {P:Program} {tt:List (Nat×TI)} {w0:World}
theorem iE(r:Env)(l:a8): QJ r (l.map .val)=l:=by
 rw[XE,List.map_map];exact(U5 λx _=>rfl).trans (List.map_id l)
theorem bE{β:Type}(M:YF P tt)(O:P.follows .mixedOrders=true){f:FuncId}{fn:Func}(Z:P.funcs[f]?=some fn){args:a8}(hl:Nat.ble args.length fn.ntmps=true){q:Res}{val:β->z0}{R:β->Res}{J:z0->Prop}{d:List Dir}{W:y9}{x:z0}{S:Nat->Prop}(Q:Below w0.heap.size w0 W)(T:∀b,S b->w0.heap.size<=b/\b<W.heap.size)(U:q.φ x S W)(key:aP P tt w0 fn fn.ntmps args q (sr W λb=>w0.heap.size<=b/\b<W.heap.size/\¬ S b) val R J fn.results.toList d): Calls P f args.toArray W (wO w0 val R J x S W):=by
 unfold aP at key;cases e:fn.body with
 | none=>rw[e]at key;exact key.elim
 | some c =>
  rw[e]at key;let r:Env:=⟨λ_=>0,λi=>if i=0 then x else .bool false,λi=>if i=0 then S else λb=>w0.heap.size<=b/\b<W.heap.size/\¬ S b⟩
  have hM:Aa w0 ⟨0,[],[],[some q,some (sr W λb=>w0.heap.size<=b/\b<W.heap.size/\¬ S b)]⟩ r W:=by
   have G:∀i m,Xe [some q,some (sr W λb=>w0.heap.size<=b/\b<W.heap.size/\¬ S b)] i=some m->(i=0/\m=q)\/(i=1/\m=sr W λb=>w0.heap.size<=b/\b<W.heap.size/\¬ S b):=λi m g=>by
    match i,g with
    | 0,g=>exact .inl ⟨rfl,(hW g).symm⟩
    | 1,g=>exact .inr ⟨rfl,(hW g).symm⟩
    | _+2,g=>cases g
   refine⟨⟨Q,rfl,(λ_ _ h=>nomatch h),(λ_ _ _ h=>nomatch h),λi m g=>?_,λi g=>?_⟩,⟨(λ_ _ h=>nomatch h),(λ_ _ _ _ h=>nomatch h),λi m g b e=>?_,λi j m R2 g hj A b e B=>?_,(λ_ _ _ _ h=>nomatch h)⟩,rfl⟩
   ·rcases G i m g with⟨rfl,rfl⟩|⟨rfl,rfl⟩
    ·exact⟨U,λb e=>(T b e).2⟩
    ·exact⟨⟨rfl,λ_=>Iff.rfl,λ_ _=>rfl⟩,λb e=>e.2.1⟩
   ·match i,g with
    | 0,_=>exact q.one _ _ _ U
    | 1,_=>rfl
    | _+2,g=>exact absurd g x6
   ·rcases G i m g with⟨rfl,rfl⟩|⟨rfl,rfl⟩
    ·exact(T b e).1
    ·exact e.1
   ·rcases G i m g with⟨rfl,rfl⟩|⟨rfl,rfl⟩<;>rcases G j R2 hj with⟨rfl,rfl⟩|⟨rfl,rfl⟩
    ·exact A rfl
    ·exact B.2.2 e
    ·exact e.2.2 B
    ·exact A rfl
  have C:=ah ⟨0,[],[],[some q,some (sr W λb=>w0.heap.size<=b/\b<W.heap.size/\¬ S b)]⟩ fn.ntmps (args.map .val) (w0:=w0) (r:=r) (by rw[Sk];exact L3 hl) (okL_all.2 λs hs=>by obtain⟨v,_,rfl⟩:=Ri.1 hs;rfl) hM;rw[iE]at C;have n:∀ {D:St} {w:Env} {I:Act} {E:y9} {t:Res},Sat w0 D w I E->Xe D.rs 1=some t->t=(sr W λb=>w0.heap.size<=b/\b<W.heap.size/\¬ S b)->Trm w0 S W E:=λ{D w I E t} a F u=>by
   subst u;have z:=(a.see.rs 1 _ F).1;refine⟨a.see.low,λk hk K=>?_⟩;rcases Lx k w0.heap.size with p|p
   ·exact(a.see.low.block k p).trans (Q.block k p).symm
   ·exact z.2.2 k ⟨p,hk,K⟩
  refine C3 M O (H:=⟨Ws P tt w0 9,λs σ _=>fxP J (sr W λb=>w0.heap.size<=b/\b<W.heap.size/\¬ S b) s σ⟩) (Jp M O 9) Z e (fl:=(0,2)) key ⟨La _,L8 _⟩ C (λs D d' w I E o a _ V=>?_) λs D d' w I E o a _ V _=>?_
  ·unfold fxK at o;split at o
   ·rename_i m F;split at o
    ·rename_i t u;obtain⟨z,o⟩:=o;obtain⟨hp,y,hd,p⟩:=Qp o;have hx:w.x 0=x:=V.2 0 x4;obtain⟨X,h6⟩:=a.see.rs 0 m F;rw[hx]at X;refine .inl ⟨y,w.S 0,by rw[JW hp,hd],n a u z,p _ _ _ X,λb e=>⟨?_,h6 b e⟩⟩;rcases Lx b W.heap.size with L|L
     ·left;refine Classical.byContradiction λK=>?_
      have Y:=(a.see.rs 1 t u).1;rw[z]at Y;exact a.sep.disj 0 1 m t F u x4 b e ((Y.2.1 b).2 ⟨a.sep.ownS 0 m F b e,L,K⟩)
     ·exact .inr L
    ·exact o.elim
   ·exact o.elim
  ·unfold fxP at o;dsimp only at o;split at o
   ·rename_i t u;obtain⟨z,v,rfl,p⟩:=o;exact .inr ⟨v,p,rfl,n a u z⟩
   ·exact o.elim
theorem Gb{β:Type}(c:YF P tt)(e:P.follows .mixedOrders=true){f:FuncId}{fn:Func}(g:XB P f)(i:P.funcs[f]?=some fn){N:Nat}(j:fn.ntmps=N){rs:Array ResultVar}(k:fn.results=rs)(args:a8)(l:Nat.ble args.length N=true)(a:Res)(val:β->z0)(R:β->Res)(b:z0->Prop)(d:List Dir){T:Res->Prop}(h:∀F,T F)(m:∀F,T F=aP P tt w0 fn N args a F val R b rs.toList d): FxF P w0 a f args.toArray val R b:=by
 subst j;subst k;exact⟨g,λW n x S o p=>bE c e i l n o p (m _▸h _)⟩
theorem uo{β:Type}(i:YF P tt)(j:P.follows .mixedOrders=true){f:FuncId}{fn:Func}(l:XB P f)(m:P.funcs[f]?=some fn){N:Nat}(n:fn.ntmps=N){rs:Array ResultVar}(o:fn.results=rs)(args:Nat->a8)(p:∀g,Nat.ble (args g).length N=true)(bt:u6)(cs:b7)(a:Res)(val:β->z0)(R:β->Res)(c:z0->Prop)(d:Nat->List Dir){T:Nat->Res->Prop}(h:∀g F,(∀(x:z0) (S:Nat->Prop) (w:y9),F.φ x S w->Bx w g bt cs)->T g F)(q:∀g F,T g F=aP P tt w0 fn N (args g) a F val R c rs.toList (d g)):
  XB P f/\∀W,Below w0.heap.size w0 W->∀x S,(∀b,S b->w0.heap.size<=b/\b<W.heap.size)->a.φ x S W->∀g,Bx W g bt cs->w0.heap.size<=g->¬ S g->Calls P f (args g).toArray W (wO w0 val R c x S W):=by
 subst n;subst o;refine⟨l,λW r x S s t g e u v=>bE (d:=d g) i j m (p g) r s t ?_⟩;have k:=h g (sr W λb=>w0.heap.size<=b/\b<W.heap.size/\¬ S b) λy B w z=>by
  obtain⟨_,_,A⟩:=(show _/\_/\_ from z)
  exact(A g ⟨u,e.lt,v⟩).trans e
 rw[q]at k;exact k
end
