/- Laws beneath the statement. -/
import Derived.Test.YtoibldcmoapgbaaGreatDoorQP26
import Derived.RangeFuncNested
import Derived.RangeFuncBound
import Derived.OrdersIn
import Derived.Deep.Upon
namespace Go.Proofs.YtoibldcmoapgbaaGreatDoor
open Tryz
open Go Go.RowKit
variable{o:Oper}{ops:Array Oper}{md:Region.Mode}{σ τ:St}{r r':Env}{a':Act}{fn:Func}{f:FuncId}{b:Code}{i:TypeInfo}
def Ij(o:Oper): Bool:=match o.op with
 | .defer _=>false
 | _=>true
def Ff:Code->Bool
 | .skip=>true
 | .region _ ops _=>ops.toList.all Ij
 | .seq a b=>Ff a&&Ff b
 | .cond _ a b=>Ff a&&Ff b
 | .block _ b=>Ff b
 | .loop b=>Ff b
 | .exit _=>true
 | .label _=>true
 | .ret=>true
 | _=>false
section
variable {P:Program} {l n:Nat}
theorem qq{row:String}{args:b7}{w:y9}{R:z0->y9->Prop}(h:Rows P row args w R): RowsIn (Fence.wide.inRound l) n P row args w R :=
 λc cs _=>let ⟨v,a,r,s⟩:=h c cs;⟨v,a,r,stepsIn_wide.2 s⟩
theorem rC{a:Act}{next b:Act->y9->Prop}{Q:Exit->Act->y9->Prop}(g:∀a w,next a w->b a w)(r:Result Next)(h:o.upon P a next Q r): o.uponIn (Fence.wide.inRound l) n P a b Q r:=by
 cases r with
 | halt i w=>cases i<;>first|exact h|exact False.elim h
 | ok x w =>
  cases x with
  | value v=>exact g _ _ h
  | skip=>exact g _ _ h
  | defer d=>exact g _ _ h
  | enter f args =>
   refine⟨λh=>(by cases h),(CallsIn.inRound l (callsIn_wide.2 (show Calls P f args w _ from h))).mono λe j h=>?_⟩;cases e with
   | returned v=>exact g _ _ h
   | panicked c=>exact h
   | outgrown=>exact h
  | row row args=>exact⟨λh=>(by cases h),(qq (show Rows P row args w _ from h)).mono λv j h=>g _ _ h⟩
  | _=>exact False.elim h
theorem sB{a:Act}{w:y9}{next b:Act->y9->Prop}{Q:Exit->Act->y9->Prop}(d:Ij o=true)(f:∀a w,next a w->b a w)(h:o.wp P a w next Q): o.wpIn (Fence.wide.inRound l) n P a w b Q:=by
 refine⟨λ_ _=>trivial,?_⟩;rw[Oper.semAt_eq _ _ _ (λc e=>by unfold Ij at d;rw[e]at d;cases d)];exact rC f _ h
theorem Oe{Q:Exit->Act->y9->Prop}(b:¬ LetsOut Q): ∀ {m:List Oper} {a:Act} {w:y9},m.all Ij=true->wpList P ops Q m a w->wpListIn (Fence.wide.inRound l) n P ops Q m a w
 | [],_,_,_,h=>h
 | o::m,a,w,e,h=>by
  obtain⟨f,d⟩:=L6.1 (show(Ij o&&m.all Ij)=true from e);unfold wpListIn;unfold wpList at h;split
  ·rename_i c;rw[if_pos c]at h;rcases h with h|h
   ·exact sB f (λa w=>Oe b d) h
   ·exact absurd h.2 b
  ·rename_i c;rw[if_neg c]at h;exact⟨λ_ _=>trivial,Oe b d h⟩
theorem NE{Q:Exit->Act->y9->Prop}(d:¬ LetsOut Q)(f:ops.toList.all Ij=true): ∀(b:Nat) (listed:Array Bool) (a:Act) (w:y9),wpAny P md ops Q b listed a w->wpAnyIn (Fence.wide.inRound l) n P md ops Q b listed a w
 | 0,_,_,_,h=>h
 | b+1,listed,a,w,h=>by
  refine⟨h.1,λi k=>?_⟩;have c:=h.2 i k;unfold wpOp at c;unfold wpOpIn;split
  ·rename_i e;rw[e]at c;exact NE d f b _ _ _ c
  ·rename_i o e;rw[e]at c;dsimp only at c;have g:Ij o=true:=Lc.1 f o (by
    obtain⟨m,rfl⟩:=o3.1 e;exact Array.getElem_mem_toList m)
   split
   ·rename_i j;rw[if_pos j]at c;rcases c with c|c
    ·exact sB g (λa w=>NE d f b _ a w) c
    ·exact absurd c.2 d
   ·rename_i j;rw[if_neg j]at c;exact⟨λ_ _=>trivial,NE d f b _ _ _ c⟩
theorem Gy{F:Fence}{α:Type}{c:Code}{Q:Exit->Act->y9->Prop}(J:α->Act->y9->Prop)(μ:α->Nat)(round:∀x a w,J x a w->c.wpIn F n P (Exit.then (λa' h=>∃y,J y a' h/\μ y<μ x) Q) a w)(u:α){a:Act}{w:y9}(v:J u a w): (Code.loop c).wpIn F n P Q a w:=by
 intro b k cs o p q;have key:∀j x a w,μ x=j->J x a w->∃e a' h,Q e a' h/\ArrivesIn (Machine.fenced P F) P (lone (b.atR a (.code c::.inLoop c::k)) cs w) b k cs e a' h:=by
  intro j;induction j using Nat.strongRecOn with
  | _ j z =>
   intro x a w A B;obtain⟨e,i,m,f,d⟩:=round x a w B b (.inLoop c::k) cs o p q;cases e with
   | normal =>
    obtain⟨y,r,s⟩:=f;obtain⟨C,D,E,t,g⟩:=z (μ y) (A▸s) y i m rfl r;exact⟨C,D,E,t,.of_steps (StepsIn.trans d (.one (fenced_calm p q rfl) stepR_inLoop)) g⟩
   | exit id=>exact⟨_,i,m,f,.pass (x:=.inLoop c) rfl (λ_ _=>.inl x6) d⟩
   | goto l=>exact⟨_,i,m,f,.pass (x:=.inLoop c) rfl (λ_ _=>.inl x6) d⟩
   | ret=>exact⟨_,i,m,f,.pass (x:=.inLoop c) rfl (λ_ _=>.inl x6) d⟩
   | panic G=>exact⟨_,i,m,f,.pass (x:=.inLoop c) rfl (λ_ _=>.inl x6) d⟩
   | outgrown=>exact⟨_,i,m,f,.pass (x:=.inLoop c) rfl (λ_ _=>.inl x6) d⟩
 obtain⟨e,a',h,f,d⟩:=key _ u a w rfl v;exact⟨e,a',h,f,.of_steps (.one (fenced_calm p q rfl) stepR_loop) d⟩
def VIn(P:u7)(l n:Nat)(c:Code)(Q:Exit->Act->y9->Prop)(a:Act)(w:y9): Prop:=Ff c=true->¬ LetsOut Q->c.wpIn (Fence.wide.inRound l) n P Q a w
theorem CA(d:P.follows .mixedOrders=true): Rules P (VIn P l n) where
 skip h _ _:=wpIn_skip h
 label h _ _:=wpIn_label h
 exit h _ _:=wpIn_exit h
 ret h _ _:=wpIn_ret h
 rl h ho hQ:=wpIn_region_list (Oe hQ ho h)
 rd h ho hQ:=wpIn_region_any d (NE hQ ho _ _ _ _ h)
 seq {x y Q a w} h ho hQ:=by
  obtain⟨f,g⟩:=L6.1 (show(Ff x&&Ff y)=true from ho);refine wpIn_seq (wpIn_mono (h f hQ) λe a w b=>?_);cases e with
  | normal=>exact b g hQ
  | _=>exact b
 ct {c x y Q a w} he h ho hQ:=wpIn_cond_true he (h (L6.1 (show(Ff x&&Ff y)=true from ho)).1 hQ)
 cf {c x y Q a w} he h ho hQ:=wpIn_cond_false he (h (L6.1 (show(Ff x&&Ff y)=true from ho)).2 hQ)
 block h ho hQ:=wpIn_block (h ho hQ)
 loop J μ h x0 _ _ h0 ho hQ:=Gy J μ (λx a w i=>h x a w i ho hQ) x0 h0
def Yn(b:List Deferred)(a:Act): Act:={ a with defers:=a.defers++b }
def RY(c:List Deferred)(Q:Exit->Act->y9->Prop)(e:Exit)(a:Act)(w:y9): Prop:=∃b,a=Yn c b/\Q e b w
theorem CT(b:List Deferred)(a:Act): (Yn b a).eval=a.eval:=rfl
theorem VE(b:List Deferred)(a:Act)(d:Option Tmp)(v:z0): (Yn b a).put d v=Yn b (a.put d v):=by cases d<;>rfl
theorem Ea{b:List Deferred}{Q:Exit->Act->y9->Prop}(h:LetsOut Q): LetsOut (RY b Q):=let ⟨a,w,h⟩:=h;⟨Yn b a,w,a,rfl,h⟩
theorem yD{g:List Deferred}{a:Act}{w:y9}{next b:Act->y9->Prop}{Q:Exit->Act->y9->Prop}(k:∀a w,next a w->b (Yn g a) w)(h:o.wp P a w next Q): o.wp P (Yn g a) w b (RY g Q):=by
 unfold Oper.wp at h ⊢;rw[CT];revert h;generalize (execOp a.eval o).run P w=r;intro h;cases r with
 | halt l j=>cases l<;>first|exact⟨_,rfl,h⟩|exact False.elim h
 | ok x j =>
  cases x with
  | value v=>show b ((Yn g a).put o.dst v) j;rw[VE];exact k _ _ h
  | skip=>show b ((Yn g a).put o.dst undef) j;rw[VE];exact k _ _ h
  | defer d =>
   show b (({ Yn g a with defers:=d::(Yn g a).defers }:Act).put o.dst undef) j;rw[show({ Yn g a with defers:=d::(Yn g a).defers }:Act)=Yn g { a with defers:=d::a.defers } from rfl,VE];exact k _ _ h
  | enter f args =>
   refine(show Calls P f args j _ from h).mono λe i h=>?_
   cases e with
   | returned v=>show b ((Yn g a).put o.dst v) i;rw[VE];exact k _ _ h
   | panicked c=>exact⟨_,rfl,h⟩
   | outgrown=>exact Ea h
  | row row args =>
   refine(show Rows P row args j _ from h).mono λv i h=>?_
   show b ((Yn g a).put o.dst v) i;rw[VE];exact k _ _ h
  | _=>exact False.elim h
theorem gV{b:List Deferred}{a:Act}{w:y9}(h:o.asks P a w): o.asks P (Yn b a) w:=h
theorem WA{b:List Deferred}{Q:Exit->Act->y9->Prop}: ∀ {m:List Oper} {a:Act} {w:y9},wpList P ops Q m a w->wpList P ops (RY b Q) m (Yn b a) w
 | [],_,_,h=>⟨_,rfl,h⟩
 | o::m,a,w,h=>by
  unfold wpList at h ⊢;rw[show(Yn b a).tmps=a.tmps from rfl];split
  ·rename_i c;rw[if_pos c]at h;rcases h with h|h
   ·exact .inl (yD (λa w=>WA) h)
   ·exact .inr ⟨gV h.1,Ea h.2⟩
  ·rename_i c;rw[if_neg c]at h;rw[VE];exact WA h
theorem aK{d:List Deferred}{Q:Exit->Act->y9->Prop}: ∀(b:Nat) (listed:Array Bool) (a:Act) (w:y9),wpAny P md ops Q b listed a w->wpAny P md ops (RY d Q) b listed (Yn d a) w
 | 0,_,_,_,h=>⟨h.1,_,rfl,h.2⟩
 | b+1,listed,a,w,h=>by
  refine⟨λe=>⟨_,rfl,h.1 e⟩,λi g=>?_⟩;have c:=h.2 i g;unfold wpOp at c ⊢;split
  ·rename_i e;rw[e]at c;exact aK b _ _ _ c
  ·rename_i o e;rw[e]at c;dsimp only at c;rw[show(Yn d a).tmps=a.tmps from rfl];split
   ·rename_i f;rw[if_pos f]at c;rcases c with c|c
    ·exact .inl (yD (λa w=>aK b _ a w) c)
    ·exact .inr ⟨gV c.1,Ea c.2⟩
   ·rename_i f;rw[if_neg f]at c;rw[VE];exact aK b _ _ _ c
def Qae(P:u7)(b:List Deferred)(c:Code)(Q:Exit->Act->y9->Prop)(a:Act)(w:y9): Prop:=c.wp P (RY b Q) (Yn b a) w
theorem Ew(g:P.follows .mixedOrders=true){ds:List Deferred}: Rules P (Qae P ds) where
 skip h:=wp_skip ⟨_,rfl,h⟩
 label h:=wp_label ⟨_,rfl,h⟩
 exit h:=wp_exit ⟨_,rfl,h⟩
 ret h:=wp_ret ⟨_,rfl,h⟩
 rl h:=wp_region_list (WA h)
 rd h:=wp_region_any g (aK _ _ _ _ h)
 seq h:=wp_seq (wp_mono h λe a w d=>by
  obtain⟨b,rfl,d⟩:=d;cases e with
  | normal=>exact d
  | _=>exact⟨_,rfl,d⟩)
 ct he h:=wp_cond_true he h
 cf he h:=wp_cond_false he h
 block {id c Q a w} h:=wp_block (wp_mono h λe a w d=>by
  obtain⟨b,rfl,d⟩:=d;cases e with
  | exit i =>
   dsimp only[Exit.inBlock]at d ⊢;split
   ·rename_i e;rw[if_pos e]at d;exact⟨_,rfl,d⟩
   ·rename_i e;rw[if_neg e]at d;exact⟨_,rfl,d⟩
  | _=>exact⟨_,rfl,d⟩)
 loop J μ h x0 _ _ h0:=E3 (λx a w=>∃b,a=Yn ds b/\J x b w) μ (λx a w f=>by
  obtain⟨b,rfl,f⟩:=f;refine wp_mono (h x b w f) λe a w d=>?_
  obtain⟨c,rfl,d⟩:=d;cases e with
  | normal=>obtain⟨y,j,k⟩:=d;exact⟨y,⟨c,rfl,j⟩,k⟩
  | _=>exact⟨_,rfl,d⟩) x0 ⟨_,rfl,h0⟩
end
def Gr(c:y9)(F:Nat->Prop): Res where
 φ x S w:=x.oneCell'=true/\(∀b,F b->S b)/\∀b,F b->w.heap[b]?=c.heap[b]?
 one _ _ _ h:=h.1
 loc x S w w' h hφ:=⟨hφ.1,hφ.2.1,λb a=>(h b (hφ.2.1 b a)).trans (hφ.2.2 b a)⟩
def K2:Res where
 φ x S _:=x.oneCell'=true/\∀b,¬ S b
 one _ _ _ h:=h.1
 loc _ _ _ _ _ hφ:=hφ
def KpC(W a:y9): Prop:=W.heap.size<=a.heap.size/\∀(k:Nat) (o:Obj),W.heap[k]?=some o->o.isCells=true->a.heap[k]?=some o
theorem ye{A B C:y9}(h:KpC A B)(k:KpC B C): KpC A C:=⟨L9 h.1 k.1,λi o b a=>k.2 i o (h.2 i o b a) a⟩
theorem yd(W:y9)(l:Nat)(o b:Obj)(h:W.heap[l]?=some o)(f:o.isCells=false): KpC W (W.putObj l b):=by
 have c:=grownBy_putObj' W l b;refine⟨c.size,λk u a d=>?_⟩;by_cases e:k=l
 ·subst e;rw[h]at a;obtain rfl:=hW a;rw[f]at d;cases d
 ·exact(c.block k (o3.1 a).1 (λh=>e (hW h))).trans a
theorem KpC.bx{W a:y9}{g:Nat}{t:u6}{cs:b7}(h:KpC W a)(b:Bx W g t cs): Bx a g t cs:=h.2 g _ b rfl
def aI(σ:St)(r:Env)(n:Nat)(W a:y9): Prop:=∀k,k<n->(∀i p,Xe σ.bs i=some p->r.b i≠k)->a.heap[k]?=W.heap[k]?
def WH:List (Option Res)->Bool
 | []=>true
 | none::l=>WH l
 | some _::_=>false
theorem BO:∀ {l:List (Option Res)},WH l=true->∀i R,Xe l i≠some R
 | [],_,_,_,h=>nomatch h
 | none::l,h,0,_,a=>nomatch a
 | none::l,h,i+1,R,a=>BO (l:=l) h i R a
 | some _::_,h,_,_,_=>nomatch h
def kx(R:Res)(l:List (Option Res))(p:Prop): Prop:=match l with
 | some a::l=>Z7 (WH l) (a=R/\p)
 | _=>False
def Oa(R:Res)(l:List (Option Res))(p:Prop): Prop:=match l with
 | some a::_=>a=R/\p
 | _=>False
theorem WM{R:Res}{l:List (Option Res)}{p:Prop}(h:kx R l p): p/\∃m,l=some R::m/\WH m=true:=by
 unfold kx at h;split at h
 ·obtain⟨a,b,c⟩:=Qp h;exact⟨c,_,by rw[b],a⟩
 ·exact h.elim
theorem BB{R:Res}{l:List (Option Res)}{p:Prop}(h:Oa R l p): p/\∃m,l=some R::m:=by
 unfold Oa at h;split at h
 ·exact⟨h.2,_,by rw[h.1]⟩
 ·exact h.elim
def ny:List (Option (u6×List SV))->Bool
 | []=>true
 | some _::l=>ny l
 | none::_=>false
theorem Mn:∀ {l:List (Option (u6×List SV))},ny l=true->∀i,i<l.length->∃q,Xe l i=some q
 | [],_,_,h=>absurd h (R6 _)
 | some q::l,h,0,_=>⟨q,rfl⟩
 | some q::l,h,i+1,a=>Mn (l:=l) h i (Nat.lt_of_succ_lt_succ a)
 | none::l,h,_,_=>nomatch h
def IP:List (Option (u6×List SV))->List (Option (u6×List SV))->Bool
 | [],_=>true
 | none::l,[]=>IP l []
 | none::l,_::m=>IP l m
 | some _::l,some _::m=>IP l m
 | some _::_,_=>false
theorem Gm:∀ {l m:List (Option (u6×List SV))},IP l m=true->∀i q,Xe l i=some q->∃b,Xe m i=some b
 | [],_,_,_,_,h=>nomatch h
 | none::l,[],h,0,_,a=>nomatch a
 | none::l,[],h,i+1,q,a=>by
  obtain⟨b,c⟩:=Gm (l:=l) (m:=[]) h i q a;cases c
 | none::l,_::m,h,0,_,a=>nomatch a
 | none::l,_::m,h,i+1,q,a=>Gm (l:=l) (m:=m) h i q a
 | some _::l,some b::m,h,0,_,_=>⟨b,rfl⟩
 | some _::l,some _::m,h,i+1,q,a=>Gm (l:=l) (m:=m) h i q a
 | some _::_,[],h,_,_,_=>nomatch h
 | some _::_,none::_,h,_,_,_=>nomatch h
section
variable {P:Program} {tt:List (Nat×TI)} {w0:World}
def rX(P:u7)(tt:List (Nat×TI))(w0:y9)(σ:St)(c:List (Option (u6×List SV)))(body:Code)(good:Bool)(a:St)(d:List Dir): Prop :=
 ∀f:Res,Xu P tt (JI P tt w0) (a.bs.length,a.rs.length) w0 body (Xw 0 f a) d λe b _=>match e with
  | .normal=>Oa f b.rs (XT b ⟨a.n,[],a.bs,[]⟩ (XT b σ (good=true)))
  | .ret=>Z7 (IP a.bs b.bs) (Oa f b.rs (XT b { σ with bs:=c } (good=false)))
  | .exit _=>False
def lp(P:u7)(tt:List (Nat×TI))(w0:y9)(σ:St)(b:List (Option (u6×List SV)))(body:Code)(good:Bool)(R:Res)(e:Ex)(a:St)(d:List Dir): Prop:=match e with
 | .normal=>kx R a.rs (XT a σ (Z7 (leB σ a) (rX P tt w0 σ b body good a d)))
 | _=>False
theorem Sat.grown{a:Act}{w g:y9}{row:Option Nat}(h:Sat w0 σ r a w)(f:∀i R,Xe σ.rs i=some R->R=K2)(j:w.grownBy g row)(l:∀k,row=some k->w0.heap.size<=k/\∃o:Obj,w.heap[k]?=some o/\o.isCells=false): Sat w0 σ r a g:=by
 refine⟨⟨h.see.low.grown j h.see.low.size (λk e=>(l k e).1),h.see.size,h.see.ts,λi t cs d=>?_,λi R d=>?_,h.see.one⟩,h.sep,h.defers⟩
 ·obtain⟨c,m⟩:=h.see.bs i t cs d;refine⟨(j.block _ c.lt λe=>?_).trans c,m⟩;obtain⟨_,o,n,p⟩:=l _ e.symm;rw[show w.heap[r.b i]?=some (.cells _ t (0,0))from c]at n;obtain rfl:=hW n;cases p
 ·obtain⟨c,m⟩:=h.see.rs i R d;obtain rfl:=f i R d;exact⟨c,λb q=>absurd q (c.2 b)⟩
def Zg(w0:y9)(σ:St)(r:Env)(W:y9)(b:Nat): Prop:=w0.heap.size<=b/\b<W.heap.size/\∀i p,Xe σ.bs i=some p->r.b i≠b
theorem oq{a:Act}{W:y9}{m:List (Option Res)}(h:Sat w0 σ r a W)(d:σ.rs=some K2::m)(y:WH m=true):
  Sat w0 (Xw 0 (Gr W (Zg w0 σ r W)) σ) ⟨r.b,r.x,λ_=>Zg w0 σ r W⟩ a W:=by
 have e1:(Xw 0 (Gr W (Zg w0 σ r W)) σ).rs=some (Gr W (Zg w0 σ r W))::m:=by unfold Xw;rw[d];rfl
 have l:(Xw 0 (Gr W (Zg w0 σ r W)) σ).rs.length=σ.rs.length:=XH _ _ _;have n:∀s,(Xw 0 (Gr W (Zg w0 σ r W)) σ).lt s=σ.lt s:=λs=>by simp only[St.lt,l];rfl
 have e:∀s,(Xw 0 (Gr W (Zg w0 σ r W)) σ).ltL s=σ.ltL s:=λs=>by simp only[St.ltL,l];rfl
 have f:(r.x 0).oneCell'=true:=h.see.one 0 (by rw[d];exact S6 _);have o:∀i R,Xe (Xw 0 (Gr W (Zg w0 σ r W)) σ).rs i=some R->i=0/\R=Gr W (Zg w0 σ r W):=λi R c=>by
  rw[e1]at c;cases i with
  | zero=>exact⟨rfl,(hW c).symm⟩
  | succ i=>exact absurd c (BO y i R)
 refine⟨⟨h.see.low,h.see.size,λk s z=>?_,λi t cs c=>?_,λi R c=>?_,λi c=>h.see.one i (by rwa [l]at c)⟩,⟨h.sep.own,h.sep.inj,λi R c b g=>g.1,λi j R A c w q=>absurd ((o i R c).1.trans (o j A w).1.symm) q,λi j p R c w B=>B.2.2 i p c rfl⟩,h.defers⟩
 ·obtain⟨u,v⟩:=h.see.ts k s z;exact⟨by rw[KP];exact u,by rw[n];exact v⟩
 ·obtain⟨u,v⟩:=h.see.bs i t cs c;exact⟨by rw[Kx];exact u,by rw[e];exact v⟩
 ·obtain⟨rfl,rfl⟩:=o i R c;exact⟨⟨f,λ_ g=>g,λ_ _=>rfl⟩,λb g=>g.2.1⟩
theorem wD{a:Act}{W:y9}{R:Res}{m:List (Option Res)}(h:Sat w0 σ r a W)(e:σ.rs=some R::m)(p:WH m=true):
  Sat w0 (Xw 0 K2 σ) ⟨r.b,r.x,λ_ _=>False⟩ a W:=by
 have e1:(Xw 0 K2 σ).rs=some K2::m:=by unfold Xw;rw[e];rfl
 have j:(Xw 0 K2 σ).rs.length=σ.rs.length:=XH _ _ _;have l:∀s,(Xw 0 K2 σ).lt s=σ.lt s:=λs=>by simp only[St.lt,j];rfl
 have f:∀s,(Xw 0 K2 σ).ltL s=σ.ltL s:=λs=>by simp only[St.ltL,j];rfl
 have g:(r.x 0).oneCell'=true:=h.see.one 0 (by rw[e];exact S6 _);have q:∀i R,Xe (Xw 0 K2 σ).rs i=some R->i=0/\R=K2:=λi R c=>by
  rw[e1]at c;cases i with
  | zero=>exact⟨rfl,(hW c).symm⟩
  | succ i=>exact absurd c (BO p i R)
 refine⟨⟨h.see.low,h.see.size,λk s u=>?_,λi t cs c=>?_,λi R c=>?_,λi c=>h.see.one i (by rwa [j]at c)⟩,⟨h.sep.own,h.sep.inj,λ_ _ _ _ d=>d.elim,λ_ _ _ _ _ _ _ _ d=>d.elim,λ_ _ _ _ _ _ v=>v.elim⟩,h.defers⟩
 ·obtain⟨n,o⟩:=h.see.ts k s u;exact⟨by rw[KP];exact n,by rw[l];exact o⟩
 ·obtain⟨n,o⟩:=h.see.bs i t cs c;exact⟨by rw[Kx];exact n,by rw[f];exact o⟩
 ·obtain⟨rfl,rfl⟩:=q i R c;exact⟨⟨g,λ_ d=>d⟩,λb d=>d.elim⟩
theorem N3{a:Act}{W:y9}(h:Sat w0 σ r a W)(d:σ.rs=[]):
  Sat w0 { σ with rs:=[some (Gr W (Zg w0 σ r W))] } ⟨r.b,λ_=>.bool false,λ_=>Zg w0 σ r W⟩ a W:=by
 have f:Ag σ r ⟨r.b,λ_=>.bool false,λ_=>Zg w0 σ r W⟩:=⟨λ_ _=>rfl,λi c=>by rw[d]at c;exact absurd c (R6 _)⟩
 have g:∀s,σ.lt s=true->({ σ with rs:=[some (Gr W (Zg w0 σ r W))] }:St).lt s=true:=λs l=>Ke (λi c=>c) (λi c=>by rw[d]at c;exact absurd (Q1 c) (R6 _)) s l
 have o:∀i R,Xe [some (Gr W (Zg w0 σ r W))] i=some R->i=0/\R=Gr W (Zg w0 σ r W):=λi R c=>by
  cases i with
  | zero=>exact⟨rfl,(hW c).symm⟩
  | succ i=>cases c
 refine⟨⟨h.see.low,h.see.size,λk s w=>?_,λi t cs c=>?_,λi R c=>?_,λi _=>rfl⟩,⟨h.sep.own,h.sep.inj,λi R c b m=>m.1,λi j R x c v q=>absurd ((o i R c).1.trans (o j x v).1.symm) q,λi j p R c v y=>y.2.2 i p c rfl⟩,h.defers⟩
 ·obtain⟨u,n⟩:=h.see.ts k s w;exact⟨by rw[f.den n];exact u,g s n⟩
 ·obtain⟨u,n⟩:=h.see.bs i t cs c;have e:QJ ⟨r.b,λ_=>.bool false,λ_=>Zg w0 σ r W⟩ cs=QJ r cs:=by
   rw[XE,XE];exact U5 λs l=>f.den (okL_all.1 n s l)
  exact⟨by rw[e];exact u,okL_all.2 λs l=>g s (okL_all.1 n s l)⟩
 ·obtain⟨rfl,rfl⟩:=o i R c;exact⟨⟨rfl,λ_ m=>m,λ_ _=>rfl⟩,λb m=>m.2.1⟩
theorem Sat.swap{a:Act}{w d:y9}(h:Sat w0 σ r a w)(b:Sat w0 τ r' a' d)(c:τ.ts=σ.ts)(g:τ.n=σ.n)(i:τ.bs.length=σ.bs.length)(j:τ.rs.length=σ.rs.length)(l:Ag σ r r'): Sat w0 τ r' a d:=by
 refine⟨⟨b.see.low,h.see.size.trans g.symm,λk s e=>?_,b.see.bs,b.see.rs,b.see.one⟩,b.sep,h.defers⟩;rw[c]at e;obtain⟨m,f⟩:=h.see.ts k s e;exact⟨by rw[l.den f];exact m,by simp only[St.lt,i,j];exact f⟩
theorem Cb{a:Act}{W d:y9}{m:List (Option Res)}(h:Sat w0 σ r a W)(e:Sat w0 τ r' a' d)(c:τ.rs=some (Gr W (Zg w0 σ r W))::m): aI σ r W.heap.size W d:=λk f g=>by
 rcases Lx k w0.heap.size with b|b
 ·exact(e.see.low.block k b).trans (h.see.low.block k b).symm
 ·exact(e.see.rs 0 (Gr W (Zg w0 σ r W)) (by rw[c];rfl)).1.2.2 k ⟨b,f,g⟩
theorem ON{a:Act}{W c:y9}(h:Sat w0 σ r a W)(n:Sat w0 τ r' a' c)(j:∀i p,Xe σ.bs i=some p->r.b i<c.heap.size)(k:aI σ r W.heap.size W c): W.heap.size<=c.heap.size:=by
 rcases Lx c.heap.size W.heap.size with l|f
 ·exfalso;by_cases g:∃i p,Xe σ.bs i=some p/\r.b i=W.heap.size-1
  ·obtain⟨i,p,d,o⟩:=g;have:=j i p d;omega
  ·have d:=k (W.heap.size-1) x3 (λi p m e=>g ⟨i,p,m,e⟩);rw[Δ x3,Array.getElem?_eq_getElem x3]at d;cases d
 ·exact f
theorem bL{a:Act}{W c:y9}(h:Sat w0 σ r a W)(m:∀i t cs,Xe σ.bs i=some (t,cs)->Bx c (r.b i) t (QJ r cs).toArray)(n:aI σ r W.heap.size W c)(q:W.heap.size<=c.heap.size): KpC W c:=by
 refine⟨q,λk o d _=>?_⟩;by_cases f:∃i p,Xe σ.bs i=some p/\r.b i=k
 ·obtain⟨i,⟨t,cs⟩,g,s⟩:=f;have j:=(h.see.bs i t cs g).1;have l:=m i t cs g;rw[s]at j l;exact(show c.heap[k]?=some (.cells _ t (0,0))from l).trans ((show W.heap[k]?=some (.cells _ t (0,0))from j).symm.trans d)
 ·exact(n k (o3.1 d).1 λi p u e=>f ⟨i,p,u,e⟩).trans d
theorem Ia{a:Act}{W c:y9}(B:Nat)(h:Sat w0 σ r a W)(f:aI σ r W.heap.size W c)(g:W.heap.size<=c.heap.size): KeepsFrom B W c:=by
 refine⟨g,λk o _ b j=>(f k (o3.1 b).1 λi p l e=>?_).trans b⟩;have d:=(h.see.bs i p.1 p.2 l).1;rw[e]at d;rw[show W.heap[k]?=some (.cells _ p.1 (0,0))from d]at b;obtain rfl:=hW b;cases j
theorem aJ(a:σ.rs=[])(h:AgN (σ.bs.length,0) r r'): Ag σ r r':=⟨h.1,λi b=>by rw[a]at b;exact absurd b (R6 _)⟩
theorem bj(h:Ag σ r r'){l:List SV}(a:σ.ltL l=true): QJ r' l=QJ r l:=by
 rw[XE,XE];exact U5 λs b=>h.den (okL_all.1 a s b)
end
theorem qX{p:Prop}(h:XT σ τ p): ∀i q,Xe τ.bs i=some q->∃a,Xe σ.bs i=some a:=by
 obtain⟨d,h⟩:=Qp h;obtain⟨h,e⟩:=B1 h;obtain⟨h,f,b⟩:=BY h;exact λi q c=>⟨_,(b i q.1 q.2 c).1⟩
section
variable {P:Program} {tt:List (Nat×TI)} {w0:World}
def AxK(P:u7)(tt:List (Nat×TI))(w0:y9)(σ:St)(c:List (Option (u6×List SV)))(body:Code)(r:Env)(n:Nat)(good:Bool)(a':Act)(W:y9): Prop :=
 ∃a d r1 m,Sat w0 (Xw 0 K2 a) r1 a' W/\(Xw 0 K2 a).rs=some K2::m/\WH m=true/\(∃R,a.rs=some R::m)/\AgN (σ.bs.length,0) r r1/\σ.bs.length<=a.bs.length /\
  (∀i p,Xe a.bs i=some p->σ.bs.length<=i->n<=r1.b i)/\rX P tt w0 σ c body good a d
theorem vG(hT:YF P tt)(hm:P.follows .mixedOrders=true){U:List (Option (u6×List SV))}(cl:U.length=σ.bs.length){α:Type}{xs:List α}{gf:Nat}{lb:b7}{enc:α->z0}{good:α->Bool}{g:b8}{p:Nat}{assign body:Code}(I:σ.rs=[])(bl:ny σ.bs=true)(hp:DH (some p) σ.n=true)(cm:Ff assign=true)(cn:Ff body=true)(al:∀x,x∈xs->∃d,∀R:Res,Xu P tt (JI P tt w0) (σ.bs.length,0) w0 assign { σ.push (some p) (.val (enc x))with rs:=[some R] } d (lp P tt w0 σ U body (good x) R)){a:Act}{w:y9}(hS:Sat w0 σ r a w)(hg:a.eval g=.func (.func gf) #[] lb)(he:XB P gf)(bX:SeqStopsK Fence.wide 8 P gf lb (λx:{x // x∈xs}=>#[enc x.1]) KpC (λys=>ys=xs.attach) (λ_=>True) xs.length w){ds:List Deferred}{Q:Exit->Act->y9->Prop}(aw:∀D r' W,Sat w0 σ r' a W->AgN (σ.bs.length,0) r r'->aI σ r w.heap.size w W->w.heap.size<=D->W.heap[D]?=some (.deferred (some []))->(∀x,x∈xs->good x=true)->Q .normal (Yn ({ target:=.collected D,args:=#[] }::ds) a) W)(aB:∀D r' W,Sat w0 { σ with bs:=U } r' a W->AgN (σ.bs.length,0) r r'->aI σ r w.heap.size w W->w.heap.size<=D->W.heap[D]?=some (.deferred (some []))->(∃x,x∈xs/\good x=false)->Q .ret (Yn ({ target:=.collected D,args:=#[] }::ds) a) W):
  (Code.rangeFunc g #[p] assign body).wp P Q (Yn ds a) w:=by
 have Z:=hS.see.low.size;have bY:=hS.defers;have bd:=Mn bl;have ad:∀D,({ Yn ds a with defers:={ target:=.collected D,args:=#[] }::(Yn ds a).defers }:Act)=Yn ({ target:=.collected D,args:=#[] }::ds) a:=λD=>by
  unfold Yn;rw[bY];rfl
 refine wpIn_wide.1 (wpIn_rangeFunc_ownH (F:=Fence.wide) (n:=9) (Kp:=KpC) (α:={x // x∈xs}) (encs:=λx=>#[enc x.1]) (S:=λys=>ys=xs.attach) (Sp:=λ_=>True) (N:=xs.length) (w0:=w) rfl x4 (gf:=gf) (lb:=lb) (by rw[CT];exact hg) trivial he bX ye (λW l o o' _ h ho _=>yd W l o o' h ho) (l3 _ _) (λ_=>rfl)
  (λpre W=>(∃r',Sat w0 σ r' a W/\AgN (σ.bs.length,0) r r')/\aI σ r w.heap.size w W/\w.heap.size<=W.heap.size/\∀x,x∈pre->good x.1=true)
  (λc pre W=>c=.ret/\(∃r',Sat w0 { σ with bs:=U } r' a W/\AgN (σ.bs.length,0) r r')/\aI σ r w.heap.size w W/\∃x,x∈pre/\good x.1=false)
  ?hI ?hIx ⟨⟨r,hS,AgN.refl _ _⟩,λ_ _ _=>rfl,L8 _,λ_ h=>nomatch h⟩
  (λx a' W=>AxK P tt w0 σ U body r w.heap.size (good x.1) a' W) ?hAx ?assign ?body ?done ?stop)
 case hI =>
  rintro pre W W' row ⟨⟨r',E,O⟩,J,h4,h5⟩ A z;refine⟨⟨r',E.grown (λi R f=>by rw[I]at f;cases f) A (λk e=>⟨L9 Z (z k e).1,(z k e).2⟩),O⟩,λk u hn=>?_,L9 h4 A.size,h5⟩;exact(A.block k (Lb u h4) λe=>y6 ((z k e.symm).1)).trans (J k u hn)
 case hIx =>
  rintro c pre W W' row ⟨h0,⟨r',E,O⟩,J,h5⟩ A z;refine⟨h0,⟨r',E.grown (λi R f=>by rw[show({ σ with bs:=U }:St).rs=[]from I]at f;cases f) A (λk e=>⟨L9 Z (z k e).1,(z k e).2⟩),O⟩,λk u hn=>?_,h5⟩;have cq:k<W.heap.size:=by
   rcases Lx k W.heap.size with h|h
   ·exact h
   ·have h6:=J k u hn;rw[Δ h,Array.getElem?_eq_getElem u]at h6;cases h6
  exact(A.block k cq λe=>y6 ((z k e.symm).1)).trans (J k u hn)
 case hAx =>
  rintro x a' s W W' row ⟨B,d1,r1,m,E,O,J,h4,h5⟩ A z;exact⟨B,d1,r1,m,E.grown (λi R f=>by
   rw[O]at f;cases i with
   | zero=>exact(hW f).symm
   | succ i=>exact absurd f (BO J i R)) A (λk e=>⟨L9 Z (z k e).1,(z k e).2⟩),O,J,h4,h5⟩
 case assign =>
  rintro l pre x W K ⟨⟨r',E,O⟩,J,h4,h5⟩ hK;have cr:=aJ I O;obtain⟨d,hd⟩:=al x.1 x.2;have e0:({ tmps:=(#[p].zip #[enc x.1]).foldl (λt (p,v)=>t.setIfInBounds p v) (Yn ds a).tmps,defers:=[] }:Act)=a.put (some p) (enc x.1):=by
   unfold Act.put;rw[<- bY];simp[Yn]
  rw[e0];have ct:Sat w0 (σ.push (some p) (.val (enc x.1))) r' (a.put (some p) (enc x.1)) W:=E.put (s:=.val (enc x.1)) hp rfl;have V:=N3 ct I;have eS:Zg w0 (σ.push (some p) (.val (enc x.1))) r' W=Zg w0 σ r' W:=rfl;rw[eS]at V;refine V6 (CA hm) hT (Jp hT hm 9) (σ.bs.length,0) assign _ d _ (hd (Gr W (Zg w0 σ r' W))) ⟨L8 _,La _⟩ _ _ W V (Exit.then K λ_ _ _=>False) (λ_ _ _ _ _ h=>h.elim) (λ_ _ _ _ _ _ h=>False.elim h) (λe B d1 r1 a1 W1 u G _ cu=>?_) cm (λ⟨_,_,h⟩=>h);cases e with
  | exit i=>exact False.elim u
  | ret=>exact False.elim u
  | normal =>
   obtain⟨u,m,X,ca⟩:=WM u;have cy:=qX u;obtain⟨u,H⟩:=QV w0 u;obtain⟨cA,cC⟩:=Qp u;have cb:=H _ _ _ G;have T:AgN (σ.bs.length,0) r' r1:=⟨λi f=>cu.1 i f,λi f=>absurd f (R6 _)⟩
   have ae:=aJ I T;have hF:aI σ r' W.heap.size W W1:=Cb (σ:=σ) (r:=r') E G X;have hb:∀i t cs,Xe σ.bs i=some (t,cs)->Bx W1 (r'.b i) t (QJ r' cs).toArray:=λi t cs f=>by
    obtain⟨k1,_⟩:=cb.see.bs i t cs f;rw[ae.1 i (XC f),bj ae (E.see.bs i t cs f).2]at k1;exact k1
   have hz:=ON E G (λi p f=>(hb i p.1 p.2 f).lt) hF;refine hK a1 W1 (Ia _ E hF hz) (bL E hb hF hz) ⟨⟨r1,E.swap cb rfl rfl rfl rfl ae,O.trans T⟩,λk u hn=>?_,L9 h4 hz,h5⟩ ?_
   ·refine(hF k x3 λi p f=>?_).trans (J k u hn);rw[cr.1 i (XC f)];exact hn i p f
   ·refine⟨B,d1,⟨r1.b,r1.x,λ_ _=>False⟩,m,wD G X ca,by unfold Xw;rw[X];rfl,ca,⟨_,X⟩,O.trans T,(jL cA).1,λi p f cc=>?_,cC⟩;show w.heap.size<=r1.b i;have k1:=G.sep.apart i 0 p _ f (by rw[X];rfl);have k2:=(G.see.rs 0 (Gr W (Zg w0 σ r' W)) (by rw[X];rfl)).1.2.1;have k3:=G.sep.own i p f;rcases Lx (r1.b i) W.heap.size with ao|cN
    ·exfalso;refine k1 (k2 _ ⟨k3,ao,λj q hj e=>?_⟩);have k4:r1.b j=r'.b j:=T.1 j (XC hj);obtain⟨q1,cD⟩:=cy j q hj;exact G.sep.inj i j p q1 f cD (λe2=>y6 (XC hj)) (by rw[k4];exact e.symm)
    ·omega
 case body =>
  rintro l pre x a' W hl _ ⟨⟨r',cd,cF⟩,J,h4,h5⟩ ⟨B,d1,r1,m,k1,k2,k3,⟨R0,k4⟩,k5,k6,k7,k8⟩ _;have V:=oq k1 k2 k3;have eo:Xw 0 (Gr W (Zg w0 (Xw 0 K2 B) r1 W)) (Xw 0 K2 B)=Xw 0 (Gr W (Zg w0 (Xw 0 K2 B) r1 W)) B:=by unfold Xw;rw[k4];rfl
  rw[eo]at V;have eS:Zg w0 (Xw 0 K2 B) r1 W=Zg w0 B r1 W:=rfl;rw[eS]at V;have cG:(Xw 0 K2 B).rs.length=B.rs.length:=XH _ _ _;refine V6 (CA hm) hT (Jp hT hm 9) (B.bs.length,B.rs.length) body _ d1 _ (k8 (Gr W (Zg w0 B r1 W))) ⟨L8 _,by unfold Xw;rw[XH];exact L8 _⟩ _ _ W V _ (λ_ _ _ _ _ h=>h.elim) (λ_ _ _ _ _ _ h=>False.elim h) (λe σ2 d2 r2 a2 W2 u L _ bi=>?_) cn (λ⟨_,_,h⟩=>h);have cf:AgN (σ.bs.length,0) r1 r2:=⟨λi f=>bi.1 i (Lb f k6),λi f=>absurd f (R6 _)⟩
  have A:AgN (σ.bs.length,0) r r2:=k5.trans cf;have ch:AgN (σ.bs.length,0) r' r2:=⟨λi f=>(A.1 i f).trans (cF.1 i f).symm,λi f=>absurd f (R6 _)⟩
  have ag:Ag (Xw 0 K2 B) r1 r2:=⟨λi f=>bi.1 i f,λi f=>bi.2 i (by rw[<- cG];exact f)⟩
  have frame:∀Y,σ2.rs=some (Gr W (Zg w0 B r1 W))::Y->aI (Xw 0 K2 B) r1 W.heap.size W W2:=λY C=>Cb (σ:=Xw 0 K2 B) k1 L (by rw[C];rfl)
  have cj:∀Y,σ2.rs=some (Gr W (Zg w0 B r1 W))::Y->aI σ r w.heap.size w W2:=λY C k u hn=>by
   refine(frame Y C k x3 λi p f=>?_).trans (J k u hn);rcases Lx i σ.bs.length with ao|cc
   ·rw[k5.1 i ao];intro e;obtain⟨q,hq⟩:=bd i ao;exact hn i q hq e
   ·have:=k7 i p f cc;omega
  cases e with
  | exit i=>exact False.elim u
  | normal =>
   obtain⟨u,Y,C⟩:=BB u;obtain⟨u,bk⟩:=QV w0 u;obtain⟨M,H⟩:=QV w0 u;have cL:=bk _ _ _ L;have hb:∀i t cs,Xe (Xw 0 K2 B).bs i=some (t,cs)->Bx W2 (r1.b i) t (QJ r1 cs).toArray:=λi t cs f=>by
    have q1:=(cL.see.bs i t cs f).1;rw[ag.1 i (XC f),bj ag (k1.see.bs i t cs f).2]at q1;exact q1
   have hF:=frame Y C;have hz:=ON k1 L (λi p f=>(hb i p.1 p.2 f).lt) hF;refine⟨Ia _ k1 hF hz,bL k1 hb hF hz,⟨r2,cd.swap (H _ _ _ L) rfl rfl rfl rfl (aJ I ch),A⟩,cj Y C,L9 h4 hz,λy hy=>?_⟩;rcases Rs.1 hy with hy|hy
   ·exact h5 y hy
   ·rw[Re.1 hy];exact M
  | ret =>
   obtain⟨cM,u⟩:=Qp u;obtain⟨u,Y,C⟩:=BB u;obtain⟨M,H⟩:=QV w0 u;have hF:=frame Y C;have hz:=ON k1 L (λi p f=>by
    obtain⟨q',hq⟩:=Gm cM i p f;have q1:=(L.see.bs i q'.1 q'.2 hq).1.lt;rw[ag.1 i (XC f)]at q1;exact q1) hF
   exact⟨Ia _ k1 hF hz,rfl,⟨r2,cd.swap (H _ _ _ L) rfl rfl cl rfl (aJ I ch),A⟩,cj Y C,x,x6,M⟩
 case done =>
  rintro D ys W hD rfl ⟨⟨r',E,O⟩,J,_,h5⟩ u;rw[ad];exact aw D r' W E O J hD u λx hx=>h5 ⟨x,hx⟩ (List.mem_attach _ _)
 case stop =>
  rintro D c pre W hD _ ⟨rfl,⟨r',E,O⟩,J,x,_,hx⟩ u;rw[ad];exact wpIn_ret (aB D r' W E O J hD u ⟨x.1,x.2,hx⟩)
end
def vD:Code->Bool
 | .seq (.seq _ (.block _ (.rangeFunc _ c a b))) _=>Nat.beq c.toList.length 1&&(Ff a&&Ff b)
 | _=>false
def vE:Code->Code
 | .seq (.seq x _) _=>x
 | _=>.skip
def rgI:Code->Nat
 | .seq (.seq _ (.block i _)) _=>i
 | _=>0
def sL:Code->b8
 | .seq (.seq _ (.block _ (.rangeFunc g _ _ _))) _=>g
 | _=>.tmp 0
def wY:Code->Nat
 | .seq (.seq _ (.block _ (.rangeFunc _ a _ _))) _=>a.toList.headD 0
 | _=>0
def sJ:Code->Code
 | .seq (.seq _ (.block _ (.rangeFunc _ _ a _))) _=>a
 | _=>.skip
def sK:Code->Code
 | .seq (.seq _ (.block _ (.rangeFunc _ _ _ b))) _=>b
 | _=>.skip
def SG:Code->Code
 | .seq (.seq _ _) c=>c
 | _=>.skip
def wX(c:Code): Code:=.block (rgI c) (.rangeFunc (sL c) #[wY c] (sJ c) (sK c))
theorem lk{c:Code}(h:vD c=true): c=.seq (.seq (vE c) (wX c)) (SG c)/\Ff (sJ c)=true/\Ff (sK c)=true:=by
 cases c with
 | seq x c =>
  cases x with
  | seq z x =>
   cases x with
   | block i y =>
    cases y with
    | rangeFunc g d a b =>
     obtain⟨f,h⟩:=L6.1 (show(Nat.beq d.toList.length 1&&(Ff a&&Ff b))=true from h);obtain⟨j,k⟩:=L6.1 h;refine⟨?_,j,k⟩;have l:=Le f;have m:d=#[d.toList.headD 0]:=by
      apply Array.ext'
      match e:d.toList,l with
      | [x],_=>rfl
     show _=Code.seq (.seq z (.block i (.rangeFunc g #[d.toList.headD 0] a b))) c;rw[<- m]
    | _=>exact Bool.noConfusion h
   | _=>exact Bool.noConfusion h
  | _=>exact Bool.noConfusion h
 | _=>exact Bool.noConfusion h
def J4(a:List Nat): List Deferred:=a.map λD=>{ target:=.collected D,args:=#[] }
section
variable {P:Program} {tt:List (Nat×TI)} {w0:World}
def EH(σ:St): St:={ σ with rs:=σ.rs.map λo=>o.map λ_=>K2 }
theorem On{α β:Type}(f:α->β): ∀(l:List (Option α)) (i:Nat),Xe (l.map λo=>o.map f) i=(Xe l i).map f
 | [],_=>rfl
 | x::_,0=>by cases x<;>rfl
 | _::l,i+1=>On f l i
theorem Sat.tops{a:Act}{w:y9}(h:Sat w0 σ r a w): Sat w0 (EH σ) ⟨r.b,r.x,λ_ _=>False⟩ a w:=by
 have l:(EH σ).rs.length=σ.rs.length:=by simp[EH]
 have m:∀s,(EH σ).lt s=σ.lt s:=λs=>by simp only[St.lt,l];rfl
 have g:∀s,(EH σ).ltL s=σ.ltL s:=λs=>by simp only[St.ltL,l];rfl
 have n:∀i R,Xe (EH σ).rs i=some R->R=K2/\i<σ.rs.length:=λi R c=>by
  have d:=XC c;rw[l]at d;have j:Xe (EH σ).rs i=(Xe σ.rs i).map λ_=>K2:=On _ _ _
  rw[j]at c;cases e:Xe σ.rs i with
  | none=>rw[e]at c;cases c
  | some q=>rw[e]at c;exact⟨(hW c).symm,d⟩
 refine⟨⟨h.see.low,h.see.size,λk s o=>?_,λi t cs c=>?_,λi R c=>?_,λi c=>h.see.one i (by rwa [l]at c)⟩,⟨h.sep.own,h.sep.inj,λ_ _ _ _ f=>f.elim,λ_ _ _ _ _ _ _ _ f=>f.elim,λ_ _ _ _ _ _ p=>p.elim⟩,h.defers⟩
 ·obtain⟨d,j⟩:=h.see.ts k s o;exact⟨by rw[KP];exact d,by rw[m];exact j⟩
 ·obtain⟨d,j⟩:=h.see.bs i t cs c;exact⟨by rw[Kx];exact d,by rw[g];exact j⟩
 ·obtain⟨rfl,d⟩:=n i R c;exact⟨⟨h.see.one i d,λ_ f=>f⟩,λb f=>f.elim⟩
theorem Nl: ∀(l:List ResultVar) (K:List SV->Prop),fU tt (EH σ) l K=fU tt σ l K
 | [],_=>rfl
 | v::l,K=>by
  have a:∀K,WY tt (EH σ) v K=WY tt σ v K:=λK=>by cases v<;>rfl
  show WY tt (EH σ) v _=WY tt σ v _;rw[a];congr 1;funext s;exact Nl l _
theorem e7{rs:List ResultVar}{e:Ex}{K:SV->Prop}(h:Vj tt rs e σ K): Vj tt rs e (EH σ) K:=by
 unfold Vj at h ⊢;split at h
 ·exact h.elim
 ·rw[Nl];exact h
theorem Dc(w0:y9)(v:z0)(J:y9->Prop){tmps:b7}{R:Ending->y9->Prop}(a:∀w,J w->(results fn tmps).run P w=.ok v w/\R (.returned v) w)(d:∀w D,J w->w.heap[D]?=some (.deferred (some []))->w0.heap.size<=D->J (w.putObj D (.deferred none))): ∀(b:List Nat) (w:y9),J w->b.Nodup->(∀D,D∈b->w.heap[D]?=some (.deferred (some []))/\w0.heap.size<=D) ->
  LeavesInM Fence.wide 9 P fn tmps R (J4 b) .returning w
 | [],w,h,_,_=>⟨v,a w h⟩
 | D::b,w,h,k,f=>by
  obtain⟨g,l⟩:=f D x6;obtain⟨m,n⟩:=Uv.1 k;refine⟨x6,.inl ⟨D,_,rfl,run_takeDeferred g,Dc _ _ _ a d b _ (d w D h g l) n λi c=>?_⟩⟩;obtain⟨j,o⟩:=f i (by simp[c]);refine⟨((grownBy_putObj' w D (.deferred none)).block i (o3.1 j).1 λe=>?_).trans j,o⟩;obtain rfl:=hW e;exact m c
theorem SE(y:YF P tt)(H:P.follows .mixedOrders=true){a:Act}{W:y9}(z:Sat w0 σ r a W)(A:σ.rs=[]){c:Code}{d:List Dir}{v:z0}(h:∀R,Xu P tt (JI P tt w0) (0,0) w0 c { σ with rs:=[some R] } d λe j _=>Vj tt fn.results.toList e j λs=>Oa R j.rs (Z7 s.plain (s.den e0=v))){o:List Nat}(K:o.Nodup)(L:∀D,D∈o->W.heap[D]?=some (.deferred (some []))/\w0.heap.size<=D):
  c.wp P (D7 (bodyPostM Fence.wide 9 P fn λe f=>e=.returned v/\Below w0.heap.size w0 f)) (Yn (J4 o) a) W:=by
 have B:=N3 z A;refine wp_mono (V6 (Ew H (ds:=J4 o)) y (Jp y H 9) (0,0) c _ d _ (h _) ⟨La _,La _⟩ _ a W B (λe a' f=>(e=.normal\/e=.ret)/\LeavesInM Fence.wide 9 P fn a'.tmps (λe f=>e=.returned v/\Below w0.heap.size w0 f) (a'.defers++J4 o) .returning f) (λ_ _ _ _ _ h=>by rcases h.1 with h|h<;>cases h) (λ_ _ _ _ _ _ h=>False.elim h) λe j S r' a' f M l _ _=>?_) λe a' f u=>?_
 ·obtain⟨C,s,E,q⟩:=By w0 fn.results.toList y rfl (e7 M);obtain⟨E,m,F⟩:=BB E;obtain⟨N,O⟩:=Qp E;have Q:aI σ r W.heap.size W f:=Cb z l F;refine⟨by rcases C with rfl|rfl<;>simp[Ex.to],?_⟩
  rw[l.defers,U8];refine Dc w0 v (λw=>Sat w0 (EH j) ⟨r'.b,r'.x,λ_ _=>False⟩ a' w) (λw h=>?_) (λw D h g t=>?_) o f l.tops K λD G=>?_
  ·have g:=q _ _ _ h;rw[JW N,O]at g;exact⟨g,rfl,h.see.low⟩
  ·refine h.grown (λi R n=>?_) (grownBy_putObj' w D (.deferred none)) λk e=>?_
   ·have t:Xe (EH j).rs i=(Xe j.rs i).map λ_=>K2:=On _ _ _
    rw[t]at n;cases e:Xe j.rs i with
    | none=>rw[e]at n;cases n
    | some T=>rw[e]at n;exact(hW n).symm
   ·obtain rfl:=hW e;exact⟨t,_,g,rfl⟩
  ·obtain⟨g,t⟩:=L D G;refine⟨(Q D (o3.1 g).1 λi p n e=>?_).trans g,t⟩;have I:=(z.see.bs i p.1 p.2 n).1;rw[e]at I;rw[show W.heap[D]?=some (.cells _ p.1 (0,0))from I]at g;cases g
 ·obtain⟨b,rfl,C,u⟩:=u;rcases C with rfl|rfl
  ·exact u
  ·exact u
theorem SU(j:YF P tt){a:Act}{W:y9}(f:Sat w0 σ r a W)(d:σ.rs=[]){v:z0}(h:Vj tt fn.results.toList .ret σ λs=>Z7 s.plain (s.den e0=v)){Ds:List Nat}(l:Ds.Nodup)(m:∀D,D∈Ds->W.heap[D]?=some (.deferred (some []))/\w0.heap.size<=D):
  D7 (bodyPostM Fence.wide 9 P fn λe n=>e=.returned v/\Below w0.heap.size w0 n) .ret (Yn (J4 Ds) a) W:=by
 obtain⟨u,s,o,b⟩:=By w0 fn.results.toList j rfl h;obtain⟨p,q⟩:=Qp o;show LeavesInM Fence.wide 9 P fn a.tmps _ (a.defers++J4 Ds) .returning W;rw[f.defers,U8];refine Dc w0 v (λw=>Sat w0 σ r a w) (λw h=>?_) (λw D h c t=>?_) Ds W f l m
 ·have c:=b _ _ _ h;rw[JW p,q]at c;exact⟨c,rfl,h.see.low⟩
 ·refine h.grown (λi R g=>by rw[d]at g;cases g) (grownBy_putObj' w D (.deferred none)) λk e=>?_
  obtain rfl:=hW e;exact⟨t,_,c,rfl⟩
theorem ib(k:YF P tt)(l:P.follows .mixedOrders=true){c:Code}(p:P.funcs[f]?=some fn)(q:fn.body=some c){args:a8}(t:Nat.ble args.length fn.ntmps=true){d:List Dir}{v:z0}{E:Code->St->Prop}(h:ME P tt (JI P tt w0) (0,0) w0 E c (O4 fn.ntmps args) d λe σ _=>Vj tt fn.results.toList e σ λs=>Z7 s.plain (s.den e0=v))(u:∀b σ r a w,E b σ->Sat w0 σ r a w->b.wp P (D7 (bodyPostM Fence.wide 9 P fn λe g=>e=.returned v/\Below w0.heap.size w0 g)) a w): Calls P f args.toArray w0 λe g=>e=.returned v/\Below w0.heap.size w0 g:=by
 refine callsIn_wide.1 (callsIn_of_wp_marks (F:=Fence.wide) (n:=9) p q trivial (wpIn_wide.2 ?_) rfl);refine wp_mono (Hl k l (Jp k l 9) (0,0) (Q:=D7 (bodyPostM Fence.wide 9 P fn λe g=>e=.returned v/\Below w0.heap.size w0 g)) (RF _) u c _ d _ h ⟨La _,La _⟩ _ _ _ (lw (L3 t) w0) (λ_ _ _ _ _ _ h=>False.elim h) λe D G r' a' g x i _ _=>?_) λe a' g y=>RG y
 ·obtain⟨z,s,A,j⟩:=By w0 fn.results.toList k rfl x;obtain⟨B,C⟩:=Qp A;have m:=j _ _ _ i;rw[JW B,C]at m;have o:LeavesInM Fence.wide 9 P fn a'.tmps (λe g=>e=.returned v/\Below w0.heap.size w0 g) a'.defers .returning g:=by
   rw[i.defers];exact⟨v,m,rfl,i.see.low⟩
  rcases z with rfl|rfl
  ·exact o
  ·exact o
def ja(a:Option Code)(τ:St)(C:Prop)(b:Code)(σ:St): Prop:=a=some b/\C/\XT σ τ True
theorem Bv{c:Option Code}{C:Prop}(h:ja c τ C b σ){a:Act}{w:y9}(d:Sat w0 σ r a w): c=some b/\C/\Sat w0 τ r a w :=
 ⟨h.1,h.2.1,(QV w0 h.2.2).2 _ _ _ d⟩
def P7{β:Type}(τ:β->St)(i:Nat)(ρ:β->Res)(σ:St): Prop:=∃y:β,ZV (Xe σ.rs i) (λR=>∀x S w,R.φ x S w->(ρ y).φ x S w)/\XT σ (τ y) True
theorem BJ{β:Type}{τ:β->St}{i:Nat}{ρ:β->Res}(h:P7 τ i ρ σ){a:Act}{w:y9}(b:Sat w0 σ r a w): ∃y,(ρ y).φ (r.x i) (r.S i) w/\Sat w0 (τ y) r a w:=by
 obtain⟨y,c,d⟩:=h;obtain⟨R,e,f⟩:=QH c;exact⟨y,f _ _ _ (b.see.rs i R e).1,(QV w0 d).2 _ _ _ b⟩
def xT{β:Type}(a:Option Code)(τ:β->St)(i:Nat)(ρ:β->Res)(C:Prop)(b:Code)(σ:St): Prop:=a=some b/\C/\∃y:β,ZV (Xe σ.rs i) (λR=>∀x S w,R.φ x S w->(ρ y).φ x S w)/\XT σ (τ y) True
theorem eU{β:Type}{c:Option Code}{τ:β->St}{i:Nat}{ρ:β->Res}{C:Prop}(h:xT c τ i ρ C b σ){a:Act}{w:y9}(d:Sat w0 σ r a w): c=some b/\C/\∃y,(ρ y).φ (r.x i) (r.S i) w/\Sat w0 (τ y) r a w:=by
 obtain⟨e,f,y,g,j⟩:=h;obtain⟨R,k,l⟩:=QH g;exact⟨e,f,y,l _ _ _ (d.see.rs i R k).1,(QV w0 j).2 _ _ _ d⟩
def Kq(n:Nat)(fn:Func): Code:=(K9 n fn).getD .skip
theorem IR{n:Nat}(h:K9 n fn=some b): Kq n fn=b:=by unfold Kq;rw[h];rfl
def DO(P:u7)(tt:List (Nat×TI))(W:y9)(fn:Func)(E:Code->St->Prop)(σ:St)(d:List Dir)(K:Ex->St->List Dir->Prop): Prop:=match fn.body with
 | some c=>ME P tt (JI P tt W) (0,0) W E c σ d K
 | none=>False
def Cw(P:u7)(w0:y9)(fn:Func)(v:z0): Exit->Act->y9->Prop:=D7 (bodyPostM Fence.wide 9 P fn λe a=>e=.returned v/\Below w0.heap.size w0 a)
theorem Eu(L:YF P tt)(Q:P.follows .mixedOrders=true)(C:vD b=true){bsR:List (Option (u6×List SV))}(E:bsR.length=σ.bs.length){α:Type}{xs:List α}{F:Nat}{M:b7}{enc:α->z0}{good:α->Bool}(l:σ.rs=[])(m:ny σ.bs=true)(S:DH (some (wY b)) σ.n=true)(g:∀x,x∈xs->∃d,∀R:Res,Xu P tt (JI P tt w0) (σ.bs.length,0) w0 (sJ b) { σ.push (some (wY b)) (.val (enc x))with rs:=[some R] } d (lp P tt w0 σ bsR (sK b) (good x) R)){a:Act}{w:y9}(G:Sat w0 σ r a w)(T:a.eval (sL b)=.func (.func F) #[] M)(U:XB P F)(o:SeqStopsK Fence.wide 8 P F M (λx:{x // x∈xs}=>#[enc x.1]) KpC (λV=>V=xs.attach) (λ_=>True) xs.length w){v:z0}{j:List Nat}(X:j.Nodup)(N:∀D,D∈j->w.heap[D]?=some (.deferred (some []))/\w0.heap.size<=D)(q:(∃x,x∈xs/\good x=false)->Vj tt fn.results.toList .ret { σ with bs:=bsR } λs=>Z7 s.plain (s.den e0=v))(k:(∀x,x∈xs->good x=true)->∀D r' W,Sat w0 σ r' a W->(D::j).Nodup->(∀c,c∈D::j->W.heap[c]?=some (.deferred (some []))/\w0.heap.size<=c)->(SG b).wp P (Cw P w0 fn v) (Yn (J4 (D::j)) a) W):
  (wX b).wp P (Exit.then ((SG b).wp P (Cw P w0 fn v)) (Cw P w0 fn v)) (Yn (J4 j) a) w:=by
 obtain⟨Y,H,I⟩:=lk C;have t:∀D,D∈j->D<w.heap.size:=λD h=>(o3.1 (N D h).1).1
 have f:∀D r' W,w.heap.size<=D->W.heap[D]?=some (.deferred (some []))->aI σ r w.heap.size w W->AgN (σ.bs.length,0) r r'->(D::j).Nodup/\∀c,c∈D::j->W.heap[c]?=some (.deferred (some []))/\w0.heap.size<=c:=λD r' W u y z B=>by
  refine⟨Uv.2 ⟨λh=>y6 (t D h),X⟩,λc h=>?_⟩;rcases Ll.1 h with rfl|h
  ·exact⟨y,L9 G.see.low.size u⟩
  ·obtain⟨k1,A⟩:=N c h;refine⟨(z c (t c h) λi p Z e=>?_).trans k1,A⟩;have O:=(G.see.bs i p.1 p.2 Z).1;rw[e]at O;rw[show w.heap[c]?=some (.cells _ p.1 (0,0))from O]at k1;cases k1
 refine wp_block (vG L Q E l m S H I g G T U o (λD r' W u y z B J K=>?_) λD r' W u y z B J K=>?_)
 ·obtain⟨k1,A⟩:=f D r' W B J z y;exact k K D r' W u k1 A
 ·obtain⟨k1,A⟩:=f D r' W B J z y;exact SU L u l (q K) k1 A
def Zj:Code->Code
 | .seq x _=>x
 | _=>.skip
def QA:Code->Code
 | .seq _ y=>y
 | _=>.skip
def o7(R:Res)(E:St->Prop)(e:Ex)(σ:St): Prop:=match e with
 | .normal=>Oa R σ.rs (E σ)
 | _=>False
theorem Iz(fn:Func)(E:St->Prop)(Ds:List Nat)(x:YF P tt)(y:P.follows .mixedOrders=true){a:Act}{W:y9}(l:Sat w0 σ r a W)(n:σ.rs=[])(o:vD b=true){d:List Dir}{v:z0}(h:∀R,Xu P tt (JI P tt w0) (0,0) w0 (vE b) { σ with rs:=[some R] } d λe c _=>o7 R E e c)(A:∀D,D∈Ds->W.heap[D]?=some (.deferred (some []))/\w0.heap.size<=D)(B:∀c r' a' q,E c->Sat w0 c r' a' q->(∀D,D∈Ds->q.heap[D]?=some (.deferred (some []))/\w0.heap.size<=D)->(wX b).wp P (Exit.then ((SG b).wp P (Cw P w0 fn v)) (Cw P w0 fn v)) (Yn (J4 Ds) a') q):
  b.wp P (Cw P w0 fn v) (Yn (J4 Ds) a) W:=by
 have s:=N3 l n;rw[(lk o).1];refine wp_seq (wp_seq (wp_mono (V6 (Ew y (ds:=J4 Ds)) x (Jp x y 9) (0,0) (vE b) _ d _ (h _) ⟨La _,La _⟩ _ a W s (λe a' f=>e=.normal/\(wX b).wp P (Exit.then ((SG b).wp P (Cw P w0 fn v)) (Cw P w0 fn v)) (Yn (J4 Ds) a') f) (λ_ _ _ _ _ h=>by cases h.1) (λ_ _ _ _ _ _ h=>False.elim h) λe c H r' a' f g j _ _=>?_) λe a' f t=>?_))
 ·cases e with
  | normal =>
   obtain⟨g,m,u⟩:=BB (show Oa _ c.rs (E c)from g);have C:aI σ r W.heap.size W f:=Cb l j u;refine⟨rfl,B c r' a' f g j λD w=>?_⟩;obtain⟨k,F⟩:=A D w;refine⟨(C D (o3.1 k).1 λi p G e=>?_).trans k,F⟩;have z:=(l.see.bs i p.1 p.2 G).1;rw[e]at z;rw[show W.heap[D]?=some (.cells _ p.1 (0,0))from z]at k;cases k
  | ret=>exact False.elim g
  | exit i=>exact False.elim g
 ·obtain⟨b,rfl,rfl,t⟩:=t;exact t
theorem et(i:YF P tt)(j:P.follows .mixedOrders=true)(l:P.funcs[f]?=some fn){args:a8}(m:Nat.ble args.length fn.ntmps=true){R:Ending->y9->Prop}{E:Code->St->Prop}{d:List Dir}(h:DO P tt w0 fn E (O4 fn.ntmps args) d λ_ _ _=>False)(n:∀b σ r a w,E b σ->Sat w0 σ r a w->b.wp P (bodyPost P fn R) a w): Calls P f args.toArray w0 R:=by
 unfold DO at h;cases g:fn.body with
 | none =>
  rw[g]at h;exact h.elim
 | some c =>
  rw[g]at h;refine calls_of_wp l g (wp_mono (Hl i j (Jp i j 9) (0,0) (Q:=bodyPost P fn R) (λd v q a w k=>⟨k.1,k.2⟩) n c _ d _ h ⟨La _,La _⟩ _ _ _ (lw (L3 m) w0) (λ_ _ _ _ _ _ h=>False.elim h) λe s t r' a' u o p _ _=>o.elim) λe a w h=>h)
theorem OI(j:YF P tt)(k:P.follows .mixedOrders=true)(l:XB P f)(m:P.funcs[f]?=some fn){args:a8}(n:Nat.ble args.length fn.ntmps=true){v:z0}(h:∀W,Below w0.heap.size w0 W->∃E d,DO P tt W fn E (O4 fn.ntmps args) d (λe σ _=>Vj tt fn.results.toList e σ λs=>Z7 s.plain (s.den e0=v)) /\
   ∀b σ r a w,E b σ->Sat W σ r a w->b.wp P (Cw P W fn v) (Yn (J4 []) a) w): RetAt P w0 f args.toArray v:=by
 refine⟨l,λW o=>?_⟩;obtain⟨E,d,g,p⟩:=h W o;unfold DO at g;cases i:fn.body with
 | none =>
  rw[i]at g;exact g.elim
 | some c =>
  rw[i]at g;refine ib j k m i n (E:=E) g λb σ r a w k1 q=>?_
  have t:=p b σ r a w k1 q;rwa [show Yn (J4 []) a=a by simp[Yn,J4]]at t
end
def Pm(y:Nat)(t:u6)(cs:a8): Res where
 φ x S w:=x=.bool false/\Bx w y t cs.toArray/\∀b,S b↔b=y
 one _ _ _ h:=by rw[h.1];rfl
 loc x S w w' h hφ:=⟨hφ.1,(h y ((hφ.2.2 y).2 rfl)).trans hφ.2.1,hφ.2.2⟩
theorem Xs{T U:Prop}(h:T)(a:T=U): U:=a▸h
section
variable {P:Program} {w0:World} {g:Nat} {t bt:TypeId} {cs vs:List Value} {M:Res}
theorem QU{m:Sem z0}{R:z0}(h:∀W,Bx W g t cs.toArray->Qn P W m R): GC P w0 [Qh g t cs M] m R:=λW _ x S a=>h W (show _/\_ from a).2.1 W (l3 _ _)
theorem Yo(w0:y9)(g:Nat)(t:u6)(cs:a8)(M:Res){m:Sem z0}{R:z0}(h:∀W x S,M.φ x S W->Qn P W m R): GC P w0 [Qh g t cs M] m R:=λW _ x S a=>by
 obtain⟨_,_,b,c,d,_⟩:=(show _/\_/\∃b c,_ from a)
 exact h W _ _ d W (l3 _ _)
theorem Yy(w0:y9)(P:u7)(g:Nat)(bt:u6)(cs:a8)(M:Res)(t:u6)(vs:a8)(o:Nat)(v:z0){j:TI}(n:YH P t=some j)(p:v.cells.toList=vs)(k:vs.length=j.size)(q:o+vs.length<=cs.length)(r:∀u,u∈vs->u.oneCell'=true):
  ∀W,Below w0.heap.size w0 W->∀x S,(Qh g bt cs M).φ x S W->G2 P W (λ_:Unit=>undef) (λ_:Unit=>Qh g bt (spl cs o vs) M) x S (Bf t [.pointer (some ⟨g,o,none⟩),v]):=λW _ x S s=>by
 obtain⟨w,a,d,f,y,l,m,h⟩:=(show _/\_/\∃d f,_ from s)
 subst p;have c:=GW P t o v n a (by rw[<- S7];exact k) (by rw[<- k];exact q) r;have i:∀b,d b->b≠g:=λb a e=>l (e▸a)
 refine⟨(),S,_,?_,GV ((h g).2 (.inl rfl)) v.cells.toList o,(show _/\_/\∃d f,_ from⟨w,Bx.setL _ _ a,d,f,M.loc _ _ _ _ (λb a=>VU _ _ _ _ _ (i b a)) y,l,λb a=>by rw[JY];exact m b a,h⟩),λb a=>⟨.inl a,?_⟩⟩
 ·unfold Bf;rw[p0,c];rfl
 ·rw[JY];rcases(h b).1 a with rfl|z
  ·exact a.lt
  ·exact m b z
end
theorem KL{g:Nat}{t:u6}{cs:a8}{M N:Res}(l:NB N){x:z0}{S:Nat->Prop}{w:y9}(h:(Qk (Qh g t cs M) N).φ x S w): (Qh g t cs (Qk M N)).φ x S w:=by
 obtain⟨f,c,d,m,i,j,n⟩:=(show ∃f c d,_ from h)
 obtain⟨o,p,k,q,r,s,u,a⟩:=(show _/\_/\∃c d,_ from m)
 refine(show _/\_/\∃c d,_ from⟨o,p,λb=>k b\/c b,q,(show ∃f c d,_ from⟨k,c,d,r,i,λb e=>j b ((a b).2 (.inr e)),λ_=>Iff.rfl⟩),λv=>v.elim s (j g ((a g).2 (.inl rfl))),λb e=>e.elim (u b) (l _ _ _ i b),λb=>?_⟩);rw[n,a];exact or_assoc
theorem Jc(g:Nat)(t:u6)(cs:a8)(M N:Res)(l:∀(x:z0) (S:Nat->Prop) (w:y9),N.φ x S w->N.φ (.bool false) S w)(x:z0)(S:Nat->Prop)(w:y9)(h:(Qh g t cs (Qk M N)).φ x S w): ∃d c,(Qh g t cs M).φ x d w/\N.φ (.bool false) c w/\(∀b,d b->¬ c b)/\∀b,d b\/c b->S b:=by
 obtain⟨m,n,y,o,p,k,q,i⟩:=(show _/\_/\∃c j,_ from h)
 obtain⟨d,c,j,r,s,u,e⟩:=(show ∃d c j,_ from p)
 refine⟨λb=>b=g\/d b,c,(show _/\_/\∃c j,_ from⟨m,n,d,o,r,λv=>k ((e g).2 (.inl v)),λb a=>q b ((e b).2 (.inl a)),λ_=>Iff.rfl⟩),l _ _ _ s,λb a f=>?_,λb a=>(i b).2 ?_⟩
 ·rcases a with rfl|a
  ·exact k ((e b).2 (.inr f))
  ·exact u b a f
 ·rcases a with(rfl|a)|a
  ·exact .inl rfl
  ·exact .inr ((e b).2 (.inl a))
  ·exact .inr ((e b).2 (.inr a))
theorem Zs{β:Type}{F:Res}{v:z0}{val:β->z0}{R1:Res}{R:β->Res}(y:β)(a:v=val y)(b:∀(x:z0) (S:Nat->Prop) (w:y9),R1.φ x S w->(R y).φ x S w): F=F/\∃y,v=val y/\∀(x:z0) (S:Nat->Prop) (w:y9),R1.φ x S w->(R y).φ x S w:=⟨rfl,y,a,b⟩
theorem J8(F:Res)(v:z0)(pn:z0->Prop)(h:pn v): F=F/\∃u,SV.val v=.val u/\pn u:=⟨rfl,v,rfl,h⟩
theorem X9(F:Res)(pn pn':z0->Prop)(h:∀v,pn v->pn' v): ∀v,pn v->F=F/\∃u,SV.val v=.val u/\pn' u:=λv a=>⟨rfl,v,rfl,h v a⟩
structure Tk where
 s:ByteArray
 a:Int
structure Ln where
 l:List Tk
 e:Int
def zv:Tk:=⟨⟨#[]⟩,0⟩
def Qf(l:List Tk)(k:Nat): Tk:=l.getD k zv
def Xj(l:List Ln)(k:Nat): Ln:=l.getD k ⟨[],0⟩
structure FD where
 ls:List Ln
 l:List Tk
 ne:Int
 en:Int
abbrev Pz(α:Type):= FD->Except Int (α×FD)
def bnd{α β:Type}(x:Pz α)(f:α->Pz β): Pz β:=λs=>match x s with
 | .error z=>.error z
 | .ok (a,t)=>f a t
def rtn{α:Type}(a:α): Pz α:=λs=>.ok (a,s)
def MZ(b:Bool)(z:Int): Pz Unit:=λs=>bif b then .ok ((),s)else .error z
theorem Q3{α β:Type}{x:Pz α}{f:α->Pz β}{s:FD}{z:Int}(h:x s=.error z): bnd x f s=.error z:=by unfold bnd;rw[h]
theorem Qv{α β:Type}{x:Pz α}{f:α->Pz β}{s t:FD}{a:α}(h:x s=.ok (a,t)): bnd x f s=f a t:=by unfold bnd;rw[h]
def XN:Pz Tk:=λs=>match s.l with
 | []=>.error s.ne
 | t::l=>.ok (t,{ s with l:=l })
def XK:Pz Unit:=λs=>match s.l with
 | []=>.ok ((),s)
 | t::_=>.error t.a
def Na:Pz Unit:=λs=>match s.ls with
 | []=>.error s.en
 | n::r=>.ok ((),⟨r,n.l,n.e,s.en⟩)
def Qq(b:List u4): Pz Int:=bnd XK λ_=>bnd Na λ_=>bnd XN λt=>bnd (MZ (decide (Lib.idxOfS b t.s>=0)&&!decide (t.s=⟨#[]⟩)) t.a) λ_=>rtn (Lib.idxOfS b t.s)
def F7(s:u4): Bool:=(s.data.toList.all (λc=>c.toNat>=48&&c.toNat<=57)&&decide ((s.size:Int)<=9))&&(((bt s 0:Int) != 48)||((s.size:Int)==1))
def Xf(s:u4): Int:=s.data.toList.foldl (λn c=>n*10+((c.toNat:Int)-48)) 0
def QL(b:Int): Pz Int:=bnd XN λt=>bnd (MZ (F7 t.s) t.a) λ_=>bnd (MZ (decide (Xf t.s<=b)) t.a) λ_=>rtn (Xf t.s)
def ni(x:Dyadic): Nm:=⟨neg (dm x),Qx (dm x),de x⟩
def XP:Pz Nm:=bnd XN λt=>bnd (MZ ((ZJ t.s.data.toList).2.2==0) t.a) λ_=>rtn (ni (ZJ t.s.data.toList).1)
def XQ:Nat->List Nm->Pz (List Nm)
 | 0,l=>rtn l
 | n+1,l=>bnd XP λa=>XQ n (l++[a])
def JR(b:Int): Nat->List UInt8->Pz (List UInt8)
 | 0,l=>rtn l
 | n+1,l=>bnd (QL b) λa=>JR b n (l++[UInt8.ofNat a.toNat])
def VZ:Nat->List Tm->List Tm->List Tm
 | 0,a,b=>a++b
 | _+1,[],b=>b
 | _+1,a,[]=>a
 | f+1,x::a,y::b=>bif Ao x.m y.m then x::VZ f a (y::b)else bif Ao y.m x.m then y::VZ f (x::a) b else⟨x.m,ni (nv x.c+nv y.c)⟩::VZ f a b
def Jb:Nat->List Tm->List Tm
 | 0,l=>l
 | f+1,l=>if l.length<2 then l else VZ l.length (Jb f (l.take (l.length / 2))) (Jb f (l.drop (l.length / 2)))
def Xk(l:List Tm): List Tm:=(Jb l.length l).filter λt=>!(sg t.c==0)
def X5(t:Tm): Tm:=⟨t.m,ni (nv t.c)⟩
def Xa(vars:Int)(l:List Tm): Py×Int :=
 bif !(decide (0<=vars)&&decide (vars<=12))||l.any (λt=>!Jq t.m vars)then(di,1)else
 bif decide ((l.length:Int)>65536)||decide (((Xk l).length:Int)>4096)then(di,3)else(⟨vars,(Xk l).map X5⟩,0)
def VY(vars:Nat): Nat->List Tm->Pz (List Tm)
 | 0,l=>rtn l
 | f+1,l=>λs=>bif decide ((s.l.length:Int)>0)then bnd XP (λa=>bnd (JR 127 vars []) λm=>VY vars f (l++[⟨⟨m.toArray⟩,a⟩])) s else .ok (l,s)
def Qz(vars:Int): Pz (Py×Bool):=bnd (VY vars.toNat 70000 []) λl=>rtn ((Xa vars l).1,(Xa vars l).2 != 0)
def GS(n:Nat): Nat->List (List Nm)->Pz (List (List Nm))
 | 0,l=>rtn l
 | f+1,l=>bnd (XQ n []) λp=>GS n f (l++[p])
def B6:Nat->List (Nm×Nm)->Pz (List (Nm×Nm))
 | 0,l=>rtn l
 | f+1,l=>bnd (XQ 2 []) λp=>B6 f (l++[(Xn p 0,Xn p 1)])
def G1:u4:=⟨#[98,111,120]⟩
def Yb:u4:=⟨#[115,105,109,112,108,101,120]⟩
def Za:u4:=⟨#[115,112,108,105,116]⟩
def Jn:u4:=⟨#[108,101,97,102]⟩
def EL:u4:=⟨#[101,112,115]⟩
def Zx:u4:=⟨#[100,101,108,116,97]⟩
def XU:u4:=⟨#[98,117,100,103,101,116]⟩
def Vf:u4:=⟨#[112,111,108,121]⟩
def XJ:u4:=⟨#[114,117,108,101]⟩
def X0:List u4:=[⟨#[]⟩,⟨#[114,97,110,103,101]⟩,⟨#[114,97,116,105,111]⟩,⟨#[112,111,115,105,116,105,118,101]⟩,⟨#[109,105,110,105,109,117,109]⟩,⟨#[122,101,114,111,115]⟩,⟨#[99,104,101,99,107]⟩]
def GH(δ:Int): List u4:=bif (δ==2)||(δ==5)then[G1]else[G1,Yb]
def J7(δ vars:Int): Pz (List (Nm×Nm)×List (List Nm)):=bnd (Qq (GH δ)) λi=>bif i==1 then bnd (GS vars.toNat (vars+1).toNat []) (λl=>rtn ([],l))else bnd (B6 vars.toNat []) λl=>rtn (l,[])
def XO(vars:Int): Nat->Int->List Nd->Bool->Pz (List Nd×Bool)
 | 0,_,l,m=>rtn (l,m)
 | f+1,o,l,m=>bif decide (o>0)then bnd (Qq [Za,Jn]) (λi=>bif i==0 then XO vars f (o+1) (l++[⟨1,nm0,di⟩]) m else
  bnd XP λa=>bnd (Qz vars) λp=>XO vars f (o-1) (l++[⟨0,a,p.1⟩]) (m||p.2))else rtn (l,m)
def K7(vars:Int): Nat->List Py->Bool->Pz (List Py×Bool)
 | 0,l,m=>rtn (l,m)
 | f+1,l,m=>bnd (Qq [Vf]) λ_=>bnd (Qz vars) λp=>K7 vars f (l++[p.1]) (m||p.2)
def Vh(w:u4)(s:FD): Bool:=bif decide ((s.ls.length:Int)>0)then decide ((Qf (Xj s.ls 0).l 0).s=w)else false
def YC(δ vars:Int): Nat->List Py->Bool->Pz (List Py×Bool)
 | 0,l,m=>rtn (l,m)
 | f+1,l,m=>bif δ==4 then(λs=>bif Vh XJ s then(bnd (Qq [XJ]) λ_=>bnd (Qz vars) λp=>YC δ vars f (l++[p.1]) (m||p.2)) s else rtn (l,m) s)else rtn (l,m)
def K1(δ:Int): Pz (Nm×Nm×Int):=bnd (Qq [EL]) λ_=>bnd XP λe=>bnd (bif δ==4 then bnd (Qq [Zx]) λ_=>XP else rtn nm0) λd=>bnd (Qq [XU]) λ_=>bnd (QL 999999999) λb=>rtn (e,d,b)
def kk(bx:List (Nm×Nm))(a:List (List Nm)): Int:=bif (2*(bx.length:Int))==0 then(a.length:Int)else 2*(bx.length:Int)
def EU:Pz Unit:=bnd XK λ_ s=>match s.ls with
 | []=>.ok ((),s)
 | n::_=>match n.l with
  | []=>.error n.e
  | t::_=>.error t.a
def TN:Pz Int:=λs0=>bnd (QL 99) (λvars=>bnd (MZ (decide (vars>0)) (Qf s0.l 0).a) λ_=>rtn vars) s0
def GU(δ:Int)(x:PV)(m:Bool): Pz (PV×Bool) :=
 bif δ==6 then bnd (XO (kk x.box x.κ) 70000 1 [] m) (λc=>bnd EU λ_=>rtn ({ x with ι:=c.1 },c.2))else bnd (K1 δ) λt=>bnd EU λ_=>rtn ({ x with ν:=t.1,ε:=t.2.1,ζ:=t.2.2 },m)
def Q5:Pz (PV×Bool):=bnd (Qq X0) λδ=>bnd TN λvars=>bnd (J7 δ vars) λd =>
 bnd (K7 vars (Q2 δ vars).toNat [] false) λp=>bnd (YC δ vars 70000 [] p.2) λr=>GU δ ⟨δ,vars,d.1,d.2,p.1,r.1,nm0,nm0,0,[]⟩ r.2
def pv0:PV:=⟨0,0,[],[],[],[],nm0,nm0,0,[]⟩
def Jk(c:UInt8): Bool:=(c==32)||(c==9)
def sub(s:List UInt8)(i j:Nat): u4:=⟨((s.take j).drop i).toArray⟩
def B8(s:List UInt8)(at_:Int)(k:Nat)(a:List Tk×Option Nat): List Tk×Option Nat:=match a.2 with
 | none=>a
 | some i=>(a.1++[⟨sub s i k,at_+(i:Int)⟩],none)
def KX(s:List UInt8)(at_:Int)(k:Nat)(a:List Tk×Option Nat): List Tk×Option Nat:=bif Jk (s.getD k 0)then B8 s at_ k a else match a.2 with
 | none=>(a.1,some k)
 | some _=>a
def Qd(s:List UInt8)(at_:Int): Nat->List Tk×Option Nat
 | 0=>([],none)
 | k+1=>KX s at_ k (Qd s at_ k)
def Y5(s:List UInt8)(at_:Int): List Tk:=(B8 s at_ s.length (Qd s at_ s.length)).1
def Kb(l:List Tk): Bool:=decide ((l.length:Int)>0)&&((bt (Qf l 0).s 0:Int) != 35)
def Qg:List UInt8->List (List UInt8)
 | []=>[[]]
 | c::r=>bif c==10 then[]::Qg r else match Qg r with
  | []=>[[c]]
  | l::m=>(c::l)::m
def Qj:List (List UInt8)->Int->List Ln
 | [],_=>[]
 | l::r,at_=>bif Kb (Y5 l at_)then⟨Y5 l at_,at_+(l.length:Int)⟩::Qj r (at_+(l.length:Int)+1)else Qj r (at_+(l.length:Int)+1)
def Ze(s:List UInt8): FD:=⟨Qj (Qg s) 0,[],0,(s.length:Int)⟩
def E8{α:Type}(e k:Nat)(c:α->a8)(l:List α)(A:u5)(cp:Nat): Res where
 φ x S w:=(Qc e k c l A cp).φ x S w\/(x.oneCell'=true/\l=[]/\cp=0/\(∃g,A=some ⟨g,0,none⟩)/\∀b,¬ S b)
 one x S w h:=by
  rcases h with h|h
  ·exact(Qc e k c l A cp).one x S w h
  ·exact h.1
 loc x S w w' h hφ:=by
  rcases hφ with a|a
  ·exact .inl ((Qc e k c l A cp).loc x S w w' h a)
  ·exact .inr a
theorem tE{α:Type}{e k:Nat}{c:α->a8}{l:List α}{A:u5}{cp:Nat}{x a:z0}{S:Nat->Prop}{w:y9}(b:a.oneCell'=true)(h:(E8 e k c l A cp).φ x S w): (E8 e k c l A cp).φ a S w:=by
 rcases(show _\/_ from h)with h|h
 ·exact(show _\/_ from .inl (AH b h))
 ·exact(show _\/_ from .inr ⟨b,h.2⟩)
theorem tF{α:Type}{e k:Nat}{c:α->a8}(b:∀x,(c x).length=k){l:List α}(d:α){A:u5}{cp:Nat}{x:z0}{S:Nat->Prop}{w:y9}(h:(E8 e k c l A cp).φ x S w): RdK w A l.length k (λj=>c (l.getD j d)):=by
 rcases(show _\/_ from h)with h|h
 ·have g:=Hu (L:=LP.known λj=>c (l.getD j d)) b d (λi p S w=>rfl) h;obtain⟨f,q,_,m,n,_⟩:=N4 g;exact RdK.congr m λj o=>n j o
 ·intro a;rw[h.2.1]at a;exact absurd a (Sx 0)
theorem Hr{α β:Type}{l:List α}{f g:α->List β}(h:∀a,a∈l->f a=g a): l.flatMap f=l.flatMap g:=by
 induction l with
 | nil=>rfl
 | cons a l c=>rw[Tl,Tl,h a x6,c λb d=>h b (by simp[d])]
def wR{α:Type}(e k:Nat)(c:α->a8)(pre:Nat->a8)(ls:Nat->List α)(post:Nat->a8): LP where
 p j S w cs:=∃A cp a,(∀b,a b->S b)/\cs=pre j++.slice A (ls j).length cp::post j/\(E8 e k c (ls j) A cp).φ (.bool false) a w
 loc:=by
  rintro j S w l cs h ⟨A,cp,a,d,f,g⟩;exact⟨A,cp,a,d,f,(E8 e k c (ls j) A cp).loc _ _ _ _ (λb i=>h b (d b i)) g⟩
 mono:=by
  rintro j S m w cs h ⟨A,cp,a,d,f,g⟩;exact⟨A,cp,a,λb i=>h b (d b i),f,g⟩
abbrev wQ{α:Type}(e k:Nat)(c:α->a8)(pre:Nat->a8)(ls:Nat->List α): LP:=wR e k c pre ls λ_=>[]
theorem aY{α:Type}{e k:Nat}{c:α->a8}{l:List α}{A:u5}{cp:Nat}: NB (E8 e k c l A cp):=λx S w h b a=>by
 rcases(show _\/_ from h)with h|h
 ·exact BV _ _ _ h b a
 ·exact absurd a (h.2.2.2.2 b)
theorem xW{e m n:Nat}{L:LP}{A:u5}{cp:Nat}{x a:z0}{S:Nat->Prop}{w:y9}(b:a.oneCell'=true)(h:(Qt e m n L A cp).φ x S w): (Qt e m n L A cp).φ a S w:=by
 obtain⟨_,c⟩:=(show _/\_ from h)
 exact(show _/\_ from⟨b,c⟩)
section
variable {P:Program} {w0:World}
theorem PT{α:Type}{t t2 ty e m bytes bt e2 k n n' cp2:Nat}{c:α->a8}{pre:Nat->a8}{ls:Nat->List α}{post:Nat->a8}{A A2:u5}{cp cq:Nat}{cs:a8}{R3:Res}(U:∀x S w,R3.φ x S w->(E8 e2 k c (ls n) A2 cq).φ x S w)(p:RowT P t t2 e m bytes)(hp:∀u,u∈pre n->u.oneCell'=true)(hq:∀u,u∈post n->u.oneCell'=true)(H:n'=n+1)(a:(n+1)*bytes<=140737488355328)(I:cs=pre n++.slice A2 (ls n).length cq::post n)(hm:cs.length=m):
  ∀W,Below w0.heap.size w0 W->∀g,Bx W g bt cs.toArray->∀x S,(Qk (Qt e m n (wR e2 k c pre ls post) A cp) R3).φ x S W->G2 P W (λy:Hp=>.slice y.1 n' y.2) (λy:Hp=>Qt e m n' (wR e2 k c pre ls post) y.1 y.2) x S (VG .append #[t,t2] ty [.slice A n cp,.slice (some ⟨g,0,none⟩) 1 cp2]):=λW _ g hg x S hφ=>by
 subst H;obtain⟨S1,J,x2,hG,V,q,D⟩:=(show ∃S1 E x2,_ from hφ)
 have X:=U _ _ _ V;obtain⟨Y,f,E,h0,r,h3,R,K⟩:=(show _/\_ from hG)
 obtain⟨Z,z,e1,L,e3,e4,e5⟩:=p.info;obtain⟨bd,ad⟩:=p.ht2;have s:∀u∈cs,u.oneCell'=true:=λu hu=>by
  rw[I]at hu;rcases Rs.1 hu with h|h
  ·exact hp u h
  ·rcases Ll.1 h with rfl|h
   ·rfl
   ·exact hq u h
 have l:∀j u,cs[j]?=some u->W.cell? ((⟨g,0,none⟩:Addr).add j)=some u:=λj u T=>by
  rw[Yc,Lj,hg.cel];simpa using T
 have v:n+1<=maxLen:=by
  have h2:=p.hb;have h3:n+1<=(n+1)*bytes:=Rv _ h2;simp only[maxLen];omega
 have M:cs.length=1*m:=by rw[hm,Tg]
 obtain⟨v',G,B,d,ae,_⟩:=run_append_own (P:=P) W 0 t ty e Z z m bytes p.ht e1 L e3 e4 e5 p.hk _ _ _ r ⟨g,0,none⟩ 1 cp2 cs M l s v a (La _);obtain⟨N,o,rfl⟩:∃N o,v'=.slice N (n+1) o:=by
  rcases d.2 with⟨rfl,e6⟩|⟨g,cap,bi,rfl,_⟩
  ·exact absurd e6 (Nat.succ_ne_zero n)
  ·exact⟨_,_,rfl⟩
 have i:Trn (λb=>(Value.slice A n cp).ownBlock=some b) W G:=Trn.of_grown ae λk hk=>hk
 have O:=CU p.ht e1 L e3 e4 e5 p.hk r M l s v a B;have F:∀b,b<W.heap.size->(Value.slice A n cp).ownBlock≠some b->G.heap[b]?=W.heap[b]?:=λb a H=>i.block b a H
 have ag:∀b,E b->G.heap[b]?=W.heap[b]?:=λb a=>F b (R b a).2 (R b a).1
 have al:∀b,J b->G.heap[b]?=W.heap[b]?:=λb a=>F b (aY _ _ _ X b a) λe=>q b ((K b).2 (.inl e)) a
 have C:∀b,E b\/J b->(Value.slice N (n+1) o).ownBlock≠some b/\b<G.heap.size:=λb a=>by
  have ao:b<W.heap.size:=a.elim (λh=>(R b h).2) (λh=>aY _ _ _ X b h);have aw:(Value.slice A n cp).ownBlock≠some b:=a.elim (λh=>(R b h).1) (λh e=>q b ((K b).2 (.inl e)) h);refine⟨λe=>?_,Lb ao i.size⟩;rcases O b e with h|h|h
  ·exact aw h
  ·omega
  ·omega
 have aB:((List.range n).flatMap f++cs)=(List.range (n+1)).flatMap (λj=>if j=n then cs else f j):=by
  rw[Td,U4];congr 1
  ·refine Hr λj T=>?_
   rw[if_neg (y6 (Lr.1 T))]
  ·simp
 rw[aB]at d;refine⟨(N,o),λb=>(Value.slice N (n+1) o).ownBlock=some b\/E b\/J b,G,?_,⟨i.os,i.tape,i.output,i.size,λb a H=>F b a λe=>H ((D b).2 (.inl ((K b).2 (.inl e))))⟩,(show _/\_ from⟨Y,λj=>if j=n then cs else f j,λb=>E b\/J b,λj=>?_,d,λj T=>?_,C,λb=>Iff.rfl⟩),λb a=>?_⟩
 ·simp only[VG];rw[Bl p.ht ad];exact B
 ·dsimp only;split
  ·exact hm
  ·exact h0 j
 ·dsimp only;by_cases Q:j=n
  ·subst Q;rw[if_pos rfl];exact⟨A2,cq,J,λb a=>.inr a,I,(E8 e2 k c (ls j) A2 cq).loc _ _ _ _ al (tE rfl X)⟩
  ·rw[if_neg Q];exact(wR e2 k c pre ls post).mono j E _ _ _ (λb a=>.inl a) ((wR e2 k c pre ls post).loc j E W _ _ ag (h3 j x3))
 ·rcases a with a|a
  ·refine⟨?_,(d.lt b a).2⟩;rcases O b a with h|h|h
   ·exact .inl ((D b).2 (.inl ((K b).2 (.inl h))))
   ·exact .inr (Rx h.symm)
   ·exact .inr h
  ·refine⟨.inl ((D b).2 (a.elim (λh=>.inl ((K b).2 (.inr h))) .inr)),(C b a).2⟩
theorem Jh{α:Type}{t d ty e m bytes bt e2 k n n' cp2:Nat}{c:α->a8}{pre:Nat->a8}{ls:Nat->List α}{A A2:u5}{cp cq:Nat}{cs:a8}{R3:Res}(a:∀x S w,R3.φ x S w->(E8 e2 k c (ls n) A2 cq).φ x S w)(f:RowT P t d e m bytes)(i:∀u,u∈pre n->u.oneCell'=true)(j:n'=n+1)(l:(n+1)*bytes<=140737488355328)(b:cs=pre n++[.slice A2 (ls n).length cq])(o:cs.length=m):
  ∀W,Below w0.heap.size w0 W->∀g,Bx W g bt cs.toArray->∀x S,(Qk (Qt e m n (wQ e2 k c pre ls) A cp) R3).φ x S W->G2 P W (λy:Hp=>.slice y.1 n' y.2) (λy:Hp=>Qt e m n' (wQ e2 k c pre ls) y.1 y.2) x S (VG .append #[t,d] ty [.slice A n cp,.slice (some ⟨g,0,none⟩) 1 cp2]) :=
 PT (post:=λ_=>[]) a f i (λ_ h=>nomatch h) j l b o
end
theorem nQ{α:Type}{a e m:Nat}{c:α->a8}{l:List α}{A:u5}{cp:Nat}(f:∀x,(c x).length=m)(d:α){x:z0}{S:Nat->Prop}{w:y9}(i:(E8 e m c l A cp).φ x S w)(j:∀b,S b->a<=b): SlV a m (λ_ x cs=>cs=c x) w l (.slice A l.length cp):=by
 rcases(show _\/_ from i)with h|⟨_,rfl,rfl,⟨g,rfl⟩,_⟩
 ·exact du f d h j
 ·exact⟨_,_,rfl,L8 _,λh=>(nomatch h),λh=>absurd h (Sx _)⟩
theorem UG{α β:Type}{a e m n e2 k:Nat}{p:Rdg β}{l:List β}{c:α->a8}{pre:Nat->a8}{ls:Nat->List α}{A:u5}{cp:Nat}{x:z0}{S:Nat->Prop}{w:y9}(g:∀x,(c x).length=k)(d:α)(i:n=l.length)(o:(Qt e m n (wQ e2 k c pre ls) A cp).φ x S w)(q:∀b,S b->a<=b)(r:∀j (h:j<l.length) v,SlV a k (λ_ x cs=>cs=c x) w (ls j) v->p w l[j] (pre j++[v])): SlV a m p w l (.slice A n cp) :=
 bF i o q λj h B cs f s=>by
  obtain⟨C,t,D,k1,u,y⟩:=s;rw[u];exact r j h _ (nQ g d y λb z=>f b (k1 b z))
section
variable {α:Type} {e k cp:Nat} {c:α->List Value} {l:List α} {A:Option Addr} {x:Value} {S:Nat->Prop} {w:World}
theorem dt(h:(Qc e k c l A cp).φ x S w)(r:0<l.length): x.oneCell'=true/\∃g a,A=some ⟨g,0,none⟩/\Bx w g e a/\l.length<=cp/\cp<=maxLen/\a.size=cp*k/\a.toList.take (l.length*k)=l.flatMap c/\∀b,S b↔b=g:=by
 obtain⟨d,f,i⟩:=(show _/\_/\_ from h)
 rcases f.2 with⟨_,e2⟩|⟨g,cap,a,e1,_,j,m,n,o,p⟩
 ·omega
 ·injection e1 with e1 _ q
  subst e1;subst q;exact⟨d,g,a,rfl,(by simpa [Bx]using j),m,n,o,p,λb=>by rw[i];exact⟨λh=>(hW h).symm,λh=>by rw[h];rfl⟩⟩
theorem ab(cur:b7){g:Nat}(a:x.oneCell'=true)(d:Bx w g e cur)(f:l.length<=cp)(i:cp<=maxLen)(j:∀x,(c x).length=k)(m:cur.size=cp*k)(n:cur.toList.take (l.length*k)=l.flatMap c)(o:∀b,S b↔b=g): (Qc e k c l (some ⟨g,0,none⟩) cp).φ x S w :=
 (show _/\_/\_ from⟨a,⟨by rw[Q4 j],.inr ⟨g,cp,cur,rfl,La _,(by simpa [Bx]using d),f,i,m,n⟩⟩,λb=>by rw[o];exact⟨λh=>by rw[h];rfl,λh=>(hW h).symm⟩⟩)
end
section
variable {P:Program} {w0:World} {α:Type} {e k cp:Nat} {c:α->List Value} {A:Option Addr}
theorem je(e:∀x,(c x).length=k)(d:α){l:List α}{i o:Nat}{vs:a8}(h:i<l.length){y:α}(g:spl (c (l.getD i d)) o vs=c y)(m:o+vs.length<=k): spl (l.flatMap c) (i*k+o) vs=(l.set i y).flatMap c:=by
 rw[<- AG c l d,SO (f:=λj=>c (l.getD j d)) (λj=>e _) h m,<- AG c (l.set i y) d,List.length_set];refine Hr λj b=>?_
 have b:=Lr.1 b;by_cases a:j=i
 ·subst a;rw[if_pos rfl,show(l.set j y).getD j d=y by rw[List.getD,List.getElem?_set_self b];rfl];exact g
 ·rw[if_neg a,List.getD,List.getD,List.getElem?_set_ne (Ne.symm a)]
theorem OK(P:u7)(w0:y9)(e k cp:Nat)(c:α->a8)(A:u5)(t i o:Nat)(l l':List α)(v:z0)(y:α){n:TI}(B:∀x,(c x).length=k)(d:α)(D:YH P t=some n)(E:spl (c (l.getD i d)) o v.cells.toList=c y)(p:v.cells.toList.length=n.size)(F:o+n.size<=k)(h:i<l.length)(G:∀u,u∈v.cells.toList->u.oneCell'=true)(H:l.set i y=l'):
  ∀W,Below w0.heap.size w0 W->∀x S,(Qc e k c l A cp).φ x S W->G2 P W (λ_:Unit=>undef) (λ_:Unit=>Qc e k c l' A cp) x S (Bf t [.pointer (some (Xi A (i*k+o))),v]):=λW _ x S I=>by
 subst H;obtain⟨J,g,a,rfl,q,C,K,r,L,s⟩:=dt I x3;have w:(i+1)*k<=l.length*k:=Lo _ x3;rw[Rm]at w;have z:l.length*k<=cp*k:=Lo _ C;have f:a.toList.length=cp*k:=by rw[S7,r]
 have j:=GW P t (i*k+o) v D (show Bx W g e a.toList.toArray from q) (by rw[<- S7];exact p) (by rw[f];omega) G;refine⟨(),S,_,?_,GV ((s g).2 rfl) v.cells.toList (i*k+o),ab ((spl a.toList (i*k+o) v.cells.toList).toArray) J (Bx.setL _ _ (show Bx W g e a.toList.toArray from q)) (by rw[List.length_set];exact C) K B (by rw[Sa,Vs,f]) ?_ s,λb m=>⟨.inl m,?_⟩⟩
 ·unfold Bf;have M:Xi (some ⟨g,0,none⟩) (i*k+o)=⟨g,i*k+o,none⟩:=by simp[Xi]
  rw[M,p0,j];rfl
 ·show(spl a.toList (i*k+o) v.cells.toList).take ((l.set i y).length*k)=_;rw[List.length_set,SP _ _ _ _ (by rw[p];omega) (by rw[f];exact z),L,je B d h E (by rw[p];exact F)]
 ·rw[JY,(s b).1 m];exact q.lt
def il{α:Type}(e k n:Nat)(c:α->a8)(l:List α)(A:u5)(cp:Nat): Res where
 φ x S w:=(Qc e k c l A cp).φ x S w/\(∃g,A=some ⟨g,0,none⟩)/\n<=cp
 one x S w h:=(Qc e k c l A cp).one x S w h.1
 loc x S w w' h hφ:=⟨(Qc e k c l A cp).loc x S w w' h hφ.1,hφ.2⟩
theorem fY{t ty:u6}{z:z0}{l1 l2:List α}{B:u5}{cq:Nat}(D:∀x,(c x).length=k)(F:P.underlying t=some (.slice e))(L:∀w,(zeroValue e).run P w=.ok z w)(M:z.cells.size=k)(U:0<k)(N:∀u,u∈z.cells.toList->u.oneCell'=true)(O:0<l1.length+l2.length)(Q:∀g,A=some ⟨g,0,none⟩->l1.length+l2.length<=cp->0<l2.length->B=some ⟨g,l1.length*k,none⟩):
  ∀W,Below w0.heap.size w0 W->∀x S,(Qc e k c (l1++l2) A cp).φ x S W->G2 P W (λ_:Unit=>.tuple #[]) (λ_:Unit=>il e k (l1.length+l2.length) c l1 A cp) x S (VG .clear #[t] ty [.slice B l2.length cq]):=λW _ x S R=>by
 obtain⟨G,g,a,rfl,p,q,E,r,h,s⟩:=dt R (by rw[Lq];exact O);rw[Lq]at q h;have v:a.toList.length=cp*k:=by rw[S7,r]
 have y:(l1.length+l2.length)*k<=cp*k:=Lo _ q;rw[Rt]at y;have d:∀m:a8,m.take ((l1.length+l2.length)*k)=(l1++l2).flatMap c->m.take (l1.length*k)=l1.flatMap c:=λm E=>by
  have H:=Ly (List.take (l1.length*k)) E;rw[List.take_take,T4 (by rw[Rt];omega),U4,Tn (by rw[Q4 D];exact L8 _)]at H;rw[H,Rj (by rw[Q4 D];exact L8 _)]
 cases l:l2.length with
 | zero =>
  refine⟨(),S,W,by cases B<;>simp[VG,Builtin.clear_,run_underlying F],Trn.refl _ _,(show _/\_ from⟨ab _ G p x3 E D r (d _ h) s,⟨g,rfl⟩,l▸q⟩),λb f=>⟨.inl f,?_⟩⟩
  rw[(s b).1 f];exact p.lt
 | succ n =>
  rw[Q g rfl q x3];have I:(Builtin.zeroCells z.cells (n+1)).toList.length=(n+1)*k:=by simp[Builtin.zeroCells,M]
  rw[l]at y;have C:=Be (P:=P) (g:=g) (bt:=e) (o:=l1.length*k) (Builtin.zeroCells z.cells (n+1)).toList 0 W a p (by rw[I];omega) (λu J=>by
   simp only[Builtin.zeroCells,Ui,Ri]at J;obtain⟨i,_,rfl⟩:=J;have T:i % z.cells.size<z.cells.size:=Ra _ x3;rw[getElem!_pos z.cells (i % z.cells.size) T];exact N _ x6)
  simp only[Sw]at C;refine⟨(),S,Dm W g (l1.length*k) (Builtin.zeroCells z.cells (n+1)).toList,by simp[VG,Builtin.clear_,run_underlying F,L,C],GV ((s g).2 rfl) _ _,(show _/\_ from⟨ab ((spl a.toList (l1.length*k) (Builtin.zeroCells z.cells (n+1)).toList).toArray) G (Bx.setL _ _ (show Bx W g e a.toList.toArray from p)) x3 E D (by rw[Sa,Vs,v]) ?_ s,⟨g,rfl⟩,l▸q⟩),λb f=>⟨.inl f,?_⟩⟩
  ·show(spl a.toList (l1.length*k) _).take (l1.length*k)=_;rw[<- d _ h];apply List.ext_getElem?;intro j;by_cases K:j<l1.length*k
   ·rw[o4 K,o4 K,Do _ _ _ _ (by rw[v,I];omega),if_neg x3]
   ·rw[m1 (by rw[Lk];omega),m1 (by rw[Lk];omega)]
  ·rw[JY,(s b).1 f];exact p.lt
end
def i7:Res:=⟨λx S _=>x=.bool false/\∀b,¬ S b,λ_ _ _ h=>by rw[h.1];rfl,λ_ _ _ _ _ h=>h⟩
theorem eT:NB i7:=λ_ _ _ h b a=>absurd a (h.2 b)
section
variable {P:Program} {w0:World}
theorem ov{e m n t i o:Nat}{g:TI}{L a:LP}{A:u5}{cp:Nat}{v:z0}{vs:a8}(k:YH P t=some g)(l:v.cells.toList=vs)(q:vs.length=g.size)(c:i<n)(r:o+vs.length<=m)(s:∀u,u∈vs->u.oneCell'=true)(y:∀j,j<n->j≠i->∀S w cs,L.p j S w cs->a.p j S w cs)(d:∀S w cs,cs.length=m->L.p i S w cs->a.p i S w (spl cs o vs)):
  ∀W x S,(Qt e m n L A cp).φ x S W->G2 P W (λ_:Unit=>undef) (λ_:Unit=>Qt e m n a A cp) x S (Bf t [.pointer (some (Xi A (i*m+o))),v]):=λW x S z =>
 fi (R2:=i7) k l q c r s eT y (λf B C w cs D h _=>a.mono i f _ _ _ (λb E=>.inl E) (d f w cs D h)) W x S (show ∃f B C,_ from⟨S,λ_=>False,.bool false,z,⟨rfl,λ_ h=>h⟩,λ_ _ h=>h,λb=>⟨λh=>.inl h,λh=>h.elim id False.elim⟩⟩)
end
abbrev E6(e n:Nat)(f:Nat->Nat)(A:u5)(cp:Nat): Res:=Qt e 1 n (LP.known λj=>[.int .u8 ((f j:Nat):Int)]) A cp
section
variable {P:Program} {w0:World}
theorem uK{t e:u6}{z:z0}(l:P.underlying t=some (.slice e))(g:P.info? e=some i)(m:i.zero=some z)(o:i.size=1)(c:i.bytes=1)(d:z=.int .u8 0){n:Nat}(v:n<=1000000):
  FU P w0 [] (λy:Hp=>.slice y.1 n y.2) (λy:Hp=>E6 e n (λ_=>0) y.1 y.2) (Instr.makeSlice t (.int .i64 (n:Int)) (.int .i64 (n:Int))):=λW _=>by
 subst d;show O6 P W _ _ _;obtain⟨p,q,f,a⟩:=run_makeSlice_full (P:=P) W W.heap.size t e i _ 1 l g m o .i64 .i64 n x3 (by rw[c];omega) (by simp only[maxLen];omega) (L8 _);have r:(madeCells (Value.int .u8 0).cells (n*1)).toList=(List.range n).flatMap (λ_=>[Value.int .u8 ((0:Nat):Int)]):=by
  apply List.ext_getElem?;intro j;have e1:(List.range n).flatMap (λ_=>[Value.int .u8 ((0:Nat):Int)])=List.replicate n (.int .u8 0):=by
   rw[<- List.map_eq_flatMap,List.map_const',Sz];rfl
  rw[e1];by_cases s:j<n
  ·simp[madeCells,Value.cells,s,Uq]
  ·rw[m1 (by simp[madeCells];omega),m1 x7]
 rw[r]at f;refine⟨(some ⟨W.heap.size,0,none⟩,n),.bool false,λb=>(Value.slice (some ⟨W.heap.size,0,none⟩) n n).ownBlock=some b,p,q,⟨a.os,a.tape,a.output,a.size,λk u=>a.block k u x6⟩,(show _/\_ from⟨rfl,λ_=>[.int .u8 ((0:Nat):Int)],λ_=>False,λ_=>rfl,f.mono (La _),λi g=>rfl,λ_ h=>h.elim,λb=>⟨.inl,λh=>h.elim id False.elim⟩⟩),λb c=>f.lt b c⟩
theorem nH(P:u7)(e t n i x:Nat)(f g:Nat->Nat)(A:u5)(cp:Nat){c:TI}(l:YH P t=some c)(m:c.size=1)(a:i<n)(d:∀j,j<n->g j=if j=i then x else f j):
  ∀W k S,(E6 e n f A cp).φ k S W->G2 P W (λ_:Unit=>undef) (λ_:Unit=>E6 e n g A cp) k S (Bf t [.pointer (some (Xi A (i*1+0))),.int .u8 (x:Int)]) :=
 ov (vs:=[.int .u8 (x:Int)]) l rfl (by rw[m];rfl) a (L8 _) (by intro u o;rw[Re.1 o];rfl) (λj p b S w cs h=>by
  show cs=[Value.int .u8 ((g j:Nat):Int)];rw[show cs=[Value.int .u8 ((f j:Nat):Int)]from h,d j p,if_neg b]) λS w cs q h=>by
  show _=[Value.int .u8 ((g i:Nat):Int)];rw[show cs=[Value.int .u8 ((f i:Nat):Int)]from h,d i a,if_pos rfl];rfl
theorem nI(P:u7)(w0:y9)(src dst e e2:u6)(A:u5)(n cp:Nat)(f:Nat->Nat)(c:P.underlying src=some (.slice e))(d:P.underlying e=some (.int .u8))(h:P.underlying dst=some .string){s:u4}(i:s=⟨((List.range n).map λj=>UInt8.ofNat (f j)).toArray⟩): GC P w0 [E6 e2 n f A cp] (Go.convert src dst (.slice A n cp)) (.string s) :=
 ji λW v w l m=>λo a=>by
  have p:RdK W A n 1 (λj=>[.int .u8 ((f j:Nat):Int)]):=RdK.congr l λj b=>m j b
  have q:=RdK.below (k:=1) (f:=λj=>[.int .u8 ((f j:Nat):Int)]) (λ_=>rfl) p a;have r:Rd o A n (λj=>.int .u8 ((f j:Nat):Int)):=λt=>by
   obtain⟨g,off,e,u⟩:=q t;refine⟨g,off,e,λj b=>?_⟩;have:=u j b 0 x4;simpa using this
  rw[Dk (P:=P) src dst e c d h A n cp f r,i]
end
def B9(z:Int): a8:=[.int .i64 z]
theorem DW(z:Int): (B9 z).length=1:=rfl
theorem jo(z:Int)(u:z0)(h:u∈B9 z): u.oneCell'=true:=by
 obtain rfl:=Re.1 h;rfl
def I9(S:List Int): Int:=S.getD (S.length-1) 0
def IH(n:Nd)(S:List Int): List Int:=bif n.split==0 then S.take (S.length-1)else S.take (S.length-1)++[IntKind.i64.wrap (I9 S+1),IntKind.i64.wrap (I9 S+1)]
def YY(a:List Nd): Nat->List Int
 | 0=>[0]
 | k+1=>IH (Qw a k) (YY a k)
def MX(a:List Nd): Nat->Int
 | 0=>0
 | k+1=>bif (Qw a k).split==0 then IntKind.i64.wrap (MX a k+1)else MX a k
def NT(a:List Nd): Nat->Int
 | 0=>0
 | k+1=>max (NT a k) (I9 (YY a k))
theorem FO(a:List Nd): ∀k,(YY a k).length<=k+1
 | 0=>L8 _
 | k+1=>by
  have:=FO a k;show(IH (Qw a k) (YY a k)).length<=_;unfold IH;cases (Qw a k).split==0 with
  | true=>simp;omega
  | false=>simp;omega
def No(a:List Nd): Bool:=bif decide ((a.length:Int)>4096)then false else bif Ye a.length (λj=>(((YY a j).length:Nat):Int)==0)then false else(((YY a a.length).length:Nat):Int)==0
def lB(a:List Nd): z0:=.tuple #[.int .i64 (bif No a then MX a a.length else 0),.int .i64 (bif No a then NT a a.length else 0),.bool (No a)]
def Gj(η:Int)(a:List Nd): Bool:=bif (a.length:Int)==0 then true else bif No a then !Ye a.length (λj=>Zv η (Qw a j))else false
theorem lW{a:List Nd}{k:Nat}(h:((Qw a k).split==0)=true): YY a (k+1)=(YY a k).take ((YY a k).length-1):=by
 show IH _ _=_;unfold IH;rw[h];rfl
theorem lU{a:List Nd}{k:Nat}(h:((Qw a k).split==0)=false): YY a (k+1)=(YY a k).take ((YY a k).length-1)++[IntKind.i64.wrap (I9 (YY a k)+1),IntKind.i64.wrap (I9 (YY a k)+1)]:=by
 show IH _ _=_;unfold IH;rw[h];rfl
theorem yu{a:List Nd}{k:Nat}(h:((Qw a k).split==0)=true): MX a (k+1)=IntKind.i64.wrap (MX a k+1):=by
 show(bif _ then _ else _)=_;rw[h];rfl
theorem yt{a:List Nd}{k:Nat}(h:((Qw a k).split==0)=false): MX a (k+1)=MX a k:=by
 show(bif _ then _ else _)=_;rw[h];rfl
theorem Io{S:List Int}(h:(((S.length:Int))==0)=false): 0<S.length:=by
 have:=R7.1 h;omega
section
variable {P:Program} {w0:World}
theorem bp{α:Type}{t e k m:Nat}{u:Option Bool}{p:TI}(v:YH P t=some p)(z:p.k=.slice e k u)(B:k≠0){c:α->a8}(i:∀x,(c x).length=k){l:List α}{A:u5}{cp:Nat}(C:m<=l.length)(M:0<l.length):
  ∀W,Below w0.heap.size w0 W->∀x S,(Qc e k c l A cp).φ x S W->G2 P W (λy:Hp=>.slice y.1 (l.take m).length y.2) (λy:Hp=>Qc e k c (l.take m) y.1 y.2) x S (Instr.sliceAt t (.slice A l.length cp) none (some (.int .i64 (m:Int))) none):=λW _ x S D=>by
 obtain⟨E,q,r⟩:=(show _/\_/\_ from D)
 rcases q.2 with⟨e1,e2⟩|⟨g,cap,d,e1,F,G,N,H,I,j⟩
 ·omega
 injection e1 with e1 _ J
 subst e1;subst J;have a:(l.take m).length=m:=by rw[Lk];omega
 refine⟨(some ⟨g,0,none⟩,cp),S,W,?_,Trn.refl _ _,(show _/\_/\_ from⟨E,⟨?_,.inr ⟨g,cp,d,rfl,F,G,by rw[a];omega,H,I,?_⟩⟩,r⟩),λb f=>⟨.inl f,?_⟩⟩
 ·have h:=J0 P W g 0 l.length cp 0 m none (some (.int .i64 (m:Int))) v z B (.inl ⟨rfl,rfl⟩) (.inr ⟨.i64,rfl⟩) (La _) x3;rw[h,a];simp
 ·rw[Q4 i,a]
 ·rw[a];have K:m*k<=l.length*k:=Lo _ C;have s:((d.toList.take (l.length*k)).take (m*k))=(l.flatMap c).take (m*k):=by rw[j]
  rw[List.take_take,T4 K]at s;rw[s];have L:l.flatMap c=(l.take m).flatMap c++(l.drop m).flatMap c:=by rw[<- U4,List.take_append_drop]
  rw[L,Tn (by rw[Q4 i,a];exact L8 _),Rj (by rw[Q4 i,a];exact L8 _)]
 ·exact(q.lt b ((r b).1 f)).2
end
abbrev AK:Type:=Py×u5×Nat
def KC(x:AK): a8:=[.int .i64 x.1.vars,.slice x.2.1 x.1.ts.length x.2.2]
theorem Dj(x:AK): (KC x).length=2:=rfl
theorem dk(x:AK)(u:z0)(h:u∈KC x): u.oneCell'=true:=by
 simp only[KC,Ll,Rf,or_false]at h;rcases h with rfl|rfl<;>rfl
def Yf:AK:=(di,none,0)
section
variable {P:Program} {w0:World}
theorem Mk{α:Type}{c:α->a8}{k:Nat}(b:∀x,(c x).length=k)(d:0<k)(a:α)(n:Nat): (Builtin.zeroCells (c a).toArray n).toList=(List.replicate n a).flatMap c:=by
 have m:((List.replicate n a).flatMap c).length=n*k:=by rw[Q4 b,Sj]
 apply List.ext_getElem?;intro j;unfold Builtin.zeroCells;by_cases e:j<n*k
 ·have e1:j=j / k*k+j % k:=by rw[Ls];exact(T3 j k).symm
  have o:j / k<n:=(Lm d).2 e;have f:j % k<k:=Ra _ d;have g:=Z6 (c:=c) b (l:=List.replicate n a) (j:=j / k) (i:=j % k) (y8 o) f;rw[<- e1,List.getElem_replicate]at g;rw[g];have p:j<n*(c a).toArray.size:=by rw[Sa,b];exact e
  rw[Ui,List.getElem?_map];have q:(Array.range (n*(c a).toArray.size)).toList[j]?=some j:=by
   rw[Array.toList_range,List.getElem?_range p]
  rw[q];simp only[Tj,Sa,b];have h:j % k<(c a).length:=by rw[b];exact f
  rw[m0 h];simp[h]
 ·rw[m1 (by simp[b];omega),m1 (by rw[m];omega)]
theorem Fh{t u ty e:u6}{z:z0}(j:P.underlying t=some (.slice e))(k:P.underlying u=some (.int .i64))(l:P.info? e=some i)(m:i.zero=some z){n:Nat}(o:0<n)(p:0<i.size)(q:n<=4294967296)(x:n*i.bytes<=140737488355328)(w:y9):
  (Builtin.append_ #[t,u] ty #[.slice none 0 0,.int .i64 (n:Int)]).run P w=.ok (.slice (some ⟨w.heap.size,0,none⟩) n (grownCap w n 0 e)) (w.drew.alloc (.cells (Builtin.zeroCells z.cells n++Builtin.zeroCells z.cells (grownCap w n 0 e-n)) e)):=by
 have g:n≠0:=x3;have r:IntKind.i64.wrap (n:Int)=(n:Int):=Lg _ x3;have s:¬((n:Int)<0):=x3;have v:¬(281474976710656<(n:Int)*(i.bytes:Int)):=by
  have y:(n:Int)*(i.bytes:Int)=((n*i.bytes:Nat):Int):=x6;omega
 have a:¬(9223372036854775807<(n:Int)):=x3;have b:¬(281474976710656<Builtin.nextslicecap n 0*i.bytes):=by rw[nextslicecap_zero o];omega
 have c:i.size≠0:=x3;have d:¬((n:Int)<=0):=x3;have f:max (n:Int) 0=n:=x3;simp[Builtin.append_,run_underlying j,run_underlying k,sizeOf,typeInfo,zeroValue,l,m,Builtin.lenOf,Builtin.firstCells,g,s,v,a,b,c,r,asInt,asIntOf,f,d,Question.forced,newRow,grownCap];intro h;exact absurd ((Nat.mul_eq_zero.1 h).resolve_left g) c
theorem o8{α:Type}{t u ty e k bytes:Nat}{c:α->a8}(g:RowT P t t e k bytes)(s:P.underlying u=some (.int .i64))(a:∀x,(c x).length=k)(q:α)(v:∀i z,P.info? e=some i->i.zero=some z->z.cells=(c q).toArray){n:Nat}(w:0<n)(j:n<=4294967296)(l:n*bytes<=140737488355328):
  FU P w0 [] (λy:Hp=>.slice y.1 n y.2) (λy:Hp=>Qc e k c (List.replicate n q) y.1 y.2) (VG .append #[t,u] ty [.slice none 0 0,.int .i64 (n:Int)]):=λW _=>by
 obtain⟨m,z,e1,e2,A,B,C⟩:=g.info;have d:=v m z e1 e2;have r:=g.hk;have f:=Fh (P:=P) (ty:=ty) g.ht s e1 e2 w (by rw[A];exact r) j (by rw[B];exact l) W;have o:=grownCap_ge W n 0 e;have p:grownCap W n 0 e<=maxLen:=grownCap_le_maxLen W n 0 e (by simp only[maxLen];omega);show O6 P W _ _ _;refine⟨(some ⟨W.heap.size,0,none⟩,grownCap W n 0 e),.bool false,λb=>b=W.heap.size,_,f,((l3 _ W).drew).alloc (L8 _) _,(show _/\_/\_ from⟨rfl,⟨by rw[Q4 a],.inr ⟨W.heap.size,_,_,by rw[Sj],La _,heap_alloc_new W.drew _,by rw[Sj];exact o,p,?_,?_⟩⟩,λb=>⟨λh=>by rw[h];rfl,λh=>(hW h).symm⟩⟩),λb l=>?_⟩
 ·rw[d];simp only[Array.size_append,size_zeroCells,Sa,a,<- Rt];congr 1;omega
 ·rw[d,T1,Mk a r,Sj,Tn (by rw[Q4 a,Sj];exact L8 _),Rj (by rw[Q4 a,Sj];exact L8 _)]
 ·subst l;simp
end
theorem k9(i:TypeInfo)(z:z0)(b:prog.info? 52=some i)(c:i.zero=some z): z.cells=(KC Yf).toArray:=by
 have a:((prog.info? 52).bind λi=>i.zero).map (λz=>z.cells)=some (KC Yf).toArray:=x5;rw[b,Su,c,Tj]at a;exact hW a
def Av:Code->Code
 | .block _ b=>b
 | _=>.skip
def xt:Code->Nat
 | .block i _=>i
 | _=>0
def TZ:Code->Code
 | .loop b=>b
 | _=>.skip
def cdC:Code->b8
 | .cond c _ _=>c
 | _=>.tmp 0
def Vc:Code->Array Oper
 | .region _ o _=>o
 | _=>#[]
def aa:Code->Nat
 | .region i _ _=>i
 | _=>0
def zL(c:Code): Code:=Zj (TZ (Av c))
def zM(c:Code): b8:=cdC (Zj (QA (TZ (Av c))))
def z9(c:Code): Code:=Zj (QA (QA (TZ (Av c))))
def zK(c:Code): Code:=Zj (Av (z9 c))
def AP(c:Code): Code:=Zj (QA (Av (z9 c)))
def xd(c:Code): b8:=cdC (QA (QA (Av (z9 c))))
def xc(c:Code): Code:=QA (QA (QA (TZ (Av c))))
def m4(c:Code): Code:=.block (xt c) (.loop (.seq (zL c) (.seq (.cond (zM c) .skip (.exit (xt c))) (.seq (.block (xt (z9 c)) (.seq (zK c) (.seq (.region (aa (AP c)) (Vc (AP c)) false) (.cond (xd c) .ret .skip)))) (xc c)))))
def NJ(o:Oper): Option (b8×List b8):=match o.op,o.guard with
 | .call c,none=>(match c.callee with
  | .value f=>some (f,c.args.toList)
  | _=>none)
 | _,_=>none
def ZO(e:Ex)(p:Prop): Prop:=match e with
 | .normal=>p
 | _=>False
section
variable {P:Program} {tt:List (Nat×TI)} {w0:World}
theorem QaD{n:Nat}{a:Act}{w:y9}{next b:Act->y9->Prop}{Q:Exit->Act->y9->Prop}(i:Ij o=true)(g:∀a w,next a w->b a w)(h:o.wp P a w next Q): o.wpIn Fence.wide n P a w b Q:=by
 refine⟨λ_ _=>trivial,?_⟩;rw[Oper.semAt_eq _ _ _ (λc e=>by unfold Ij at i;rw[e]at i;cases i)];revert h;unfold Oper.wp;generalize (execOp a.eval o).run P w=r;intro h;cases r with
 | halt k w=>cases k<;>first|exact h|exact False.elim h
 | ok x w =>
  cases x with
  | value v=>exact g _ _ h
  | skip=>exact g _ _ h
  | defer d=>exact g _ _ h
  | enter f args =>
   refine⟨λh=>(by cases h),(callsIn_wide.2 (show Calls P f args w _ from h)).mono λe j h=>?_⟩;cases e with
   | returned v=>exact g _ _ h
   | panicked c=>exact h
   | outgrown=>exact h
  | row row args=>exact⟨λh=>(by cases h),λc cs _=>let ⟨v,j,r,s⟩:=(show Rows P row args w _ from h) c cs;⟨v,j,g _ _ r,stepsIn_wide.2 s⟩⟩
  | _=>exact False.elim h
theorem Ed(Q Q':Exit->Act->y9->Prop){n:Nat}{m2:List Oper}(g:¬ LetsOut Q')(i:∀c a w,¬ Q' (.panic c) a w)(j:∀a w,Q' .normal a w->wpListIn Fence.wide n P ops Q m2 a w): ∀ {m:List Oper} {a:Act} {w:y9},m.all Ij=true->wpList P ops Q' m a w->wpListIn Fence.wide n P ops Q (m++m2) a w
 | [],_,_,_,h=>j _ _ h
 | o::m,a,w,q,h=>by
  obtain⟨s,p⟩:=L6.1 (show(Ij o&&m.all Ij)=true from q);show wpListIn Fence.wide n P ops Q (o::(m++m2)) a w;unfold wpListIn;unfold wpList at h;split
  ·rename_i k;rw[if_pos k]at h;rcases h with h|h
   ·have d:=QaD (n:=n) s (λa w=>Ed Q _ g i j p) h;refine⟨d.1,?_⟩;revert d;rintro⟨_,d⟩;revert d;generalize (o.semAt Fence.wide.round a.eval).run P w=r;intro d;cases r with
    | halt u w=>cases u<;>first|exact absurd d (i _ _ _)|exact False.elim d
    | ok x w =>
     cases x with
     | enter f args =>
      refine⟨d.1,d.2.mono λe y h=>?_⟩;cases e with
      | returned v=>exact h
      | panicked c=>exact absurd h (i _ _ _)
      | outgrown=>exact absurd h g
     | round l f t a b =>
      refine⟨d.1,d.2.mono λe y h=>?_⟩;cases e with
      | returned v=>exact h
      | panicked c=>exact absurd h (i _ _ _)
      | outgrown=>exact absurd h g
     | _=>exact d
   ·exact absurd h.2 g
  ·rename_i k;rw[if_neg k]at h;exact⟨λ_ _=>trivial,Ed _ _ g i j p h⟩
theorem Sat.rebase{a:Act}{w:y9}(h:Sat w0 τ r a w)(e:τ.bs=[])(c:τ.rs=[])(V:y9): Sat V τ e0 a V:=by
 have d:Ag τ r e0:=⟨λi b=>by rw[e]at b;exact absurd b (R6 _),λi b=>by rw[c]at b;exact absurd b (R6 _)⟩
 refine⟨⟨l3 _ _,h.see.size,λk s g=>?_,λi t cs b=>?_,λi R b=>?_,λi b=>?_⟩,⟨λi p b=>?_,λi j p q b=>?_,λi R b=>?_,λi j R m b=>?_,λi j p R b=>?_⟩,h.defers⟩
 ·obtain⟨l,f⟩:=h.see.ts k s g;exact⟨by rw[d.den f];exact l,f⟩
 all_goals first|(rw[e]at b;cases b;done)|(rw[c]at b;cases b;done)|(rw[c]at b;exact absurd b (R6 _))
theorem Nz{f:b8}{l:Nat}{args:List b8}(b:NJ o=some (f,args)){a:Act}{vs:a8}(d:a.eval f=.func (.yield l) #[] #[])(e:args.map a.eval=vs)(W:y9):
  (execOp a.eval o).run P W=(Instr.yield l vs.toArray).run P W/\o.guard=none/\Ij o=true:=by
 unfold NJ at b;split at b
 ·rename_i c e1 e2;split at b
  ·rename_i h g;simp only[Option.some.injEq,Prod.mk.injEq]at b;obtain⟨rfl,rfl⟩:=b;refine⟨?_,e2,by unfold Ij;rw[e1]⟩;unfold execOp;rw[e1];simp only[resolve,g,d,Deferred.ofValue,p0,Sem.run_pure,p7,invoke];rw[JB _ _ _ e];simp
  ·cases b
 ·cases b
end
inductive Pg:Bool->(α:Type)->Pz α->Prop
 | rtn {b:Bool} {α:Type} (a:α):Pg b α (rtn a)
 | bnd {b:Bool} {α β:Type} {x:Pz α} {f:α->Pz β}:Pg b α x->(∀a,Pg b β (f a))->Pg b β (bnd x f)
 | line {b:Bool} (ws:List ByteArray):Pg b Int (Qq ws)
 | cnt {b:Bool} (m:Int):Pg b Int (QL m)
 | num {b:Bool}:Pg b Nm XP
 | vars {b:Bool}:Pg b Int TN
 | last:Pg true Unit EU
 | more {b:Bool} {α:Type} {x y:Pz α}:Pg b α x->Pg b α y->Pg b α (λs=>bif decide ((s.l.length:Int)>0)then x s else y s)
 | beg {α:Type} {x y:Pz α} (w:ByteArray):Pg true α x->Pg true α y->Pg true α (λs=>bif Vh w s then x s else y s)
theorem Bb{b c:Bool}{α:Type}{x y:Pz α}(a:Pg b α x)(d:Pg b α y): Pg b α (bif c then x else y):=by cases c<;>assumption
theorem OA{b:Bool}: ∀(n:Nat) (l:List Nm),Pg b _ (XQ n l)
 | 0,l=>.rtn l
 | n+1,_=>.bnd .num λ_=>OA n _
theorem cY{b:Bool}(m:Int): ∀(n:Nat) (l:List UInt8),Pg b _ (JR m n l)
 | 0,l=>.rtn l
 | n+1,_=>.bnd (.cnt m) λ_=>cY m n _
theorem Nc{b:Bool}(v:Nat): ∀(n:Nat) (l:List Tm),Pg b _ (VY v n l)
 | 0,l=>.rtn l
 | n+1,l=>.more (x:=bnd XP λa=>bnd (JR 127 v []) λm=>VY v n (l++[⟨⟨m.toArray⟩,a⟩])) (y:=rtn l) (.bnd .num λ_=>.bnd (cY _ _ _) λ_=>Nc v n _) (.rtn l)
theorem VR{b:Bool}(v:Int): Pg b _ (Qz v):=.bnd (Nc _ _ _) λ_=>.rtn _
theorem kG{b:Bool}(k:Nat): ∀(n:Nat) (l:List (List Nm)),Pg b _ (GS k n l)
 | 0,l=>.rtn l
 | n+1,_=>.bnd (OA _ _) λ_=>kG k n _
theorem kF{b:Bool}: ∀(n:Nat) (l:List (Nm×Nm)),Pg b _ (B6 n l)
 | 0,l=>.rtn l
 | n+1,_=>.bnd (OA _ _) λ_=>kF n _
theorem Oy{b:Bool}(k v:Int): Pg b _ (J7 k v):=.bnd (.line _) λ_=>Bb (.bnd (kG _ _ _) λ_=>.rtn _) (.bnd (kF _ _) λ_=>.rtn _)
theorem GP{b:Bool}(v:Int): ∀(f:Nat) (o:Int) (l:List Nd) (m:Bool),Pg b _ (XO v f o l m)
 | 0,_,_,_=>.rtn _
 | f+1,_,_,_=>Bb (.bnd (.line _) λ_=>Bb (GP v f _ _ _) (.bnd .num λ_=>.bnd (VR v) λ_=>GP v f _ _ _)) (.rtn _)
theorem GQ{b:Bool}(v:Int): ∀(f:Nat) (l:List Py) (m:Bool),Pg b _ (K7 v f l m)
 | 0,_,_=>.rtn _
 | f+1,_,_=>.bnd (.line _) λ_=>.bnd (VR v) λ_=>GQ v f _ _
theorem kH{b:Bool}(k:Int): Pg b _ (K1 k):=.bnd (.line _) λ_=>.bnd .num λ_=>.bnd (Bb (.bnd (.line _) λ_=>.num) (.rtn _)) λ_=>.bnd (.line _) λ_=>.bnd (.cnt _) λ_=>.rtn _
theorem BT(k:Int)(x:PV)(m:Bool): Pg true _ (GU k x m):=Bb (.bnd (GP _ _ _ _ _) λ_=>.bnd .last λ_=>.rtn _) (.bnd (kH _) λ_=>.bnd .last λ_=>.rtn _)
theorem Kf(k v:Int): ∀(f:Nat) (l:List Py) (m:Bool),Pg true _ (YC k v f l m)
 | 0,_,_=>.rtn _
 | f+1,_,_=>Bb (.beg _ (.bnd (.line _) λ_=>.bnd (VR v) λ_=>Kf k v f _ _) (.rtn _)) (.rtn _)
theorem c7:Pg true _ Q5:=.bnd (.line _) λ_=>.bnd .vars λ_=>.bnd (Oy _ _) λ_=>.bnd (GQ _ _ _ _) λ_=>.bnd (Kf _ _ _ _ _) λ_=>BT _ _ _
section
variable (d:Int)
def Fi(t:Tk): Tk:=⟨t.s,t.a+d⟩
def xa(n:Ln): Ln:=⟨n.l.map (Fi d),n.e+d⟩
def nk(s:FD): FD:=⟨s.ls.map (xa d),s.l.map (Fi d),s.ne+d,s.en+d⟩
def shO{α:Type}: Except Int (α×FD)->Except Int (α×FD)
 | .error z=>.error (z+d)
 | .ok (a,t)=>.ok (a,nk d t)
end
theorem tu(d:Int)(w:u4)(s:FD): Vh w (nk d s)=Vh w s:=by
 obtain⟨ls,l,ne,a⟩:=s;cases ls with
 | nil=>rfl
 | cons n r =>
  obtain⟨t,e⟩:=n;cases t<;>simp[Vh,nk,xa,Fi,Xj,Qf]
theorem yG(d:Int){b:Bool}{α:Type}{x:Pz α}(h:Pg b α x): ∀s,x (nk d s)=shO d (x s):=by
 induction h with
 | rtn a=>exact λs=>rfl
 | @bnd b α β x f _ _ c g =>
  intro s;unfold bnd;rw[c s];cases x s with
  | error z=>rfl
  | ok p=>exact g p.1 p.2
 | line j =>
  intro s;obtain⟨ls,l,ne,i⟩:=s;cases l with
  | cons t l=>rfl
  | nil =>
   cases ls with
   | nil=>rfl
   | cons n r =>
    obtain⟨l,e⟩:=n;cases l with
    | nil=>rfl
    | cons t l =>
     simp only[Qq,bnd,XK,Na,XN,MZ,rtn,nk,xa,Fi,List.map_nil,T9];cases decide (Lib.idxOfS j t.s>=0)&&!decide (t.s=⟨#[]⟩)<;>rfl
 | cnt m =>
  intro s;obtain⟨ls,l,ne,i⟩:=s;cases l with
  | nil=>rfl
  | cons t l =>
   simp only[QL,bnd,XN,MZ,rtn,nk,Fi,T9];cases F7 t.s
   ·rfl
   ·cases decide (Xf t.s<=m)<;>rfl
 | num =>
  intro s;obtain⟨ls,l,ne,i⟩:=s;cases l with
  | nil=>rfl
  | cons t l =>
   simp only[XP,bnd,XN,MZ,rtn,nk,Fi,T9];cases (ZJ t.s.data.toList).2.2==0<;>rfl
 | vars =>
  intro s;obtain⟨ls,l,ne,i⟩:=s;cases l with
  | nil=>rfl
  | cons t l =>
   simp only[TN,QL,bnd,XN,MZ,rtn,nk,Fi,T9,Qf,List.getD_cons_zero];cases F7 t.s
   ·rfl
   ·cases decide (Xf t.s<=99)
    ·rfl
    ·simp only[cond_true];cases decide (Xf t.s>0)<;>rfl
 | last =>
  intro s;obtain⟨ls,l,ne,i⟩:=s;cases l with
  | cons t l=>rfl
  | nil =>
   cases ls with
   | nil=>rfl
   | cons n r =>
    obtain⟨l,e⟩:=n;cases l<;>rfl
 | more _ _ c g =>
  intro s;have e:((nk d s).l.length:Int)=s.l.length:=by simp[nk]
  simp only[e];cases decide ((s.l.length:Int)>0)
  ·exact g s
  ·exact c s
 | beg w _ _ c g =>
  intro s;simp only[tu];cases Vh w s
  ·exact g s
  ·exact c s
def Wj(B:Int)(l:List Tk): Prop:=∀t,t∈l->B<=t.a
def Fa(B:Int)(l:List Ln): Prop:=∀n,n∈l->Wj B n.l/\B<=n.e
structure Far (B:Int) (s:FD):Prop where
 ls:Fa B s.ls
 l:Wj B s.l
 ne:B<=s.ne
 en:B<=s.en
def xe{α:Type}(B:Int): Except Int (α×FD)->Prop
 | .error z=>B<=z
 | .ok p=>Far B p.2
theorem V7{B:Int}{t:Tk}{l:List Tk}(h:Wj B (t::l)): B<=t.a/\Wj B l:=⟨h t x6,λu b=>h u (by simp[b])⟩
theorem NY{B:Int}{n:Ln}{l:List Ln}(h:Fa B (n::l)): (Wj B n.l/\B<=n.e)/\Fa B l:=⟨h n x6,λu a=>h u (by simp[a])⟩
def OpO{α:Type}(B:Int)(ls:List Ln): Except Int (α×FD)->Prop
 | .error z=>B<=z
 | .ok p=>Far B p.2/\ls≠[]
theorem Eb{B:Int}(a:List u4){ls:List Ln}{ne b:Int}(h:Fa B ls)(c:B<=b): OpO B ls (Qq a ⟨ls,[],ne,b⟩):=by
 cases ls with
 | nil=>exact c
 | cons n r =>
  obtain⟨l,e⟩:=n;obtain⟨⟨f,d⟩,g⟩:=NY h;cases l with
  | nil=>exact d
  | cons t l =>
   obtain⟨i,j⟩:=V7 f;simp only[Qq,bnd,XK,Na,XN,MZ,rtn];cases decide (Lib.idxOfS a t.s>=0)&&!decide (t.s=⟨#[]⟩)
   ·exact i
   ·exact⟨⟨g,j,d,c⟩,x6⟩
theorem Oz{B:Int}{b:Bool}{α:Type}{x:Pz α}(h:Pg b α x): ∀s,Far B s->xe B (x s):=by
 induction h with
 | rtn a=>exact λs h=>h
 | @bnd b α β x f _ _ d g =>
  intro s c;have:=d s c;unfold bnd;cases e:x s with
  | error z=>rw[e]at this;exact this
  | ok p=>rw[e]at this;exact g p.1 p.2 this
 | line o =>
  intro s c;obtain⟨ls,l,ne,k⟩:=s;cases l with
  | cons t l=>exact(V7 c.l).1
  | nil =>
   have:=Eb o (ne:=ne) c.ls c.en;cases e:Qq o ⟨ls,[],ne,k⟩with
   | error z=>rw[e]at this;exact this
   | ok p=>rw[e]at this;exact this.1
 | cnt m =>
  intro s c;obtain⟨ls,l,ne,k⟩:=s;cases l with
  | nil=>exact c.ne
  | cons t l =>
   obtain⟨i,j⟩:=V7 c.l;simp only[QL,bnd,XN,MZ,rtn];cases F7 t.s
   ·exact i
   ·cases decide (Xf t.s<=m)
    ·exact i
    ·exact⟨c.ls,j,c.ne,c.en⟩
 | num =>
  intro s c;obtain⟨ls,l,ne,k⟩:=s;cases l with
  | nil=>exact c.ne
  | cons t l =>
   obtain⟨i,j⟩:=V7 c.l;simp only[XP,bnd,XN,MZ,rtn];cases (ZJ t.s.data.toList).2.2==0
   ·exact i
   ·exact⟨c.ls,j,c.ne,c.en⟩
 | vars =>
  intro s c;obtain⟨ls,l,ne,k⟩:=s;cases l with
  | nil=>exact c.ne
  | cons t l =>
   obtain⟨i,j⟩:=V7 c.l;simp only[TN,QL,bnd,XN,MZ,rtn,Qf,List.getD_cons_zero];cases F7 t.s
   ·exact i
   ·cases decide (Xf t.s<=99)
    ·exact i
    ·simp only[cond_true];cases decide (Xf t.s>0)
     ·exact i
     ·exact⟨c.ls,j,c.ne,c.en⟩
 | last =>
  intro s c;obtain⟨ls,l,ne,k⟩:=s;cases l with
  | cons t l=>exact(V7 c.l).1
  | nil =>
   cases ls with
   | nil=>exact c
   | cons n r =>
    obtain⟨l,e⟩:=n;obtain⟨⟨i,j⟩,_⟩:=NY c.ls;cases l with
    | nil=>exact j
    | cons t l=>exact(V7 i).1
 | more _ _ d g =>
  intro s c;dsimp only;cases decide ((s.l.length:Int)>0)
  ·exact g s c
  ·exact d s c
 | beg w _ _ d g =>
  intro s c;dsimp only;cases Vh w s
  ·exact g s c
  ·exact d s c
section
variable (B:Int) (r1 r2:List Ln) (e1 e2:Int)
def zS(s t:FD): Prop:=∃pre l ne,s=⟨pre++r1,l,ne,e1⟩/\t=⟨pre++r2,l,ne,e2⟩
def gR{α:Type}(b a:Except Int (α×FD)): Prop:=match b with
 | .error z=>B<=z\/a=.error z
 | .ok p=>(Far B p.2/\r1≠[])\/∃G,a=.ok (p.1,G)/\zS r1 r2 e1 e2 p.2 G
def wP{α:Type}(x:Pz α): Prop:=∀s t,zS r1 r2 e1 e2 s t->gR B r1 r2 e1 e2 (x s) (x t)
end
section
variable {B:Int} {r1 r2:List Ln} {e1 e2:Int}
theorem qF{α β:Type}{x:Pz α}{f:α->Pz β}(g:wP B r1 r2 e1 e2 x)(i:∀a s,Far B s->xe B (f a s))(j:∀a,wP B r1 r2 e1 e2 (f a)): wP B r1 r2 e1 e2 (bnd x f):=λs t h=>by
 have b:=g s t h;unfold bnd;unfold gR at b;cases e:x s with
 | error z =>
  rw[e]at b;rcases b with b|b
  ·exact .inl b
  ·rw[b];exact .inr rfl
 | ok p =>
  rw[e]at b;rcases b with⟨b,d⟩|⟨G,b,d⟩
  ·have c:=i p.1 p.2 b;show gR B r1 r2 e1 e2 (f p.1 p.2) _;cases e2:f p.1 p.2 with
   | error z=>rw[e2]at c;exact .inl c
   | ok q=>rw[e2]at c;exact .inl ⟨c,d⟩
  ·rw[b];exact j p.1 p.2 G d
theorem II(b:Fa B r1)(c:B<=e1)(a:List u4): wP B r1 r2 e1 e2 (Qq a):=by
 rintro s t ⟨pre,l,ne,rfl,rfl⟩;cases l with
 | cons t l=>exact .inr rfl
 | nil =>
  cases pre with
  | nil =>
   have h:=Eb a (ne:=ne) b c;unfold gR;rw[U8];cases e:Qq a ⟨r1,[],ne,e1⟩with
   | error z=>rw[e]at h;exact .inl h
   | ok p=>rw[e]at h;exact .inl h
  | cons n pre =>
   obtain⟨l,e⟩:=n;cases l with
   | nil=>exact .inr rfl
   | cons t l =>
    simp only[Qq,bnd,XK,Na,XN,MZ,rtn,List.cons_append];cases decide (Lib.idxOfS a t.s>=0)&&!decide (t.s=⟨#[]⟩)
    ·exact .inr rfl
    ·exact .inr ⟨_,rfl,pre,l,e,rfl,rfl⟩
theorem Es(g:Fa B r1)(i:B<=e1){b:Bool}{α:Type}{x:Pz α}(h:Pg b α x)(f:b=false): wP B r1 r2 e1 e2 x:=by
 induction h with
 | rtn a=>exact λs t h=>.inr ⟨t,rfl,h⟩
 | bnd _ j c d=>exact qF (c f) (λa=>Oz (j a)) λa=>d a f
 | line k=>exact II g i k
 | cnt m =>
  rintro s t ⟨pre,l,ne,rfl,rfl⟩;cases l with
  | nil=>exact .inr rfl
  | cons t l =>
   simp only[QL,bnd,XN,MZ,rtn];cases F7 t.s
   ·exact .inr rfl
   ·cases decide (Xf t.s<=m)
    ·exact .inr rfl
    ·exact .inr ⟨_,rfl,pre,l,ne,rfl,rfl⟩
 | num =>
  rintro s t ⟨pre,l,ne,rfl,rfl⟩;cases l with
  | nil=>exact .inr rfl
  | cons t l =>
   simp only[XP,bnd,XN,MZ,rtn];cases (ZJ t.s.data.toList).2.2==0
   ·exact .inr rfl
   ·exact .inr ⟨_,rfl,pre,l,ne,rfl,rfl⟩
 | vars =>
  rintro s t ⟨pre,l,ne,rfl,rfl⟩;cases l with
  | nil=>exact .inr rfl
  | cons t l =>
   simp only[TN,QL,bnd,XN,MZ,rtn,Qf,List.getD_cons_zero];cases F7 t.s
   ·exact .inr rfl
   ·cases decide (Xf t.s<=99)
    ·exact .inr rfl
    ·simp only[cond_true];cases decide (Xf t.s>0)
     ·exact .inr rfl
     ·exact .inr ⟨_,rfl,pre,l,ne,rfl,rfl⟩
 | more _ _ c d =>
  intro s t h;have e:s.l=t.l:=by obtain⟨_,_,_,rfl,rfl⟩:=h;rfl
  simp only[e];cases decide ((t.l.length:Int)>0)
  ·exact d f s t h
  ·exact c f s t h
 | last=>cases f
 | beg=>cases f
def th{α:Type}(B:Int)(r1 r2:List Ln)(y:Except Int (α×FD)): Except Int (α×FD)->Prop
 | .error z=>B<=z\/y=.error z
 | .ok p=>r1=[]->r2=[]->∃G,y=.ok (p.1,G)
def Qaw(B:Int)(r1 r2:List Ln)(e1 e2:Int){α:Type}(x:Pz α): Prop:=∀s t,zS r1 r2 e1 e2 s t->th B r1 r2 (x t) (x s)
theorem V9{α β:Type}{x:Pz α}{f:α->Pz β}(g:wP B r1 r2 e1 e2 x)(i:∀a,Pg true β (f a))(j:∀a,Qaw B r1 r2 e1 e2 (f a)): Qaw B r1 r2 e1 e2 (bnd x f):=λs t h=>by
 have b:=g s t h;unfold bnd;unfold gR at b;cases e:x s with
 | error z =>
  rw[e]at b;rcases b with b|b
  ·exact .inl b
  ·rw[b];exact .inr rfl
 | ok p =>
  rw[e]at b;rcases b with⟨b,c⟩|⟨G,b,c⟩
  ·have d:=Oz (i p.1) p.2 b;show th B r1 r2 _ (f p.1 p.2);cases e2:f p.1 p.2 with
   | error z=>rw[e2]at d;exact .inl d
   | ok q=>exact λk=>absurd k c
  ·rw[b];exact j p.1 p.2 G c
theorem PM(b:Fa B r1){α:Type}(a:α): Qaw B r1 r2 e1 e2 (bnd EU λ_=>rtn a):=by
 rintro s t ⟨pre,l,ne,rfl,rfl⟩;cases l with
 | cons t l=>exact .inr rfl
 | nil =>
  cases pre with
  | cons n r =>
   obtain⟨l,e⟩:=n;cases l<;>exact .inr rfl
  | nil =>
   cases r1 with
   | nil=>intro _ h;subst h;exact⟨_,rfl⟩
   | cons n r =>
    obtain⟨l,e⟩:=n;obtain⟨⟨c,d⟩,_⟩:=NY b;cases l with
    | nil=>exact .inl d
    | cons t l=>exact .inl (V7 c).1
end
structure Hdl {α:Type} (x:Pz α):Prop where
 cl:∀(ls:List Ln) (t:Tk) (l:List Tk) (ne en:Int),x ⟨ls,t::l,ne,en⟩=.error t.a
 aw:∀(B:Int) (ls:List Ln) (ne en:Int),Fa B ls->B<=en->OpO B ls (x ⟨ls,[],ne,en⟩)
theorem Hy(a:List u4): Hdl (Qq a):=⟨λ_ _ _ _ _=>rfl,λ_ _ ne _ h b=>Eb a (ne:=ne) h b⟩
theorem BC{α β:Type}{x:Pz α}{f:α->Pz β}(g:Hdl x)(i:∀a,Pg true β (f a)): Hdl (bnd x f):=⟨λls t l ne c=>Q3 (g.cl ls t l ne c),λB ls ne c h j=>by
 have b:=g.aw B ls ne c h j;unfold bnd;cases e:x ⟨ls,[],ne,c⟩with
 | error z=>rw[e]at b;exact b
 | ok p =>
  rw[e]at b;have d:=Oz (i p.1) p.2 b.1;show OpO B ls (f p.1 p.2);cases e2:f p.1 p.2 with
  | error z=>rw[e2]at d;exact d
  | ok q=>rw[e2]at d;exact⟨d,b.2⟩⟩
theorem jn(k:Int)(x:PV)(m:Bool): Hdl (GU k x m):=by
 unfold GU;cases k==6
 ·exact BC (BC (Hy _) λ_=>.bnd .num λ_=>.bnd (Bb (.bnd (.line _) λ_=>.num) (.rtn _)) λ_=>.bnd (.line _) λ_=>.bnd (.cnt _) λ_=>.rtn _) λ_=>.bnd .last λ_=>.rtn _
 ·exact BC (show Hdl (XO (kk x.box x.κ) (69999+1) 1 [] m)from BC (Hy _) λ_=>Bb (GP _ _ _ _ _) (.bnd .num λ_=>.bnd (VR _) λ_=>GP _ _ _ _ _)) λ_=>.bnd .last λ_=>.rtn _
theorem aO{α β γ:Type}(x:Pz α)(f:α->Pz β)(g:β->Pz γ): bnd (bnd x f) g=bnd x λa=>bnd (f a) g:=by
 funext s;unfold bnd;cases x s<;>rfl
theorem Fo{α β:Type}(c:FD->Bool)(x y:Pz α)(g:α->Pz β)(s:FD): bnd (λs=>bif c s then x s else y s) g s=bif c s then bnd x g s else bnd y g s:=by
 unfold bnd;dsimp only;cases c s<;>rfl
section
variable {α:Type} {g:List Py×Bool->Pz α} (k v:Int)
theorem fk(b:∀r,Hdl (g r))(e:∀r,Pg true _ (g r))(f:Nat)(l:List Py)(m:Bool): Hdl (bnd (YC k v f l m) g):=by
 cases f with
 | zero=>exact b (l,m)
 | succ f =>
  unfold YC;cases k==4
  ·exact b (l,m)
  ·have c:Hdl (bnd (bnd (Qq [XJ]) λ_=>bnd (Qz v) λp=>YC k v f (l++[p.1]) (m||p.2)) g):=BC (BC (Hy _) λ_=>.bnd (VR v) λ_=>Kf k v f _ _) e;refine⟨λls t r ne a=>?_,λB ls ne a h d=>?_⟩
   ·rw[cond_true,Fo (Vh XJ)];cases Vh XJ _
    ·exact(b (l,m)).cl ls t r ne a
    ·exact c.cl ls t r ne a
   ·rw[cond_true,Fo (Vh XJ)];cases Vh XJ _
    ·exact(b (l,m)).aw B ls ne a h d
    ·exact c.aw B ls ne a h d
theorem MG{B:Int}{r1 r2:List Ln}{e1 e2:Int}(c:Fa B r1)(d:B<=e1)(q:∀r,Hdl (g r))(h:∀r,Pg true _ (g r))(i:∀r,Qaw B r1 r2 e1 e2 (g r)): ∀(f:Nat) (l:List Py) (m:Bool),Qaw B r1 r2 e1 e2 (bnd (YC k v f l m) g)
 | 0,l,m=>i (l,m)
 | f+1,l,m=>by
  rintro s t ⟨pre,b,ne,rfl,rfl⟩;have o:=fk k v q h (f+1) l m;cases pre with
  | nil =>
   cases b with
   | cons t b=>rw[o.cl,o.cl];exact .inr rfl
   | nil =>
    have j:=o.aw B r1 ne e1 c d;show th B r1 r2 _ (bnd (YC k v (f+1) l m) g ⟨r1,[],ne,e1⟩);cases e:bnd (YC k v (f+1) l m) g ⟨r1,[],ne,e1⟩with
    | error z=>rw[e]at j;exact .inl j
    | ok p=>rw[e]at j;exact λw=>absurd w j.2
  | cons n pre =>
   unfold YC;cases k==4
   ·exact i (l,m) _ _ ⟨n::pre,b,ne,rfl,rfl⟩
   ·have u:∀r e,Vh XJ ⟨n::pre++r,b,ne,e⟩=decide ((Qf n.l 0).s=XJ):=λr e=>by
     unfold Vh;rw[show decide ((((n::pre++r).length:Nat):Int)>0)=true from Lz x7];rfl
    have e:(bnd (bnd (Qq [XJ]) λ_=>bnd (Qz v) λp=>YC k v f (l++[p.1]) (m||p.2)) g)=bnd (Qq [XJ]) λ_=>bnd (Qz v) λp=>bnd (YC k v f (l++[p.1]) (m||p.2)) g:=by
     rw[aO];congr 1;funext a;rw[aO]
    rw[cond_true,Fo (Vh XJ),Fo (Vh XJ),u,u,e];cases decide ((Qf n.l 0).s=XJ)
    ·exact i (l,m) _ _ ⟨n::pre,b,ne,rfl,rfl⟩
    ·exact V9 (II c d _) (λ_=>.bnd (VR v) λ_=>.bnd (Kf k v f _ _) λ_=>h _) (λ_=>V9 (Es c d (VR v) rfl) (λ_=>.bnd (Kf k v f _ _) λ_=>h _) λp=>MG c d q h i f _ _) _ _ ⟨n::pre,b,ne,rfl,rfl⟩
end
theorem Hn(B:Int)(r1 r2:List Ln)(e1 e2:Int)(a:Fa B r1)(b:B<=e1): Qaw B r1 r2 e1 e2 Q5 :=
 V9 (II a b _) (λ_=>.bnd .vars λ_=>.bnd (Oy _ _) λ_=>.bnd (GQ _ _ _ _) λ_=>.bnd (Kf _ _ _ _ _) λ_=>BT _ _ _) λk =>
 V9 (Es a b .vars rfl) (λ_=>.bnd (Oy _ _) λ_=>.bnd (GQ _ _ _ _) λ_=>.bnd (Kf _ _ _ _ _) λ_=>BT _ _ _) λv =>
 V9 (Es a b (Oy k v) rfl) (λ_=>.bnd (GQ _ _ _ _) λ_=>.bnd (Kf _ _ _ _ _) λ_=>BT _ _ _) λd =>
 V9 (Es a b (GQ v _ _ _) rfl) (λ_=>.bnd (Kf _ _ _ _ _) λ_=>BT _ _ _) λp =>
 MG k v a b (λr=>jn _ _ _) (λr=>BT _ _ _) (λr=>by
  unfold GU;cases k==6
  ·exact V9 (Es a b (kH k) rfl) (λ_=>.bnd .last λ_=>.rtn _) λ_=>PM a _
  ·exact V9 (Es a b (GP _ _ _ _ _) rfl) (λ_=>.bnd .last λ_=>.rtn _) λ_=>PM a _) _ _ _
def zY(d:Int)(a:List Tk×Option Nat): List Tk×Option Nat:=(a.1.map (Fi d),a.2)
theorem bu(s:List UInt8)(a d:Int)(k:Nat)(b:List Tk×Option Nat): B8 s (a+d) k (zY d b)=zY d (B8 s a k b):=by
 obtain⟨l,o⟩:=b;cases o with
 | none=>rfl
 | some i=>simp[B8,zY,Fi];omega
theorem TE(s:List UInt8)(a d:Int): ∀k,Qd s (a+d) k=zY d (Qd s a k)
 | 0=>rfl
 | k+1=>by
  unfold Qd KX;rw[TE s a d k,bu];cases Jk (s.getD k 0)
  ·generalize Qd s a k=b;obtain⟨l,o⟩:=b;cases o<;>rfl
  ·rfl
theorem rp(s:List UInt8)(a d:Int): Y5 s (a+d)=(Y5 s a).map (Fi d):=by
 unfold Y5;rw[TE,bu];rfl
theorem oI(d:Int)(l:List Tk): Kb (l.map (Fi d))=Kb l:=by
 unfold Kb;cases l<;>simp[Qf,Fi]
theorem PX(d:Int): ∀(l:List (List UInt8)) (a:Int),Qj l (a+d)=(Qj l a).map (xa d)
 | [],_=>rfl
 | x::l,a=>by
  unfold Qj;rw[rp,oI,show a+d+(x.length:Int)+1=a+(x.length:Int)+1+d by omega,PX d l];cases Kb (Y5 x a)
  ·rfl
  ·simp only[cond_true,T9,xa];rw[show a+d+(x.length:Int)=a+(x.length:Int)+d by omega]
theorem SQ(s:List UInt8): Qg s≠[]:=by
 cases s with
 | nil=>simp[Qg]
 | cons c r =>
  unfold Qg;cases c==10
  ·rw[cond_false];split<;>simp
  ·simp
theorem KE(b:List UInt8): ∀a:List UInt8,Qg (a++10::b)=Qg a++Qg b
 | []=>rfl
 | c::a=>by
  rw[List.cons_append];rw[Qg,Qg,KE b a];cases c==10
  ·have:=SQ a;cases e:Qg a with
   | nil=>exact absurd e this
   | cons l m=>rfl
  ·rfl
theorem EC:∀ {a:List UInt8},(∀c,c∈a->c≠10)->Qg a=[a]
 | [],_=>rfl
 | c::a,h=>by
  unfold Qg;rw[EC (a:=a) λx b=>h x (by simp[b]),show(c==10)=false from R7.2 (h c x6)];rfl
theorem BI(y:List (List UInt8)): ∀(x:List (List UInt8)) (a:Int),Qj (x++y) a=Qj x a++Qj y (a+((x.map λl=>l.length+1).sum:Nat))
 | [],a=>by simp[Qj]
 | l::x,a=>by
  rw[List.cons_append,Qj,Qj,BI y x];simp only[T9,List.sum_cons];rw[show a+(l.length:Int)+1+((x.map λl=>l.length+1).sum:Nat)=a+((l.length+1+(x.map λl=>l.length+1).sum:Nat):Int)by omega];cases Kb (Y5 l a)<;>rfl
theorem EB:∀a:List UInt8,((Qg a).map λl=>l.length+1).sum=a.length+1
 | []=>rfl
 | c::a=>by
  unfold Qg;have:=EB a;cases c==10
  ·have b:=SQ a;cases e:Qg a with
   | nil=>exact absurd e b
   | cons l m=>rw[e]at this;simp at this ⊢;omega
  ·simp at this ⊢;omega
theorem Cm(a:List UInt8)(y:List (List UInt8))(z:Int): Qj (Qg a++y) z=Qj (Qg a) z++Qj y (z+(a.length:Int)+1):=by
 rw[BI,EB];congr 2;omega
theorem Nw(s:List UInt8)(a:Int): ∀k,Wj a (Qd s a k).1
 | 0=>λt h=>nomatch h
 | k+1=>by
  have:=Nw s a k;unfold Qd KX;generalize Qd s a k=b at this;obtain⟨l,o⟩:=b;cases Jk (s.getD k 0)<;>cases o<;>simp[B8]<;>try exact this
  intro t c;rcases Rs.1 c with h|h
  ·exact this t h
  ·simp at h;subst h;show a<=a+_;omega
theorem mz(s:List UInt8)(a:Int): Wj a (Y5 s a):=by
 unfold Y5;have:=Nw s a s.length;generalize Qd s a s.length=b at this;obtain⟨l,o⟩:=b;cases o with
 | none=>exact this
 | some i =>
  intro t c;rcases Rs.1 c with h|h
  ·exact this t h
  ·simp at h;subst h;show a<=a+_;omega
theorem Ec:∀(l:List (List UInt8)) {b a:Int},b<=a->Fa b (Qj l a)
 | [],_,_,_=>λ_ h=>nomatch h
 | x::l,b,a,h=>by
  unfold Qj;have d:=Ec l (b:=b) (a:=a+(x.length:Int)+1) x3;cases Kb (Y5 x a)
  ·exact d
  ·intro n c;rcases Ll.1 c with rfl|c
   ·exact⟨λt e=>Int.le_trans h (mz x a t e),by show b<=a+_;omega⟩
   ·exact d n c
theorem jm(w:List UInt8)(a:Int): ∀k,∃l o,Qd (35::32::w) a (k+2)=(⟨⟨#[35]⟩,a+((0:Nat):Int)⟩::l,o)
 | 0=>⟨_,_,rfl⟩
 | k+1=>by
  obtain⟨l,o,h⟩:=jm w a k;show ∃l o,KX _ a (k+2) (Qd _ a (k+2))=_;rw[h];unfold KX;cases Jk ((35::32::w).getD (k+2) 0)<;>cases o<;>exact⟨_,_,rfl⟩
theorem bH(w:List UInt8)(a:Int): Kb (Y5 (35::32::w) a)=false:=by
 unfold Y5;obtain⟨l,o,h⟩:=jm w a w.length;rw[show(35::32::w:List UInt8).length=w.length+2 from rfl,h];have b:((bt (⟨#[35]⟩:u4) 0:Int) != 35)=false:=x4;cases o<;>simp[B8,Kb,Qf,b]
def YL(w:List UInt8): List UInt8:=35::32::w++[10,32,9,10]
theorem PL{w:List UInt8}(b:∀c,c∈w->c≠10): Qg (YL w)=[35::32::w,[32,9],[]]:=by
 unfold YL;rw[show(35::32::w++[10,32,9,10]:List UInt8)=(35::32::w)++10::[32,9,10]from rfl,KE,EC λc a=>by
  rcases Ll.1 a with rfl|a
  ·decide
  ·rcases Ll.1 a with rfl|a
   ·decide
   ·exact b c a]
 rfl
theorem PK{w:List UInt8}(b:∀c,c∈w->c≠10)(a:Int): Qj (Qg (YL w)) a=[]:=by
 rw[PL b];unfold Qj;rw[bH];rfl
theorem PJ{w:List UInt8}(b:∀c,c∈w->c≠10)(s:List UInt8): Qj (Qg (YL w++s)) 0=(Qj (Qg s) 0).map (xa (YL w).length):=by
 have d:YL w++s=(35::32::w++[10,32,9])++10::s:=by simp[YL]
 have e:Qg (35::32::w++[10,32,9])=[35::32::w,[32,9]]:=by
  rw[show(35::32::w++[10,32,9]:List UInt8)=(35::32::w)++10::[32,9]from rfl,KE,EC λc a=>by
   rcases Ll.1 a with rfl|a
   ·decide
   ·rcases Ll.1 a with rfl|a
    ·decide
    ·exact b c a]
  rfl
 rw[d,KE,Cm,e];have f:Qj [35::32::w,[32,9]] 0=[]:=by
  unfold Qj;rw[bH];rfl
 rw[f,U8,<- PX];congr 1;simp[YL];omega
theorem qe(ls:List Ln)(ne a b:Int): Q5 ⟨ls,[],ne,b⟩=Q5 ⟨ls,[],a,b⟩:=by
 unfold Q5;rw[show Qq X0=Qq X0 from rfl];have h:Qq X0 ⟨ls,[],ne,b⟩=Qq X0 ⟨ls,[],a,b⟩:=by cases ls<;>rfl
 show bnd _ _ _=bnd _ _ _;unfold bnd;rw[h]
theorem WT{w:List UInt8}(a:∀c,c∈w->c≠10)(s:List UInt8): Q5 (Ze (YL w++s))=shO (YL w).length (Q5 (Ze s)):=by
 rw[<- yG _ c7];unfold Ze;rw[PJ a];refine(qe _ _ (0+((YL w).length:Int)) _).trans ?_
 show Q5 _=Q5 ⟨_,_,_,_⟩;congr 2;simp;omega
theorem SA{w:List UInt8}(g:∀c,c∈w->c≠10)(s:List UInt8): match Q5 (Ze s)with
  | .error z=>∃b,Q5 (Ze (s++10::YL w))=.error b/\(z<s.length->b=z)
  | .ok p=>∃G,Q5 (Ze (s++10::YL w))=.ok (p.1,G):=by
 have i:Ze (s++10::YL w)=⟨Qj (Qg s) 0,[],0,((s++10::YL w).length:Int)⟩:=by
  unfold Ze;rw[KE,Cm,PK g,Tc]
 have f:∀e1 e2,zS [] [] e1 e2 ⟨Qj (Qg s) 0,[],0,e1⟩ ⟨Qj (Qg s) 0,[],0,e2⟩:=λe1 e2=>⟨Qj (Qg s) 0,[],0,by rw[Tc],by rw[Tc]⟩
 have a:=Hn s.length ([]) ([]) s.length ((s++10::YL w).length:Int) (λ_ h=>nomatch h) (Tw _) _ _ (f _ _);have d:=Hn 0 ([]) ([]) ((s++10::YL w).length:Int) s.length (λ_ h=>nomatch h) x3 _ _ (f _ _);rw[i];rw[show(⟨Qj (Qg s) 0,[],0,(s.length:Int)⟩:FD)=Ze s from rfl]at a d;cases e:Q5 (Ze s)with
 | error z =>
  rw[e]at a d;cases e2:Q5 ⟨Qj (Qg s) 0,[],0,((s++10::YL w).length:Int)⟩with
  | error b =>
   refine⟨b,rfl,λk=>?_⟩;rcases a with a|a
   ·omega
   ·rw[e2]at a;injection a
  | ok p =>
   rw[e2]at d;obtain⟨G,j⟩:=d rfl rfl;cases j
 | ok p =>
  rw[e]at a;exact a rfl rfl
theorem kQ{s a b:List UInt8}(more:List UInt8)(d:s=a++b)(f:b=[]\/∃r,b=10::r){z:Int}(h:Q5 (Ze s)=.error z)(k:z<a.length): Q5 (Ze (a++10::more))=.error z:=by
 have g:Ze (a++10::more)=⟨Qj (Qg a) 0++Qj (Qg more) (0+(a.length:Int)+1),[],0,((a++10::more).length:Int)⟩:=by
  unfold Ze;rw[KE,Cm]
 obtain⟨r1,i,e⟩:∃r1,Fa (a.length:Int) r1/\Qj (Qg s) 0=Qj (Qg a) 0++r1:=by
  rcases f with rfl|⟨r,rfl⟩
  ·exact⟨[],(λ_ h=>nomatch h),by rw[d];simp⟩
  ·refine⟨Qj (Qg r) (0+(a.length:Int)+1),Ec _ x3,?_⟩;rw[d,KE,Cm]
 have j:(a.length:Int)<=s.length:=by rw[d,Lq];omega
 have c:=Hn a.length r1 (Qj (Qg more) (0+(a.length:Int)+1)) s.length ((a++10::more).length:Int) i j (Ze s) (Ze (a++10::more)) ⟨Qj (Qg a) 0,[],0,by unfold Ze;rw[e],g⟩;rw[h]at c;rcases c with c|c
 ·omega
 ·exact c
theorem SB{s:List UInt8}{z:Int}(h:Q5 (Ze s)=.error z): 0<=z:=by
 have:=Oz (B:=0) c7 (Ze s) ⟨Ec _ (Tw _),(λ_ h=>nomatch h),Tw _,by show(0:Int)<=s.length;omega⟩;rw[h]at this;exact this
