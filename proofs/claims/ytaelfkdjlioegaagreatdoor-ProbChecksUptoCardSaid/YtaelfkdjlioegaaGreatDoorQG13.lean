/- The walks and plain laws beneath the statements. -/
import Derived.Test.YtaelfkdjlioegaaGreatDoorQG3
import Derived.RangeFuncNested
import Derived.RangeFuncBound
import Derived.RangeFuncCalls
import Derived.RangeFuncLeaves
import Derived.OrdersIn
namespace Go.Proofs.YtaelfkdjlioegaaGreatDoor
open Go Go.RowKit
variable{o:Oper}{a a':Act}{ops:Array Oper}{md:Region.Mode}{α β:Type}{c b:Code}{R:Res}{p:Prop}{σ τ:St}{r r':Env}{lb:Array Value}{fn:Func}{v:Value}{f:FuncId}{E:Code→St→Prop}{tl:Option Code}
def Hl(o:Oper): Bool:=match o.op with
 | .defer _=>false
 | _=>true
def EM:Code→Bool
 | .skip=>true
 | .region _ ops _=>ops.toList.all Hl
 | .seq a b=>EM a&&EM b
 | .cond _ a b=>EM a&&EM b
 | .block _ b=>EM b
 | .loop b=>EM b
 | .exit _=>true
 | .label _=>true
 | .ret=>true
 | _=>false
section
variable {P:Program} {l n:Nat}
theorem ir{row:String}{args:Array Value}{w:World}{R:Value→World→Prop}(h:Rows P row args w R): RowsIn (Fence.wide.inRound l) n P row args w R :=
 fun c cs _=>let ⟨v,w',r,s⟩:=h c cs;⟨v,w',r,stepsIn_wide.2 s⟩
theorem fJ{next next':Act→World→Prop}{Q:Exit→Act→World→Prop}(hn:∀a w,next a w→next' a w)(r:Result Next)(h:o.upon P a next Q r): o.uponIn (Fence.wide.inRound l) n P a next' Q r:=by
 cases r with
 | halt h0 w=>cases h0<;>first|exact h|exact False.elim h
 | ok x w =>
  cases x with
  | value v=>exact hn _ _ h
  | skip=>exact hn _ _ h
  | defer d=>exact hn _ _ h
  | enter f args =>
   refine⟨fun h=>(by cases h),(CallsIn.inRound l (callsIn_wide.2 (show Calls P f args w _ from h))).mono fun e w' h=>?_⟩
   cases e with
   | returned v=>exact hn _ _ h
   | panicked c=>exact h
   | outgrown=>exact h
  | row row args=>exact⟨fun h=>(by cases h),(ir (show Rows P row args w _ from h)).mono fun v w' h=>hn _ _ h⟩
  | _=>exact False.elim h
theorem jA{w:World}{next next':Act→World→Prop}{Q:Exit→Act→World→Prop}(ho:Hl o=true)(hn:∀a w,next a w→next' a w)(h:o.wp P a w next Q): o.wpIn (Fence.wide.inRound l) n P a w next' Q:=by
 refine⟨fun _ _=>trivial,?_⟩
 rw[Oper.semAt_eq _ _ _ (fun c e=>by unfold Hl at ho;rw[e]at ho;cases ho)]
 exact fJ hn _ h
theorem Hn{Q:Exit→Act→World→Prop}(hQ:¬ LetsOut Q): ∀ {m:List Oper} {a:Act} {w:World},m.all Hl=true→wpList P ops Q m a w→wpListIn (Fence.wide.inRound l) n P ops Q m a w
 | [],_,_,_,h=>h
 | o::m,a,w,hm,h=>by
  obtain⟨h1,h2⟩:=L6.1 (show(Hl o&&m.all Hl)=true from hm)
  unfold wpListIn
  unfold wpList at h
  split
  ·rename_i hw
   rw[if_pos hw]at h
   rcases h with h|h
   ·exact jA h1 (fun a w=>Hn hQ h2) h
   ·exact absurd h.2 hQ
  ·rename_i hw
   rw[if_neg hw]at h
   exact⟨fun _ _=>trivial,Hn hQ h2 h⟩
theorem Hz{Q:Exit→Act→World→Prop}(hQ:¬ LetsOut Q)(ho:ops.toList.all Hl=true): ∀(fuel:Nat) (listed:Array Bool) (a:Act) (w:World),wpAny P md ops Q fuel listed a w→wpAnyIn (Fence.wide.inRound l) n P md ops Q fuel listed a w
 | 0,_,_,_,h=>h
 | fuel+1,listed,a,w,h=>by
  refine⟨h.1,fun i hi=>?_⟩
  have h1:=h.2 i hi
  unfold wpOp at h1
  unfold wpOpIn
  split
  ·rename_i e
   rw[e]at h1
   exact Hz hQ ho fuel _ _ _ h1
  ·rename_i o e
   rw[e]at h1
   dsimp only at h1
   have hno:Hl o=true:=Ls.1 ho o (by
    obtain⟨hl,rfl⟩:=Array.getElem?_eq_some_iff.1 e
    exact Array.getElem_mem_toList hl)
   split
   ·rename_i hw
    rw[if_pos hw]at h1
    rcases h1 with h1|h1
    ·exact jA hno (fun a w=>Hz hQ ho fuel _ a w) h1
    ·exact absurd h1.2 hQ
   ·rename_i hw
    rw[if_neg hw]at h1
    exact⟨fun _ _=>trivial,Hz hQ ho fuel _ _ _ h1⟩
theorem GV{F:Fence}{Q:Exit→Act→World→Prop}(J:α→Act→World→Prop)(μ:α→Nat)(round:∀x a w,J x a w→c.wpIn F n P (Exit.then (fun a' w'=>∃y,J y a' w'∧μ y<μ x) Q) a w)(x0:α){w:World}(h0:J x0 a w): (Code.loop c).wpIn F n P Q a w:=by
 intro b k cs hro hb hr
 have key:∀j x a w,μ x=j→J x a w→∃e a' w',Q e a' w'∧ArrivesIn (Machine.fenced P F) P (lone (b.atR a (.code c::.inLoop c::k)) cs w) b k cs e a' w':=by
  intro j
  induction j using Nat.strongRecOn with
  | _ j ih =>
   intro x a w hn hI
   obtain⟨e,a₁,w₁,hq,harr⟩:=round x a w hI b (.inLoop c::k) cs hro hb hr
   cases e with
   | normal =>
    obtain⟨y,hI₁,hlt⟩:=hq
    obtain⟨e₂,a₂,w₂,hq₂,harr₂⟩:=ih (μ y) (hn▸hlt) y a₁ w₁ rfl hI₁
    exact⟨e₂,a₂,w₂,hq₂,.of_steps (StepsIn.trans harr (.one (fenced_calm hb hr rfl) stepR_inLoop)) harr₂⟩
   | exit id=>exact⟨_,a₁,w₁,hq,.pass (x:=.inLoop c) rfl (fun _ _=>.inl (by simp)) harr⟩
   | goto l=>exact⟨_,a₁,w₁,hq,.pass (x:=.inLoop c) rfl (fun _ _=>.inl (by simp)) harr⟩
   | ret=>exact⟨_,a₁,w₁,hq,.pass (x:=.inLoop c) rfl (fun _ _=>.inl (by simp)) harr⟩
   | panic ch=>exact⟨_,a₁,w₁,hq,.pass (x:=.inLoop c) rfl (fun _ _=>.inl (by simp)) harr⟩
   | outgrown=>exact⟨_,a₁,w₁,hq,.pass (x:=.inLoop c) rfl (fun _ _=>.inl (by simp)) harr⟩
 obtain⟨e,a',w',hq,harr⟩:=key _ x0 a w rfl h0
 exact⟨e,a',w',hq,.of_steps (.one (fenced_calm hb hr rfl) stepR_loop) harr⟩
def pE(P:Program)(l n:Nat)(c:Code)(Q:Exit→Act→World→Prop)(a:Act)(w:World): Prop:=EM c=true→¬ LetsOut Q→c.wpIn (Fence.wide.inRound l) n P Q a w
theorem Mn(hm:P.follows .mixedOrders=true): Rules P (pE P l n) where
 skip h _ _:=wpIn_skip h
 label h _ _:=wpIn_label h
 exit h _ _:=wpIn_exit h
 ret h _ _:=wpIn_ret h
 rl h ho hQ:=wpIn_region_list (Hn hQ ho h)
 rd h ho hQ:=wpIn_region_any hm (Hz hQ ho _ _ _ _ h)
 seq {x y Q a w} h ho hQ:=by
  obtain⟨h1,h2⟩:=L6.1 (show(EM x&&EM y)=true from ho)
  refine wpIn_seq (wpIn_mono (h h1 hQ) fun e a w hq=>?_)
  cases e with
  | normal=>exact hq h2 hQ
  | _=>exact hq
 ct {c x y Q a w} he h ho hQ:=wpIn_cond_true he (h (L6.1 (show(EM x&&EM y)=true from ho)).1 hQ)
 cf {c x y Q a w} he h ho hQ:=wpIn_cond_false he (h (L6.1 (show(EM x&&EM y)=true from ho)).2 hQ)
 block h ho hQ:=wpIn_block (h ho hQ)
 loop J μ h x0 _ _ h0 ho hQ:=GV J μ (fun x a w hJ=>h x a w hJ ho hQ) x0 h0
def Yg(ds:List Deferred)(a:Act): Act:={ a with defers:=a.defers++ds }
def I4(ds:List Deferred)(Q:Exit→Act→World→Prop)(e:Exit)(a:Act)(w:World): Prop:=∃b,a=Yg ds b∧Q e b w
theorem FH(ds:List Deferred)(a:Act): (Yg ds a).eval=a.eval:=rfl
theorem Kg(ds:List Deferred)(a:Act)(d:Option Tmp)(v:Value): (Yg ds a).put d v=Yg ds (a.put d v):=by cases d<;>rfl
theorem BE{ds:List Deferred}{Q:Exit→Act→World→Prop}(h:LetsOut Q): LetsOut (I4 ds Q):=let ⟨a,w,h⟩:=h;⟨Yg ds a,w,a,rfl,h⟩
theorem mq{ds:List Deferred}{w:World}{next next':Act→World→Prop}{Q:Exit→Act→World→Prop}(hn:∀a w,next a w→next' (Yg ds a) w)(h:o.wp P a w next Q): o.wp P (Yg ds a) w next' (I4 ds Q):=by
 unfold Oper.wp at h ⊢
 rw[FH]
 revert h
 generalize (execOp a.eval o).run P w=r
 intro h
 cases r with
 | halt h0 w'=>cases h0<;>first|exact⟨_,rfl,h⟩|exact False.elim h
 | ok x w' =>
  cases x with
  | value v=>show next' ((Yg ds a).put o.dst v) w';rw[Kg];exact hn _ _ h
  | skip=>show next' ((Yg ds a).put o.dst undef) w';rw[Kg];exact hn _ _ h
  | defer d =>
   show next' (({ Yg ds a with defers:=d::(Yg ds a).defers }:Act).put o.dst undef) w'
   rw[show({ Yg ds a with defers:=d::(Yg ds a).defers }:Act)=Yg ds { a with defers:=d::a.defers } from rfl,Kg]
   exact hn _ _ h
  | enter f args =>
   refine(show Calls P f args w' _ from h).mono fun e w'' h=>?_
   cases e with
   | returned v=>show next' ((Yg ds a).put o.dst v) w'';rw[Kg];exact hn _ _ h
   | panicked c=>exact⟨_,rfl,h⟩
   | outgrown=>exact BE h
  | row row args =>
   refine(show Rows P row args w' _ from h).mono fun v w'' h=>?_
   show next' ((Yg ds a).put o.dst v) w''
   rw[Kg]
   exact hn _ _ h
  | _=>exact False.elim h
theorem eE{ds:List Deferred}{w:World}(h:o.asks P a w): o.asks P (Yg ds a) w:=h
theorem NB{ds:List Deferred}{Q:Exit→Act→World→Prop}: ∀ {m:List Oper} {a:Act} {w:World},wpList P ops Q m a w→wpList P ops (I4 ds Q) m (Yg ds a) w
 | [],_,_,h=>⟨_,rfl,h⟩
 | o::m,a,w,h=>by
  unfold wpList at h ⊢
  rw[show(Yg ds a).tmps=a.tmps from rfl]
  split
  ·rename_i hw
   rw[if_pos hw]at h
   rcases h with h|h
   ·exact .inl (mq (fun a w=>NB) h)
   ·exact .inr ⟨eE h.1,BE h.2⟩
  ·rename_i hw
   rw[if_neg hw]at h
   rw[Kg]
   exact NB h
theorem RA{ds:List Deferred}{Q:Exit→Act→World→Prop}: ∀(fuel:Nat) (listed:Array Bool) (a:Act) (w:World),wpAny P md ops Q fuel listed a w→wpAny P md ops (I4 ds Q) fuel listed (Yg ds a) w
 | 0,_,_,_,h=>⟨h.1,_,rfl,h.2⟩
 | fuel+1,listed,a,w,h=>by
  refine⟨fun e=>⟨_,rfl,h.1 e⟩,fun i hi=>?_⟩
  have h1:=h.2 i hi
  unfold wpOp at h1 ⊢
  split
  ·rename_i e
   rw[e]at h1
   exact RA fuel _ _ _ h1
  ·rename_i o e
   rw[e]at h1
   dsimp only at h1
   rw[show(Yg ds a).tmps=a.tmps from rfl]
   split
   ·rename_i hw
    rw[if_pos hw]at h1
    rcases h1 with h1|h1
    ·exact .inl (mq (fun a w=>RA fuel _ a w) h1)
    ·exact .inr ⟨eE h1.1,BE h1.2⟩
   ·rename_i hw
    rw[if_neg hw]at h1
    rw[Kg]
    exact RA fuel _ _ _ h1
def om(P:Program)(ds:List Deferred)(c:Code)(Q:Exit→Act→World→Prop)(a:Act)(w:World): Prop:=c.wp P (I4 ds Q) (Yg ds a) w
theorem FZ(hm:P.follows .mixedOrders=true){ds:List Deferred}: Rules P (om P ds) where
 skip h:=wp_skip ⟨_,rfl,h⟩
 label h:=wp_label ⟨_,rfl,h⟩
 exit h:=wp_exit ⟨_,rfl,h⟩
 ret h:=wp_ret ⟨_,rfl,h⟩
 rl h:=wp_region_list (NB h)
 rd h:=wp_region_any hm (RA _ _ _ _ h)
 seq h:=wp_seq (wp_mono h fun e a w hq=>by
  obtain⟨b,rfl,hq⟩:=hq
  cases e with
  | normal=>exact hq
  | _=>exact⟨_,rfl,hq⟩)
 ct he h:=wp_cond_true he h
 cf he h:=wp_cond_false he h
 block {id c Q a w} h:=wp_block (wp_mono h fun e a w hq=>by
  obtain⟨b,rfl,hq⟩:=hq
  cases e with
  | exit i =>
   dsimp only[Exit.inBlock]at hq ⊢
   split
   ·rename_i e;rw[if_pos e]at hq;exact⟨_,rfl,hq⟩
   ·rename_i e;rw[if_neg e]at hq;exact⟨_,rfl,hq⟩
  | _=>exact⟨_,rfl,hq⟩)
 loop J μ h x0 _ _ h0:=B4 (fun x a w=>∃b,a=Yg ds b∧J x b w) μ (fun x a w hJ=>by
  obtain⟨b,rfl,hJ⟩:=hJ
  refine wp_mono (h x b w hJ) fun e a w hq=>?_
  obtain⟨c,rfl,hq⟩:=hq
  cases e with
  | normal=>obtain⟨y,h1,h2⟩:=hq;exact⟨y,⟨c,rfl,h1⟩,h2⟩
  | _=>exact⟨_,rfl,hq⟩) x0 ⟨_,rfl,h0⟩
end
def KK(W0:World)(F:Nat→Prop): Res where
 φ x S w:=x.oneCell'=true∧(∀b,F b→S b)∧∀b,F b→w.heap[b]?=W0.heap[b]?
 one _ _ _ h:=h.1
 loc x S w w' h hφ:=⟨hφ.1,hφ.2.1,fun b hb=>(h b (hφ.2.1 b hb)).trans (hφ.2.2 b hb)⟩
def JE:Res where
 φ x S _:=x.oneCell'=true∧∀b,¬ S b
 one _ _ _ h:=h.1
 loc _ _ _ _ _ hφ:=hφ
def KpC(W W':World): Prop:=W.heap.size≤W'.heap.size∧∀(k:Nat) (o:Obj),W.heap[k]?=some o→o.isCells=true→W'.heap[k]?=some o
theorem mr{A B C:World}(h:KpC A B)(k:KpC B C): KpC A C:=⟨L8 h.1 k.1,fun i o hi ho=>k.2 i o (h.2 i o hi ho) ho⟩
theorem mg(W:World)(l:Nat)(o o':Obj)(h:W.heap[l]?=some o)(ho:o.isCells=false): KpC W (W.putObj l o'):=by
 have hg:=grownBy_putObj' W l o'
 refine⟨hg.size,fun k u hk hu=>?_⟩
 by_cases e:k=l
 ·subst e
  rw[h]at hk
  obtain rfl:=Option.some.inj hk
  rw[ho]at hu
  cases hu
 ·exact(hg.block k (Array.getElem?_eq_some_iff.1 hk).1 (fun h=>e (Option.some.inj h))).trans hk
theorem KpC.bx{W W':World}{g:Nat}{t:TypeId}{cs:Array Value}(h:KpC W W')(hb:Bx W g t cs): Bx W' g t cs:=h.2 g _ hb rfl
def PU(σ:St)(r:Env)(n:Nat)(W W':World): Prop:=∀k,k<n→(∀i p,Xk σ.bs i=some p→r.b i≠k)→W'.heap[k]?=W.heap[k]?
def Ou:List (Option Res)→Bool
 | []=>true
 | none::l=>Ou l
 | some _::_=>false
theorem GJ:∀ {l:List (Option Res)},Ou l=true→∀i R,Xk l i≠some R
 | [],_,_,_,h=>nomatch h
 | none::l,h,0,_,h2=>nomatch h2
 | none::l,h,i+1,R,h2=>GJ (l:=l) h i R h2
 | some _::_,h,_,_,_=>nomatch h
def aN(R:Res)(l:List (Option Res))(p:Prop): Prop:=match l with
 | some R'::l=>ZQ (Ou l) (R'=R∧p)
 | _=>False
def H6(R:Res)(l:List (Option Res))(p:Prop): Prop:=match l with
 | some R'::_=>R'=R∧p
 | _=>False
theorem NJ{l:List (Option Res)}(h:aN R l p): p∧∃m,l=some R::m∧Ou m=true:=by
 unfold aN at h
 split at h
 ·obtain⟨h1,h2,h3⟩:=Qp h
  exact⟨h3,_,by rw[h2],h1⟩
 ·exact h.elim
theorem GO{l:List (Option Res)}(h:H6 R l p): p∧∃m,l=some R::m:=by
 unfold H6 at h
 split at h
 ·exact⟨h.2,_,by rw[h.1]⟩
 ·exact h.elim
def fk:List (Option (TypeId×List SV))→Bool
 | []=>true
 | some _::l=>fk l
 | none::_=>false
theorem FX:∀ {l:List (Option (TypeId×List SV))},fk l=true→∀i,i<l.length→∃q,Xk l i=some q
 | [],_,_,h=>absurd h (Rc _)
 | some q::l,h,0,_=>⟨q,rfl⟩
 | some q::l,h,i+1,hi=>FX (l:=l) h i (Nat.lt_of_succ_lt_succ hi)
 | none::l,h,_,_=>nomatch h
def EB:List (Option (TypeId×List SV))→List (Option (TypeId×List SV))→Bool
 | [],_=>true
 | none::l,[]=>EB l []
 | none::l,_::m=>EB l m
 | some _::l,some _::m=>EB l m
 | some _::_,_=>false
theorem KF:∀ {l m:List (Option (TypeId×List SV))},EB l m=true→∀i q,Xk l i=some q→∃q',Xk m i=some q'
 | [],_,_,_,_,h=>nomatch h
 | none::l,[],h,0,_,h2=>nomatch h2
 | none::l,[],h,i+1,q,h2=>by
  obtain⟨q',h3⟩:=KF (l:=l) (m:=[]) h i q h2
  cases h3
 | none::l,_::m,h,0,_,h2=>nomatch h2
 | none::l,_::m,h,i+1,q,h2=>KF (l:=l) (m:=m) h i q h2
 | some _::l,some q'::m,h,0,_,_=>⟨q',rfl⟩
 | some _::l,some _::m,h,i+1,q,h2=>KF (l:=l) (m:=m) h i q h2
 | some _::_,[],h,_,_,_=>nomatch h
 | some _::_,none::_,h,_,_,_=>nomatch h
section
variable {P:Program} {tt:List (Nat×TI)} {w0:World}
def jl(P:Program)(tt:List (Nat×TI))(w0:World)(σ:St)(bsR:List (Option (TypeId×List SV)))(body:Code)(good:Bool)(σ1:St)(d:List Dir): Prop :=
 ∀R2:Res,XH P tt (KM P tt w0) (σ1.bs.length,σ1.rs.length) w0 body (Yi 0 R2 σ1) d fun e σ2 _=>match e with
  | .normal=>H6 R2 σ2.rs (Jk σ2 ⟨σ1.n,[],σ1.bs,[]⟩ (Jk σ2 σ (good=true)))
  | .ret=>ZQ (EB σ1.bs σ2.bs) (H6 R2 σ2.rs (Jk σ2 { σ with bs:=bsR } (good=false)))
  | .exit _=>False
def ax(P:Program)(tt:List (Nat×TI))(w0:World)(σ:St)(bsR:List (Option (TypeId×List SV)))(body:Code)(good:Bool)(R:Res)(e:Ex)(σ1:St)(d:List Dir): Prop:=match e with
 | .normal=>aN R σ1.rs (Jk σ1 σ (ZQ (ph σ σ1) (jl P tt w0 σ bsR body good σ1 d)))
 | _=>False
theorem Sat.grown{w w':World}{row:Option Nat}(h:Sat w0 σ r a w)(hrs:∀i R,Xk σ.rs i=some R→R=JE)(hg:w.grownBy w' row)(hr:∀k,row=some k→w0.heap.size≤k∧∃o:Obj,w.heap[k]?=some o∧o.isCells=false): Sat w0 σ r a w':=by
 refine⟨⟨h.see.low.grown hg h.see.low.size (fun k e=>(hr k e).1),h.see.size,h.see.ts,fun i t cs hi=>?_,fun i R hi=>?_,h.see.one⟩,h.sep,h.defers⟩
 ·obtain⟨h1,h2⟩:=h.see.bs i t cs hi
  refine⟨(hg.block _ h1.lt fun e=>?_).trans h1,h2⟩
  obtain⟨_,o,ho,hc⟩:=hr _ e.symm
  rw[show w.heap[r.b i]?=some (.cells _ t (0,0))from h1]at ho
  obtain rfl:=Option.some.inj ho
  cases hc
 ·obtain⟨h1,h2⟩:=h.see.rs i R hi
  obtain rfl:=hrs i R hi
  exact⟨h1,fun b hb=>absurd hb (h1.2 b)⟩
def Yo(w0:World)(σ:St)(r:Env)(W:World)(b:Nat): Prop:=w0.heap.size≤b∧b<W.heap.size∧∀i p,Xk σ.bs i=some p→r.b i≠b
theorem jf{W:World}{m:List (Option Res)}(h:Sat w0 σ r a W)(hrs:σ.rs=some JE::m)(hm:Ou m=true):
  Sat w0 (Yi 0 (KK W (Yo w0 σ r W)) σ) ⟨r.b,r.x,fun _=>Yo w0 σ r W⟩ a W:=by
 have e1:(Yi 0 (KK W (Yo w0 σ r W)) σ).rs=some (KK W (Yo w0 σ r W))::m:=by unfold Yi;rw[hrs];rfl
 have hl:(Yi 0 (KK W (Yo w0 σ r W)) σ).rs.length=σ.rs.length:=XQ _ _ _
 have hlt:∀s,(Yi 0 (KK W (Yo w0 σ r W)) σ).lt s=σ.lt s:=fun s=>by simp only[St.lt,hl];rfl
 have hltL:∀s,(Yi 0 (KK W (Yo w0 σ r W)) σ).ltL s=σ.ltL s:=fun s=>by simp only[St.ltL,hl];rfl
 have hone:(r.x 0).oneCell'=true:=h.see.one 0 (by rw[hrs];exact S9 _)
 have hR:∀i R,Xk (Yi 0 (KK W (Yo w0 σ r W)) σ).rs i=some R→i=0∧R=KK W (Yo w0 σ r W):=fun i R hi=>by
  rw[e1]at hi
  cases i with
  | zero=>exact⟨rfl,(Option.some.inj hi).symm⟩
  | succ i=>exact absurd hi (GJ hm i R)
 refine⟨⟨h.see.low,h.see.size,fun k s hk=>?_,fun i t cs hi=>?_,fun i R hi=>?_,fun i hi=>h.see.one i (by rwa [hl]at hi)⟩,⟨h.sep.own,h.sep.inj,fun i R hi b hb=>hb.1,fun i j R R' hi hj hne=>absurd ((hR i R hi).1.trans (hR j R' hj).1.symm) hne,fun i j p R hi hj hS=>hS.2.2 i p hi rfl⟩,h.defers⟩
 ·obtain⟨h1,h2⟩:=h.see.ts k s hk
  exact⟨by rw[K6];exact h1,by rw[hlt];exact h2⟩
 ·obtain⟨h1,h2⟩:=h.see.bs i t cs hi
  exact⟨by rw[Ve];exact h1,by rw[hltL];exact h2⟩
 ·obtain⟨rfl,rfl⟩:=hR i R hi
  exact⟨⟨hone,fun _ hb=>hb,fun _ _=>rfl⟩,fun b hb=>hb.2.1⟩
theorem ka{W:World}{m:List (Option Res)}(h:Sat w0 σ r a W)(hrs:σ.rs=some R::m)(hm:Ou m=true):
  Sat w0 (Yi 0 JE σ) ⟨r.b,r.x,fun _ _=>False⟩ a W:=by
 have e1:(Yi 0 JE σ).rs=some JE::m:=by unfold Yi;rw[hrs];rfl
 have hl:(Yi 0 JE σ).rs.length=σ.rs.length:=XQ _ _ _
 have hlt:∀s,(Yi 0 JE σ).lt s=σ.lt s:=fun s=>by simp only[St.lt,hl];rfl
 have hltL:∀s,(Yi 0 JE σ).ltL s=σ.ltL s:=fun s=>by simp only[St.ltL,hl];rfl
 have hone:(r.x 0).oneCell'=true:=h.see.one 0 (by rw[hrs];exact S9 _)
 have hR:∀i R,Xk (Yi 0 JE σ).rs i=some R→i=0∧R=JE:=fun i R hi=>by
  rw[e1]at hi
  cases i with
  | zero=>exact⟨rfl,(Option.some.inj hi).symm⟩
  | succ i=>exact absurd hi (GJ hm i R)
 refine⟨⟨h.see.low,h.see.size,fun k s hk=>?_,fun i t cs hi=>?_,fun i R hi=>?_,fun i hi=>h.see.one i (by rwa [hl]at hi)⟩,⟨h.sep.own,h.sep.inj,fun _ _ _ _ hb=>hb.elim,fun _ _ _ _ _ _ _ _ hb=>hb.elim,fun _ _ _ _ _ _ hS=>hS.elim⟩,h.defers⟩
 ·obtain⟨h1,h2⟩:=h.see.ts k s hk
  exact⟨by rw[K6];exact h1,by rw[hlt];exact h2⟩
 ·obtain⟨h1,h2⟩:=h.see.bs i t cs hi
  exact⟨by rw[Ve];exact h1,by rw[hltL];exact h2⟩
 ·obtain⟨rfl,rfl⟩:=hR i R hi
  exact⟨⟨hone,fun _ hb=>hb⟩,fun b hb=>hb.elim⟩
theorem IQ{W:World}(h:Sat w0 σ r a W)(hrs:σ.rs=[]):
  Sat w0 { σ with rs:=[some (KK W (Yo w0 σ r W))] } ⟨r.b,fun _=>.bool false,fun _=>Yo w0 σ r W⟩ a W:=by
 have hag:Ag σ r ⟨r.b,fun _=>.bool false,fun _=>Yo w0 σ r W⟩:=⟨fun _ _=>rfl,fun i hi=>by rw[hrs]at hi;exact absurd hi (Rc _)⟩
 have hlt:∀s,σ.lt s=true→({ σ with rs:=[some (KK W (Yo w0 σ r W))] }:St).lt s=true:=fun s hs=>Jz (fun i hi=>hi) (fun i hi=>by rw[hrs]at hi;exact absurd (QX hi) (Rc _)) s hs
 have hR:∀i R,Xk [some (KK W (Yo w0 σ r W))] i=some R→i=0∧R=KK W (Yo w0 σ r W):=fun i R hi=>by
  cases i with
  | zero=>exact⟨rfl,(Option.some.inj hi).symm⟩
  | succ i=>cases hi
 refine⟨⟨h.see.low,h.see.size,fun k s hk=>?_,fun i t cs hi=>?_,fun i R hi=>?_,fun i _=>rfl⟩,⟨h.sep.own,h.sep.inj,fun i R hi b hb=>hb.1,fun i j R R' hi hj hne=>absurd ((hR i R hi).1.trans (hR j R' hj).1.symm) hne,fun i j p R hi hj hS=>hS.2.2 i p hi rfl⟩,h.defers⟩
 ·obtain⟨h1,h2⟩:=h.see.ts k s hk
  exact⟨by rw[hag.den h2];exact h1,hlt s h2⟩
 ·obtain⟨h1,h2⟩:=h.see.bs i t cs hi
  have e:QI ⟨r.b,fun _=>.bool false,fun _=>Yo w0 σ r W⟩ cs=QI r cs:=by
   rw[Xi,Xi]
   exact T5 fun s hs=>hag.den (okL_all.1 h2 s hs)
  exact⟨by rw[e];exact h1,okL_all.2 fun s hs=>hlt s (okL_all.1 h2 s hs)⟩
 ·obtain⟨rfl,rfl⟩:=hR i R hi
  exact⟨⟨rfl,fun _ hb=>hb,fun _ _=>rfl⟩,fun b hb=>hb.2.1⟩
theorem Sat.swap{w w':World}(h:Sat w0 σ r a w)(h':Sat w0 τ r' a' w')(hts:τ.ts=σ.ts)(hn:τ.n=σ.n)(hb:τ.bs.length=σ.bs.length)(hr:τ.rs.length=σ.rs.length)(hg:Ag σ r r'): Sat w0 τ r' a w':=by
 refine⟨⟨h'.see.low,h.see.size.trans hn.symm,fun k s hk=>?_,h'.see.bs,h'.see.rs,h'.see.one⟩,h'.sep,h.defers⟩
 rw[hts]at hk
 obtain⟨h1,h2⟩:=h.see.ts k s hk
 exact⟨by rw[hg.den h2];exact h1,by simp only[St.lt,hb,hr];exact h2⟩
theorem DU{W W':World}{m:List (Option Res)}(h:Sat w0 σ r a W)(h':Sat w0 τ r' a' W')(hrs:τ.rs=some (KK W (Yo w0 σ r W))::m): PU σ r W.heap.size W W':=fun k hk hn=>by
 rcases Ra k w0.heap.size with h0|h0
 ·exact(h'.see.low.block k h0).trans (h.see.low.block k h0).symm
 ·exact(h'.see.rs 0 (KK W (Yo w0 σ r W)) (by rw[hrs];rfl)).1.2.2 k ⟨h0,hk,hn⟩
theorem He{W W':World}(h:Sat w0 σ r a W)(h':Sat w0 τ r' a' W')(hb:∀i p,Xk σ.bs i=some p→r.b i<W'.heap.size)(hF:PU σ r W.heap.size W W'): W.heap.size≤W'.heap.size:=by
 rcases Ra W'.heap.size W.heap.size with hlt|hge
 ·exfalso
  by_cases hk:∃i p,Xk σ.bs i=some p∧r.b i=W.heap.size-1
  ·obtain⟨i,p,h1,h2⟩:=hk
   have:=hb i p h1
   omega
  ·have h1:=hF (W.heap.size-1) (by omega) (fun i p hi e=>hk ⟨i,p,hi,e⟩)
   rw[Array.getElem?_eq_none (by omega),Array.getElem?_eq_getElem (by omega)]at h1
   cases h1
 ·exact hge
theorem P1{W W':World}(h:Sat w0 σ r a W)(hb:∀i t cs,Xk σ.bs i=some (t,cs)→Bx W' (r.b i) t (QI r cs).toArray)(hF:PU σ r W.heap.size W W')(hz:W.heap.size≤W'.heap.size): KpC W W':=by
 refine⟨hz,fun k o hk _=>?_⟩
 by_cases hn:∃i p,Xk σ.bs i=some p∧r.b i=k
 ·obtain⟨i,⟨t,cs⟩,h1,h2⟩:=hn
  have h3:=(h.see.bs i t cs h1).1
  have h4:=hb i t cs h1
  rw[h2]at h3 h4
  exact(show W'.heap[k]?=some (.cells _ t (0,0))from h4).trans ((show W.heap[k]?=some (.cells _ t (0,0))from h3).symm.trans hk)
 ·exact(hF k (Array.getElem?_eq_some_iff.1 hk).1 fun i p hi e=>hn ⟨i,p,hi,e⟩).trans hk
theorem C5{W W':World}(B:Nat)(h:Sat w0 σ r a W)(hF:PU σ r W.heap.size W W')(hz:W.heap.size≤W'.heap.size): KeepsFrom B W W':=by
 refine⟨hz,fun k o _ hk ho=>(hF k (Array.getElem?_eq_some_iff.1 hk).1 fun i p hi e=>?_).trans hk⟩
 have h1:=(h.see.bs i p.1 p.2 hi).1
 rw[e]at h1
 rw[show W.heap[k]?=some (.cells _ p.1 (0,0))from h1]at hk
 obtain rfl:=Option.some.inj hk
 cases ho
theorem Pb(hrs:σ.rs=[])(h:AgN (σ.bs.length,0) r r'): Ag σ r r':=⟨h.1,fun i hi=>by rw[hrs]at hi;exact absurd hi (Rc _)⟩
theorem PZ(h:Ag σ r r'){l:List SV}(hl:σ.ltL l=true): QI r' l=QI r l:=by
 rw[Xi,Xi]
 exact T5 fun s hs=>h.den (okL_all.1 hl s hs)
end
theorem gO(h:Jk σ τ p): ∀i q,Xk τ.bs i=some q→∃q',Xk σ.bs i=some q':=by
 obtain⟨hn,h⟩:=Qp h
 obtain⟨h,ht⟩:=GP h
 obtain⟨h,bl,hb⟩:=GF h
 exact fun i q hi=>⟨_,(hb i q.1 q.2 hi).1⟩
section
variable {P:Program} {tt:List (Nat×TI)} {w0:World}
def py(P:Program)(tt:List (Nat×TI))(w0:World)(σ:St)(bsR:List (Option (TypeId×List SV)))(body:Code)(r:Env)(n:Nat)(good:Bool)(a':Act)(W:World): Prop :=
 ∃σ1 d1 r1 m,Sat w0 (Yi 0 JE σ1) r1 a' W∧(Yi 0 JE σ1).rs=some JE::m∧Ou m=true∧(∃R,σ1.rs=some R::m)∧AgN (σ.bs.length,0) r r1∧σ.bs.length≤σ1.bs.length ∧
  (∀i p,Xk σ1.bs i=some p→σ.bs.length≤i→n≤r1.b i)∧jl P tt w0 σ bsR body good σ1 d1
theorem kj(hT:YF P tt)(hm:P.follows .mixedOrders=true){bsR:List (Option (TypeId×List SV))}(hbR:bsR.length=σ.bs.length){xs:List α}{gf:Nat}{enc:α→Value}{good:α→Bool}{g:Operand}{p:Nat}{assign body:Code}(hrs:σ.rs=[])(hall:fk σ.bs=true)(hp:Bl (some p) σ.n=true)(hna:EM assign=true)(hnb:EM body=true)(hround:∀x,x∈xs→∃d,∀R:Res,XH P tt (KM P tt w0) (σ.bs.length,0) w0 assign { σ.push (some p) (.val (enc x))with rs:=[some R] } d (ax P tt w0 σ bsR body (good x) R)){w:World}(hS:Sat w0 σ r a w)(hg:a.eval g=.func (.func gf) #[] lb)(he:Yf P gf)(hseq:SeqStopsK Fence.wide 8 P gf lb (fun x:{x // x∈xs}=>#[enc x.1]) KpC (fun ys=>ys=xs.attach) (fun _=>True) xs.length w){ds:List Deferred}{Q:Exit→Act→World→Prop}(hdone:∀D r' W,Sat w0 σ r' a W→AgN (σ.bs.length,0) r r'→PU σ r w.heap.size w W→w.heap.size≤D→W.heap[D]?=some (.deferred (some []))→(∀x,x∈xs→good x=true)→Q .normal (Yg ({ target:=.collected D,args:=#[] }::ds) a) W)(hstop:∀D r' W,Sat w0 { σ with bs:=bsR } r' a W→AgN (σ.bs.length,0) r r'→PU σ r w.heap.size w W→w.heap.size≤D→W.heap[D]?=some (.deferred (some []))→(∃x,x∈xs∧good x=false)→Q .ret (Yg ({ target:=.collected D,args:=#[] }::ds) a) W):
  (Code.rangeFunc g #[p] assign body).wp P Q (Yg ds a) w:=by
 have hlow:=hS.see.low.size
 have hd0:=hS.defers
 have hall':=FX hall
 have hcoll:∀D,({ Yg ds a with defers:={ target:=.collected D,args:=#[] }::(Yg ds a).defers }:Act)=Yg ({ target:=.collected D,args:=#[] }::ds) a:=fun D=>by
  unfold Yg
  rw[hd0]
  rfl
 refine wpIn_wide.1 (wpIn_rangeFunc_ownH (F:=Fence.wide) (n:=9) (Kp:=KpC) (α:={x // x∈xs}) (encs:=fun x=>#[enc x.1]) (S:=fun ys=>ys=xs.attach) (Sp:=fun _=>True) (N:=xs.length) (w0:=w) rfl (by decide) (gf:=gf) (lb:=lb) (by rw[FH];exact hg) trivial he hseq mr (fun W l o o' _ h ho _=>mg W l o o' h ho) (Below.refl _ _) (fun _=>rfl)
  (fun pre W=>(∃r',Sat w0 σ r' a W∧AgN (σ.bs.length,0) r r')∧PU σ r w.heap.size w W∧w.heap.size≤W.heap.size∧∀x,x∈pre→good x.1=true)
  (fun c pre W=>c=.ret∧(∃r',Sat w0 { σ with bs:=bsR } r' a W∧AgN (σ.bs.length,0) r r')∧PU σ r w.heap.size w W∧∃x,x∈pre∧good x.1=false)
  ?hI ?hIx ⟨⟨r,hS,AgN.refl _ _⟩,fun _ _ _=>rfl,L3 _,fun _ h=>nomatch h⟩
  (fun x a' W=>py P tt w0 σ bsR body r w.heap.size (good x.1) a' W) ?hAx ?assign ?body ?done ?stop)
 case hI =>
  rintro pre W W' row ⟨⟨r',h1,h2⟩,h3,h4,h5⟩ hgr hrow
  refine⟨⟨r',h1.grown (fun i R hi=>by rw[hrs]at hi;cases hi) hgr (fun k e=>⟨L8 hlow (hrow k e).1,(hrow k e).2⟩),h2⟩,fun k hk hn=>?_,L8 h4 hgr.size,h5⟩
  exact(hgr.block k (Lb hk h4) fun e=>by have:=(hrow k e.symm).1;omega).trans (h3 k hk hn)
 case hIx =>
  rintro c pre W W' row ⟨h0,⟨r',h1,h2⟩,h3,h5⟩ hgr hrow
  refine⟨h0,⟨r',h1.grown (fun i R hi=>by rw[show({ σ with bs:=bsR }:St).rs=[]from hrs]at hi;cases hi) hgr (fun k e=>⟨L8 hlow (hrow k e).1,(hrow k e).2⟩),h2⟩,fun k hk hn=>?_,h5⟩
  have hkW:k<W.heap.size:=by
   rcases Ra k W.heap.size with h|h
   ·exact h
   ·have h6:=h3 k hk hn
    rw[Array.getElem?_eq_none h,Array.getElem?_eq_getElem hk]at h6
    cases h6
  exact(hgr.block k hkW fun e=>by have:=(hrow k e.symm).1;omega).trans (h3 k hk hn)
 case hAx =>
  rintro x a' s W W' row ⟨σ1,d1,r1,m,h1,h2,h3,h4,h5⟩ hgr hrow
  exact⟨σ1,d1,r1,m,h1.grown (fun i R hi=>by
   rw[h2]at hi
   cases i with
   | zero=>exact(Option.some.inj hi).symm
   | succ i=>exact absurd hi (GJ h3 i R)) hgr (fun k e=>⟨L8 hlow (hrow k e).1,(hrow k e).2⟩),h2,h3,h4,h5⟩
 case assign =>
  rintro l pre x W K ⟨⟨r',h1,h2⟩,h3,h4,h5⟩ hK
  have hAg:=Pb hrs h2
  obtain⟨d,hd⟩:=hround x.1 x.2
  have e0:({ tmps:=(#[p].zip #[enc x.1]).foldl (fun t (p,v)=>t.setIfInBounds p v) (Yg ds a).tmps,defers:=[] }:Act)=a.put (some p) (enc x.1):=by
   unfold Act.put
   rw[← hd0]
   simp[Yg]
  rw[e0]
  have hp1:Sat w0 (σ.push (some p) (.val (enc x.1))) r' (a.put (some p) (enc x.1)) W:=h1.put (s:=.val (enc x.1)) hp rfl
  have hfz:=IQ hp1 hrs
  have eS:Yo w0 (σ.push (some p) (.val (enc x.1))) r' W=Yo w0 σ r' W:=rfl
  rw[eS]at hfz
  refine VH (Mn hm) hT (Kk hT hm 9) (σ.bs.length,0) assign _ d _ (hd (KK W (Yo w0 σ r' W))) ⟨L3 _,L9 _⟩ _ _ W hfz (Exit.then K fun _ _ _=>False) (fun _ _ _ _ _ h=>h.elim) (fun _ _ _ _ _ _ h=>False.elim h) (fun e σ1 d1 r1 a1 W1 hk hS1 _ hg1=>?_) hna (fun⟨_,_,h⟩=>h)
  cases e with
  | exit i=>exact False.elim hk
  | ret=>exact False.elim hk
  | normal =>
   obtain⟨hk,m,hm1,hm2⟩:=NJ hk
   have hsb:=gO hk
   obtain⟨hk,hsub⟩:=Ya (w0:=w0) hk
   obtain⟨hle,hbk⟩:=Qp hk
   have hSσ:=hsub _ _ _ hS1
   have hg1':AgN (σ.bs.length,0) r' r1:=⟨fun i hi=>hg1.1 i hi,fun i hi=>absurd hi (Rc _)⟩
   have hag1:=Pb hrs hg1'
   have hF:PU σ r' W.heap.size W W1:=DU (σ:=σ) (r:=r') h1 hS1 hm1
   have hb:∀i t cs,Xk σ.bs i=some (t,cs)→Bx W1 (r'.b i) t (QI r' cs).toArray:=fun i t cs hi=>by
    obtain⟨k1,_⟩:=hSσ.see.bs i t cs hi
    rw[hag1.1 i (X0 hi),PZ hag1 (h1.see.bs i t cs hi).2]at k1
    exact k1
   have hz:=He h1 hS1 (fun i p hi=>(hb i p.1 p.2 hi).lt) hF
   refine hK a1 W1 (C5 _ h1 hF hz) (P1 h1 hb hF hz) ⟨⟨r1,h1.swap hSσ rfl rfl rfl rfl hag1,h2.trans hg1'⟩,fun k hk hn=>?_,L8 h4 hz,h5⟩ ?_
   ·refine(hF k (by omega) fun i p hi=>?_).trans (h3 k hk hn)
    rw[hAg.1 i (X0 hi)]
    exact hn i p hi
   ·refine⟨σ1,d1,⟨r1.b,r1.x,fun _ _=>False⟩,m,ka hS1 hm1 hm2,by unfold Yi;rw[hm1];rfl,hm2,⟨_,hm1⟩,h2.trans hg1',(Wp hle).1,fun i p hi hge=>?_,hbk⟩
    show w.heap.size≤r1.b i
    have k1:=hS1.sep.apart i 0 p _ hi (by rw[hm1];rfl)
    have k2:=(hS1.see.rs 0 (KK W (Yo w0 σ r' W)) (by rw[hm1];rfl)).1.2.1
    have k3:=hS1.sep.own i p hi
    rcases Ra (r1.b i) W.heap.size with hlt|hge2
    ·exfalso
     refine k1 (k2 _ ⟨k3,hlt,fun j q hj e=>?_⟩)
     have k4:r1.b j=r'.b j:=hg1'.1 j (X0 hj)
     obtain⟨q1,hq1⟩:=hsb j q hj
     exact hS1.sep.inj i j p q1 hi hq1 (fun e2=>by have:=X0 hj;omega) (by rw[k4];exact e.symm)
    ·omega
 case body =>
  rintro l pre x a' W hl _ ⟨⟨r',hI1,hI2⟩,h3,h4,h5⟩ ⟨σ1,d1,r1,m,k1,k2,k3,⟨R0,k4⟩,k5,k6,k7,k8⟩ _
  have hfz:=jf k1 k2 k3
  have eo:Yi 0 (KK W (Yo w0 (Yi 0 JE σ1) r1 W)) (Yi 0 JE σ1)=Yi 0 (KK W (Yo w0 (Yi 0 JE σ1) r1 W)) σ1:=by unfold Yi;rw[k4];rfl
  rw[eo]at hfz
  have eS:Yo w0 (Yi 0 JE σ1) r1 W=Yo w0 σ1 r1 W:=rfl
  rw[eS]at hfz
  have hrl:(Yi 0 JE σ1).rs.length=σ1.rs.length:=XQ _ _ _
  refine VH (Mn hm) hT (Kk hT hm 9) (σ1.bs.length,σ1.rs.length) body _ d1 _ (k8 (KK W (Yo w0 σ1 r1 W))) ⟨L3 _,by unfold Yi;rw[XQ];exact L3 _⟩ _ _ W hfz _ (fun _ _ _ _ _ h=>h.elim) (fun _ _ _ _ _ _ h=>False.elim h) (fun e σ2 d2 r2 a2 W2 hk hS2 _ hg2=>?_) hnb (fun⟨_,_,h⟩=>h)
  have hg2':AgN (σ.bs.length,0) r1 r2:=⟨fun i hi=>hg2.1 i (Lb hi k6),fun i hi=>absurd hi (Rc _)⟩
  have hgr:AgN (σ.bs.length,0) r r2:=k5.trans hg2'
  have hgi:AgN (σ.bs.length,0) r' r2:=⟨fun i hi=>(hgr.1 i hi).trans (hI2.1 i hi).symm,fun i hi=>absurd hi (Rc _)⟩
  have hag2:Ag (Yi 0 JE σ1) r1 r2:=⟨fun i hi=>hg2.1 i hi,fun i hi=>hg2.2 i (by rw[← hrl];exact hi)⟩
  have frame:∀mm,σ2.rs=some (KK W (Yo w0 σ1 r1 W))::mm→PU (Yi 0 JE σ1) r1 W.heap.size W W2:=fun mm hmm=>DU (σ:=Yi 0 JE σ1) k1 hS2 (by rw[hmm];rfl)
  have fr2:∀mm,σ2.rs=some (KK W (Yo w0 σ1 r1 W))::mm→PU σ r w.heap.size w W2:=fun mm hmm k hk hn=>by
   refine(frame mm hmm k (by omega) fun i p hi=>?_).trans (h3 k hk hn)
   rcases Ra i σ.bs.length with hlt|hge
   ·rw[k5.1 i hlt]
    intro e
    obtain⟨q,hq⟩:=hall' i hlt
    exact hn i q hq e
   ·have:=k7 i p hi hge
    omega
  cases e with
  | exit i=>exact False.elim hk
  | normal =>
   obtain⟨hk,mm,hmm⟩:=GO hk
   obtain⟨hk,hsub1⟩:=Ya (w0:=w0) hk
   obtain⟨hgood,hsub⟩:=Ya (w0:=w0) hk
   have hS3:=hsub1 _ _ _ hS2
   have hb:∀i t cs,Xk (Yi 0 JE σ1).bs i=some (t,cs)→Bx W2 (r1.b i) t (QI r1 cs).toArray:=fun i t cs hi=>by
    have q1:=(hS3.see.bs i t cs hi).1
    rw[hag2.1 i (X0 hi),PZ hag2 (k1.see.bs i t cs hi).2]at q1
    exact q1
   have hF:=frame mm hmm
   have hz:=He k1 hS2 (fun i p hi=>(hb i p.1 p.2 hi).lt) hF
   refine⟨C5 _ k1 hF hz,P1 k1 hb hF hz,⟨r2,hI1.swap (hsub _ _ _ hS2) rfl rfl rfl rfl (Pb hrs hgi),hgr⟩,fr2 mm hmm,L8 h4 hz,fun y hy=>?_⟩
   rcases Rj.1 hy with hy|hy
   ·exact h5 y hy
   ·rw[Rx.1 hy];exact hgood
  | ret =>
   obtain⟨hst,hk⟩:=Qp hk
   obtain⟨hk,mm,hmm⟩:=GO hk
   obtain⟨hgood,hsub⟩:=Ya (w0:=w0) hk
   have hF:=frame mm hmm
   have hz:=He k1 hS2 (fun i p hi=>by
    obtain⟨q',hq⟩:=KF hst i p hi
    have q1:=(hS2.see.bs i q'.1 q'.2 hq).1.lt
    rw[hag2.1 i (X0 hi)]at q1
    exact q1) hF
   exact⟨C5 _ k1 hF hz,rfl,⟨r2,hI1.swap (hsub _ _ _ hS2) rfl rfl hbR rfl (Pb hrs hgi),hgr⟩,fr2 mm hmm,x,by simp,hgood⟩
 case done =>
  rintro D ys W hD rfl ⟨⟨r',h1,h2⟩,h3,_,h5⟩ hk
  rw[hcoll]
  exact hdone D r' W h1 h2 h3 hD hk fun x hx=>h5 ⟨x,hx⟩ (List.mem_attach _ _)
 case stop =>
  rintro D c pre W hD _ ⟨rfl,⟨r',h1,h2⟩,h3,x,_,hx⟩ hk
  rw[hcoll]
  exact wpIn_ret (hstop D r' W h1 h2 h3 hD hk ⟨x.1,x.2,hx⟩)
end
def ku:Code→Bool
 | .seq (.seq _ (.block _ (.rangeFunc _ ps a b))) _=>Nat.beq ps.toList.length 1&&(EM a&&EM b)
 | _=>false
def lT:Code→Code
 | .seq (.seq x _) _=>x
 | _=>.skip
def pD:Code→Nat
 | .seq (.seq _ (.block i _)) _=>i
 | _=>0
def jm:Code→Operand
 | .seq (.seq _ (.block _ (.rangeFunc g _ _ _))) _=>g
 | _=>.tmp 0
def lX:Code→Nat
 | .seq (.seq _ (.block _ (.rangeFunc _ ps _ _))) _=>ps.toList.headD 0
 | _=>0
def lR:Code→Code
 | .seq (.seq _ (.block _ (.rangeFunc _ _ a _))) _=>a
 | _=>.skip
def lP:Code→Code
 | .seq (.seq _ (.block _ (.rangeFunc _ _ _ b))) _=>b
 | _=>.skip
def NV:Code→Code
 | .seq (.seq _ _) c=>c
 | _=>.skip
def nZ(c:Code): Code:=.block (pD c) (.rangeFunc (jm c) #[lX c] (lR c) (lP c))
theorem jq(h:ku c=true): c=.seq (.seq (lT c) (nZ c)) (NV c)∧EM (lR c)=true∧EM (lP c)=true:=by
 cases c with
 | seq x c =>
  cases x with
  | seq z x =>
   cases x with
   | block i y =>
    cases y with
    | rangeFunc g ps a b =>
     obtain⟨h0,h⟩:=L6.1 (show(Nat.beq ps.toList.length 1&&(EM a&&EM b))=true from h)
     obtain⟨h1,h2⟩:=L6.1 h
     refine⟨?_,h1,h2⟩
     have h3:=Lc h0
     have h4:ps=#[ps.toList.headD 0]:=by
      apply Array.ext'
      match e:ps.toList,h3 with
      | [x],_=>rfl
     show _=Code.seq (.seq z (.block i (.rangeFunc g #[ps.toList.headD 0] a b))) c
     rw[← h4]
    | _=>exact Bool.noConfusion h
   | _=>exact Bool.noConfusion h
  | _=>exact Bool.noConfusion h
 | _=>exact Bool.noConfusion h
def Jc(Ds:List Nat): List Deferred:=Ds.map fun D=>{ target:=.collected D,args:=#[] }
section
variable {P:Program} {tt:List (Nat×TI)} {w0:World}
def Bk(σ:St): St:={ σ with rs:=σ.rs.map fun o=>o.map fun _=>JE }
theorem IE(f:α→β): ∀(l:List (Option α)) (i:Nat),Xk (l.map fun o=>o.map f) i=(Xk l i).map f
 | [],_=>rfl
 | x::_,0=>by cases x<;>rfl
 | _::l,i+1=>IE f l i
theorem Sat.tops{w:World}(h:Sat w0 σ r a w): Sat w0 (Bk σ) ⟨r.b,r.x,fun _ _=>False⟩ a w:=by
 have hl:(Bk σ).rs.length=σ.rs.length:=by simp[Bk]
 have hlt:∀s,(Bk σ).lt s=σ.lt s:=fun s=>by simp only[St.lt,hl];rfl
 have hltL:∀s,(Bk σ).ltL s=σ.ltL s:=fun s=>by simp only[St.ltL,hl];rfl
 have hR:∀i R,Xk (Bk σ).rs i=some R→R=JE∧i<σ.rs.length:=fun i R hi=>by
  have h1:=X0 hi
  rw[hl]at h1
  have h2:Xk (Bk σ).rs i=(Xk σ.rs i).map fun _=>JE:=IE _ _ _
  rw[h2]at hi
  cases e:Xk σ.rs i with
  | none=>rw[e]at hi;cases hi
  | some R'=>rw[e]at hi;exact⟨(Option.some.inj hi).symm,h1⟩
 refine⟨⟨h.see.low,h.see.size,fun k s hk=>?_,fun i t cs hi=>?_,fun i R hi=>?_,fun i hi=>h.see.one i (by rwa [hl]at hi)⟩,⟨h.sep.own,h.sep.inj,fun _ _ _ _ hb=>hb.elim,fun _ _ _ _ _ _ _ _ hb=>hb.elim,fun _ _ _ _ _ _ hS=>hS.elim⟩,h.defers⟩
 ·obtain⟨h1,h2⟩:=h.see.ts k s hk
  exact⟨by rw[K6];exact h1,by rw[hlt];exact h2⟩
 ·obtain⟨h1,h2⟩:=h.see.bs i t cs hi
  exact⟨by rw[Ve];exact h1,by rw[hltL];exact h2⟩
 ·obtain⟨rfl,h1⟩:=hR i R hi
  exact⟨⟨h.see.one i h1,fun _ hb=>hb⟩,fun b hb=>hb.elim⟩
theorem FO: ∀(l:List ResultVar) (K:List SV→Prop),Uy tt (Bk σ) l K=Uy tt σ l K
 | [],_=>rfl
 | v::l,K=>by
  have h1:∀K,Nx tt (Bk σ) v K=Nx tt σ v K:=fun K=>by cases v<;>rfl
  show Nx tt (Bk σ) v _=Nx tt σ v _
  rw[h1]
  congr 1
  funext s
  exact FO l _
theorem TD{rs:List ResultVar}{e:Ex}{K:SV→Prop}(h:JX tt rs e σ K): JX tt rs e (Bk σ) K:=by
 unfold JX at h ⊢
 split at h
 ·exact h.elim
 ·rw[FO];exact h
theorem VG{tmps:Array Value}{R:Ending→World→Prop}{J:World→Prop}(hres:∀w,J w→(results fn tmps).run P w=.ok v w∧R (.returned v) w)(hJ:∀w D,J w→w.heap[D]?=some (.deferred (some []))→w0.heap.size≤D→J (w.putObj D (.deferred none))): ∀(Ds:List Nat) (w:World),J w→Ds.Nodup→(∀D,D∈Ds→w.heap[D]?=some (.deferred (some []))∧w0.heap.size≤D) →
  LeavesInM Fence.wide 9 P fn tmps R (Jc Ds) .returning w
 | [],w,h,_,_=>⟨v,hres w h⟩
 | D::Ds,w,h,hn,hD=>by
  obtain⟨h1,h2⟩:=hD D (by simp)
  obtain⟨n1,n2⟩:=Uf.1 hn
  refine⟨by simp,.inl ⟨D,_,rfl,run_takeDeferred h1,VG hres hJ Ds _ (hJ w D h h1 h2) n2 fun D' hD'=>?_⟩⟩
  obtain⟨h3,h4⟩:=hD D' (by simp[hD'])
  refine⟨((grownBy_putObj' w D (.deferred none)).block D' (Array.getElem?_eq_some_iff.1 h3).1 fun e=>?_).trans h3,h4⟩
  obtain rfl:=Option.some.inj e
  exact n1 hD'
theorem Nh(hT:YF P tt)(hm:P.follows .mixedOrders=true){W:World}(hS:Sat w0 σ r a W)(hrs:σ.rs=[]){d:List Dir}(h:∀R,XH P tt (KM P tt w0) (0,0) w0 c { σ with rs:=[some R] } d fun e σ' _=>JX tt fn.results.toList e σ' fun s=>H6 R σ'.rs (ZQ s.plain (s.den e0=v))){Ds:List Nat}(hn:Ds.Nodup)(hD:∀D,D∈Ds→W.heap[D]?=some (.deferred (some []))∧w0.heap.size≤D):
  c.wp P (Eu (bodyPostM Fence.wide 9 P fn fun e w'=>e=.returned v∧Below w0.heap.size w0 w')) (Yg (Jc Ds) a) W:=by
 have hfz:=IQ hS hrs
 refine wp_mono (VH (FZ hm (ds:=Jc Ds)) hT (Kk hT hm 9) (0,0) c _ d _ (h _) ⟨L9 _,L9 _⟩ _ a W hfz (fun e a' w'=>(e=.normal∨e=.ret)∧LeavesInM Fence.wide 9 P fn a'.tmps (fun e w'=>e=.returned v∧Below w0.heap.size w0 w') (a'.defers++Jc Ds) .returning w') (fun _ _ _ _ _ h=>by rcases h.1 with h|h<;>cases h) (fun _ _ _ _ _ _ h=>False.elim h) fun e σ' d' r' a' w' hk hS' _ _=>?_) fun e a' w' hq=>?_
 ·obtain⟨he,s,hK,hres⟩:=GE (w0:=w0) hT (rs:=fn.results.toList) rfl (TD hk)
  obtain⟨hK,m,hm1⟩:=GO hK
  obtain⟨hp,hv⟩:=Qp hK
  have hF:PU σ r W.heap.size W w':=DU hS hS' hm1
  refine⟨by rcases he with rfl|rfl<;>simp[Ex.to],?_⟩
  rw[hS'.defers,Ry]
  refine VG (w0:=w0) (v:=v) (J:=fun w=>Sat w0 (Bk σ') ⟨r'.b,r'.x,fun _ _=>False⟩ a' w) (fun w h=>?_) (fun w D h h1 h2=>?_) Ds w' hS'.tops hn fun D hm2=>?_
  ·have h1:=hres _ _ _ h
   rw[J8 hp,hv]at h1
   exact⟨h1,rfl,h.see.low⟩
  ·refine h.grown (fun i R hi=>?_) (grownBy_putObj' w D (.deferred none)) fun k e=>?_
   ·have h2:Xk (Bk σ').rs i=(Xk σ'.rs i).map fun _=>JE:=IE _ _ _
    rw[h2]at hi
    cases e:Xk σ'.rs i with
    | none=>rw[e]at hi;cases hi
    | some R'=>rw[e]at hi;exact(Option.some.inj hi).symm
   ·obtain rfl:=Option.some.inj e
    exact⟨h2,_,h1,rfl⟩
  ·obtain⟨h1,h2⟩:=hD D hm2
   refine⟨(hF D (Array.getElem?_eq_some_iff.1 h1).1 fun i p hi e=>?_).trans h1,h2⟩
   have h3:=(hS.see.bs i p.1 p.2 hi).1
   rw[e]at h3
   rw[show W.heap[D]?=some (.cells _ p.1 (0,0))from h3]at h1
   cases h1
 ·obtain⟨b,rfl,he,hq⟩:=hq
  rcases he with rfl|rfl
  ·exact hq
  ·exact hq
theorem Nl(hT:YF P tt){W:World}(hS:Sat w0 σ r a W)(hrs:σ.rs=[])(h:JX tt fn.results.toList .ret σ fun s=>ZQ s.plain (s.den e0=v)){Ds:List Nat}(hn:Ds.Nodup)(hD:∀D,D∈Ds→W.heap[D]?=some (.deferred (some []))∧w0.heap.size≤D):
  Eu (bodyPostM Fence.wide 9 P fn fun e w'=>e=.returned v∧Below w0.heap.size w0 w') .ret (Yg (Jc Ds) a) W:=by
 obtain⟨he,s,hK,hres⟩:=GE (w0:=w0) hT (rs:=fn.results.toList) rfl h
 obtain⟨hp,hv⟩:=Qp hK
 show LeavesInM Fence.wide 9 P fn a.tmps _ (a.defers++Jc Ds) .returning W
 rw[hS.defers,Ry]
 refine VG (w0:=w0) (v:=v) (J:=fun w=>Sat w0 σ r a w) (fun w h=>?_) (fun w D h h1 h2=>?_) Ds W hS hn hD
 ·have h1:=hres _ _ _ h
  rw[J8 hp,hv]at h1
  exact⟨h1,rfl,h.see.low⟩
 ·refine h.grown (fun i R hi=>by rw[hrs]at hi;cases hi) (grownBy_putObj' w D (.deferred none)) fun k e=>?_
  obtain rfl:=Option.some.inj e
  exact⟨h2,_,h1,rfl⟩
theorem WD(hT:YF P tt)(hm:P.follows .mixedOrders=true)(hf:P.funcs[f]?=some fn)(hb:fn.body=some c){args:List Value}(hl:Nat.ble args.length fn.ntmps=true){d:List Dir}(h:FP P tt (KM P tt w0) (0,0) w0 E c (MR fn.ntmps args) d fun e σ _=>JX tt fn.results.toList e σ fun s=>ZQ s.plain (s.den e0=v))(hE:∀b σ r a w,E b σ→Sat w0 σ r a w→b.wp P (Eu (bodyPostM Fence.wide 9 P fn fun e w'=>e=.returned v∧Below w0.heap.size w0 w')) a w): Calls P f args.toArray w0 fun e w'=>e=.returned v∧Below w0.heap.size w0 w':=by
 refine callsIn_wide.1 (callsIn_of_wp_marks (F:=Fence.wide) (n:=9) hf hb trivial (wpIn_wide.2 ?_) rfl)
 refine wp_mono (M2 hT hm (Kk hT hm 9) (0,0) (Q:=Eu (bodyPostM Fence.wide 9 P fn fun e w'=>e=.returned v∧Below w0.heap.size w0 w')) (dh _) hE c _ d _ h ⟨L9 _,L9 _⟩ _ _ _ (ic (Lr hl) w0) (fun _ _ _ _ _ _ h=>False.elim h) fun e σ' d' r' a' w' hk hS' _ _=>?_) fun e a' w' hq=>bT hq
 ·obtain⟨he,s,hK,hres⟩:=GE (w0:=w0) hT (rs:=fn.results.toList) rfl hk
  obtain⟨hp,hv⟩:=Qp hK
  have h1:=hres _ _ _ hS'
  rw[J8 hp,hv]at h1
  have h2:LeavesInM Fence.wide 9 P fn a'.tmps (fun e w'=>e=.returned v∧Below w0.heap.size w0 w') a'.defers .returning w':=by
   rw[hS'.defers]
   exact⟨v,h1,rfl,hS'.see.low⟩
  rcases he with rfl|rfl
  ·exact h2
  ·exact h2
def ia(tl:Option Code)(τ:St)(C:Prop)(b:Code)(σ:St): Prop:=tl=some b∧C∧Jk σ τ True
theorem BQ{C:Prop}(h:ia tl τ C b σ){w:World}(hS:Sat w0 σ r a w): tl=some b∧C∧Sat w0 τ r a w :=
 ⟨h.1,h.2.1,(Ya (w0:=w0) h.2.2).2 _ _ _ hS⟩
def Mi{β:Type}(τ:β→St)(i:Nat)(ρ:β→Res)(σ:St): Prop:=∃y:β,JG (Xk σ.rs i) (fun R=>∀x S w,R.φ x S w→(ρ y).φ x S w)∧Jk σ (τ y) True
theorem GD{τ:β→St}{i:Nat}{ρ:β→Res}(h:Mi τ i ρ σ){w:World}(hS:Sat w0 σ r a w): ∃y,(ρ y).φ (r.x i) (r.S i) w∧Sat w0 (τ y) r a w:=by
 obtain⟨y,h3,h4⟩:=h
 obtain⟨R,h5,h6⟩:=QY h3
 exact⟨y,h6 _ _ _ (hS.see.rs i R h5).1,(Ya (w0:=w0) h4).2 _ _ _ hS⟩
def nV{β:Type}(tl:Option Code)(τ:β→St)(i:Nat)(ρ:β→Res)(C:Prop)(b:Code)(σ:St): Prop:=tl=some b∧C∧∃y:β,JG (Xk σ.rs i) (fun R=>∀x S w,R.φ x S w→(ρ y).φ x S w)∧Jk σ (τ y) True
theorem UW{τ:β→St}{i:Nat}{ρ:β→Res}{C:Prop}(h:nV tl τ i ρ C b σ){w:World}(hS:Sat w0 σ r a w): tl=some b∧C∧∃y,(ρ y).φ (r.x i) (r.S i) w∧Sat w0 (τ y) r a w:=by
 obtain⟨h1,h2,y,h3,h4⟩:=h
 obtain⟨R,h5,h6⟩:=QY h3
 exact⟨h1,h2,y,h6 _ _ _ (hS.see.rs i R h5).1,(Ya (w0:=w0) h4).2 _ _ _ hS⟩
def Ko(n:Nat)(fn:Func): Code:=(KP n fn).getD .skip
theorem Iz{n:Nat}(h:KP n fn=some b): Ko n fn=b:=by unfold Ko;rw[h];rfl
def An(P:Program)(tt:List (Nat×TI))(W:World)(fn:Func)(E:Code→St→Prop)(σ:St)(d:List Dir)(K:Ex→St→List Dir→Prop): Prop:=match fn.body with
 | some c=>FP P tt (KM P tt W) (0,0) W E c σ d K
 | none=>False
def DE(P:Program)(w0:World)(fn:Func)(v:Value): Exit→Act→World→Prop:=Eu (bodyPostM Fence.wide 9 P fn fun e w'=>e=.returned v∧Below w0.heap.size w0 w')
theorem Bq(hT:YF P tt)(hm:P.follows .mixedOrders=true)(hok:ku b=true){bsR:List (Option (TypeId×List SV))}(hbR:bsR.length=σ.bs.length){xs:List α}{gf:Nat}{enc:α→Value}{good:α→Bool}(hrs:σ.rs=[])(hall:fk σ.bs=true)(hp:Bl (some (lX b)) σ.n=true)(hround:∀x,x∈xs→∃d,∀R:Res,XH P tt (KM P tt w0) (σ.bs.length,0) w0 (lR b) { σ.push (some (lX b)) (.val (enc x))with rs:=[some R] } d (ax P tt w0 σ bsR (lP b) (good x) R)){w:World}(hS:Sat w0 σ r a w)(hg:a.eval (jm b)=.func (.func gf) #[] lb)(he:Yf P gf)(hseq:SeqStopsK Fence.wide 8 P gf lb (fun x:{x // x∈xs}=>#[enc x.1]) KpC (fun ys=>ys=xs.attach) (fun _=>True) xs.length w){Ds:List Nat}(hn:Ds.Nodup)(hD:∀D,D∈Ds→w.heap[D]?=some (.deferred (some []))∧w0.heap.size≤D)(hfin:(∃x,x∈xs∧good x=false)→JX tt fn.results.toList .ret { σ with bs:=bsR } fun s=>ZQ s.plain (s.den e0=v))(hrest:(∀x,x∈xs→good x=true)→∀D r' W,Sat w0 σ r' a W→(D::Ds).Nodup→(∀D',D'∈D::Ds→W.heap[D']?=some (.deferred (some []))∧w0.heap.size≤D')→(NV b).wp P (DE P w0 fn v) (Yg (Jc (D::Ds)) a) W):
  (nZ b).wp P (Exit.then ((NV b).wp P (DE P w0 fn v)) (DE P w0 fn v)) (Yg (Jc Ds) a) w:=by
 obtain⟨he1,hna,hnb⟩:=jq hok
 have hlt:∀D,D∈Ds→D<w.heap.size:=fun D h=>(Array.getElem?_eq_some_iff.1 (hD D h).1).1
 have hkeep:∀D r' W,w.heap.size≤D→W.heap[D]?=some (.deferred (some []))→PU σ r w.heap.size w W→AgN (σ.bs.length,0) r r'→(D::Ds).Nodup∧∀D',D'∈D::Ds→W.heap[D']?=some (.deferred (some []))∧w0.heap.size≤D':=fun D r' W h1 h2 h3 h4=>by
  refine⟨Uf.2 ⟨fun h=>by have:=hlt D h;omega,hn⟩,fun D' h=>?_⟩
  rcases Lp.1 h with rfl|h
  ·exact⟨h2,L8 hS.see.low.size h1⟩
  ·obtain⟨k1,k2⟩:=hD D' h
   refine⟨(h3 D' (hlt D' h) fun i p hi e=>?_).trans k1,k2⟩
   have k3:=(hS.see.bs i p.1 p.2 hi).1
   rw[e]at k3
   rw[show w.heap[D']?=some (.cells _ p.1 (0,0))from k3]at k1
   cases k1
 refine wp_block (kj hT hm hbR hrs hall hp hna hnb hround hS hg he hseq (fun D r' W h1 h2 h3 h4 h5 h6=>?_) fun D r' W h1 h2 h3 h4 h5 h6=>?_)
 ·obtain⟨k1,k2⟩:=hkeep D r' W h4 h5 h3 h2
  exact hrest h6 D r' W h1 k1 k2
 ·obtain⟨k1,k2⟩:=hkeep D r' W h4 h5 h3 h2
  exact Nl hT h1 hrs (hfin h6) k1 k2
def JZ:Code→Code
 | .seq x _=>x
 | _=>.skip
def Xf:Code→Code
 | .seq _ y=>y
 | _=>.skip
def gp(R:Res)(E:St→Prop)(e:Ex)(σ:St): Prop:=match e with
 | .normal=>H6 R σ.rs (E σ)
 | _=>False
theorem Ca(hT:YF P tt)(hm:P.follows .mixedOrders=true){W:World}(hS:Sat w0 σ r a W)(hrs:σ.rs=[])(hok:ku b=true){d:List Dir}{E:St→Prop}(h:∀R,XH P tt (KM P tt w0) (0,0) w0 (lT b) { σ with rs:=[some R] } d fun e σ' _=>gp R E e σ'){Ds:List Nat}(hD:∀D,D∈Ds→W.heap[D]?=some (.deferred (some []))∧w0.heap.size≤D)(hE:∀σ' r' a' W',E σ'→Sat w0 σ' r' a' W'→(∀D,D∈Ds→W'.heap[D]?=some (.deferred (some []))∧w0.heap.size≤D)→(nZ b).wp P (Exit.then ((NV b).wp P (DE P w0 fn v)) (DE P w0 fn v)) (Yg (Jc Ds) a') W'):
  b.wp P (DE P w0 fn v) (Yg (Jc Ds) a) W:=by
 have hfz:=IQ hS hrs
 rw[(jq hok).1]
 refine wp_seq (wp_seq (wp_mono (VH (FZ hm (ds:=Jc Ds)) hT (Kk hT hm 9) (0,0) (lT b) _ d _ (h _) ⟨L9 _,L9 _⟩ _ a W hfz (fun e a' w'=>e=.normal∧(nZ b).wp P (Exit.then ((NV b).wp P (DE P w0 fn v)) (DE P w0 fn v)) (Yg (Jc Ds) a') w') (fun _ _ _ _ _ h=>by cases h.1) (fun _ _ _ _ _ _ h=>False.elim h) fun e σ' d' r' a' w' hk hS' _ _=>?_) fun e a' w' hq=>?_))
 ·cases e with
  | normal =>
   obtain⟨hk,m,hm1⟩:=GO (show H6 _ σ'.rs (E σ')from hk)
   have hF:PU σ r W.heap.size W w':=DU hS hS' hm1
   refine⟨rfl,hE σ' r' a' w' hk hS' fun D hm2=>?_⟩
   obtain⟨h1,h2⟩:=hD D hm2
   refine⟨(hF D (Array.getElem?_eq_some_iff.1 h1).1 fun i p hi e=>?_).trans h1,h2⟩
   have h3:=(hS.see.bs i p.1 p.2 hi).1
   rw[e]at h3
   rw[show W.heap[D]?=some (.cells _ p.1 (0,0))from h3]at h1
   cases h1
  | ret=>exact False.elim hk
  | exit i=>exact False.elim hk
 ·obtain⟨b,rfl,rfl,hq⟩:=hq
  exact hq
theorem Ul(hT:YF P tt)(hm:P.follows .mixedOrders=true)(hf:P.funcs[f]?=some fn){args:List Value}(hl:Nat.ble args.length fn.ntmps=true){R:Ending→World→Prop}{d:List Dir}(h:An P tt w0 fn E (MR fn.ntmps args) d fun _ _ _=>False)(hE:∀b σ r a w,E b σ→Sat w0 σ r a w→b.wp P (bodyPost P fn R) a w): Calls P f args.toArray w0 R:=by
 unfold An at h
 cases hb:fn.body with
 | none =>
  rw[hb]at h
  exact h.elim
 | some c =>
  rw[hb]at h
  refine calls_of_wp hf hb (wp_mono (M2 hT hm (Kk hT hm 9) (0,0) (Q:=bodyPost P fn R) (fun d v ch a w hq=>⟨hq.1,hq.2⟩) hE c _ d _ h ⟨L9 _,L9 _⟩ _ _ _ (ic (Lr hl) w0) (fun _ _ _ _ _ _ h=>False.elim h) fun e σ' d' r' a' w' hk hS' _ _=>hk.elim) fun e a w h=>h)
theorem Im(hT:YF P tt)(hm:P.follows .mixedOrders=true)(he:Yf P f)(hf:P.funcs[f]?=some fn){args:List Value}(hl:Nat.ble args.length fn.ntmps=true)(h:∀W,Below w0.heap.size w0 W→∃E d,An P tt W fn E (MR fn.ntmps args) d (fun e σ _=>JX tt fn.results.toList e σ fun s=>ZQ s.plain (s.den e0=v)) ∧
   ∀b σ r a w,E b σ→Sat W σ r a w→b.wp P (DE P W fn v) (Yg (Jc []) a) w): RetAt P w0 f args.toArray v:=by
 refine⟨he,fun W hW=>?_⟩
 obtain⟨E,d,h1,h2⟩:=h W hW
 unfold An at h1
 cases hb:fn.body with
 | none =>
  rw[hb]at h1
  exact h1.elim
 | some c =>
  rw[hb]at h1
  refine WD hT hm hf hb hl (E:=E) h1 fun b σ r a w k1 k2=>?_
  have h3:=h2 b σ r a w k1 k2
  rwa [show Yg (Jc []) a=a by simp[Yg,Jc]]at h3
end
def ML(y:Nat)(t:TypeId)(cs:List Value): Res where
 φ x S w:=x=.bool false∧Bx w y t cs.toArray∧∀b,S b↔b=y
 one _ _ _ h:=by rw[h.1];rfl
 loc x S w w' h hφ:=⟨hφ.1,(h y ((hφ.2.2 y).2 rfl)).trans hφ.2.1,hφ.2.2⟩
theorem Ye{T U:Prop}(h:T)(hk:T=U): U:=hk▸h
def ks:Code→Code
 | .block _ b=>b
 | _=>.skip
def nO:Code→Nat
 | .block i _=>i
 | _=>0
def n0:Code→Code
 | .loop b=>b
 | _=>.skip
def px:Code→Operand
 | .cond c _ _=>c
 | _=>.tmp 0
def VD:Code→Array Oper
 | .region _ o _=>o
 | _=>#[]
def gj:Code→Nat
 | .region i _ _=>i
 | _=>0
def nI(c:Code): Code:=JZ (n0 (ks c))
def m9(c:Code): Operand:=px (JZ (Xf (n0 (ks c))))
def ob(c:Code): Code:=JZ (Xf (Xf (n0 (ks c))))
def nG(c:Code): Code:=JZ (ks (ob c))
def Do(c:Code): Code:=JZ (Xf (ks (ob c)))
def lS(c:Code): Operand:=px (Xf (Xf (ks (ob c))))
def lQ(c:Code): Code:=Xf (Xf (Xf (n0 (ks c))))
def ae(c:Code): Code:=.block (nO c) (.loop (.seq (nI c) (.seq (.cond (m9 c) .skip (.exit (nO c))) (.seq (.block (nO (ob c)) (.seq (nG c) (.seq (.region (gj (Do c)) (VD (Do c)) false) (.cond (lS c) .ret .skip)))) (lQ c)))))
def OO(o:Oper): Option (Operand×List Operand):=match o.op,o.guard with
 | .call c,none=>(match c.callee with
  | .value f=>some (f,c.args.toList)
  | _=>none)
 | _,_=>none
def GU(e:Ex)(p:Prop): Prop:=match e with
 | .normal=>p
 | _=>False
section
variable {P:Program} {tt:List (Nat×TI)} {w0:World}
theorem pi{n:Nat}{w:World}{next next':Act→World→Prop}{Q:Exit→Act→World→Prop}(ho:Hl o=true)(hn:∀a w,next a w→next' a w)(h:o.wp P a w next Q): o.wpIn Fence.wide n P a w next' Q:=by
 refine⟨fun _ _=>trivial,?_⟩
 rw[Oper.semAt_eq _ _ _ (fun c e=>by unfold Hl at ho;rw[e]at ho;cases ho)]
 revert h
 unfold Oper.wp
 generalize (execOp a.eval o).run P w=r
 intro h
 cases r with
 | halt h0 w=>cases h0<;>first|exact h|exact False.elim h
 | ok x w =>
  cases x with
  | value v=>exact hn _ _ h
  | skip=>exact hn _ _ h
  | defer d=>exact hn _ _ h
  | enter f args =>
   refine⟨fun h=>(by cases h),(callsIn_wide.2 (show Calls P f args w _ from h)).mono fun e w' h=>?_⟩
   cases e with
   | returned v=>exact hn _ _ h
   | panicked c=>exact h
   | outgrown=>exact h
  | row row args=>exact⟨fun h=>(by cases h),fun c cs _=>let ⟨v,w',r,s⟩:=(show Rows P row args w _ from h) c cs;⟨v,w',hn _ _ r,stepsIn_wide.2 s⟩⟩
  | _=>exact False.elim h
theorem Ir{n:Nat}{Q Q':Exit→Act→World→Prop}{m2:List Oper}(hQ:¬ LetsOut Q')(hp:∀c a w,¬ Q' (.panic c) a w)(hn:∀a w,Q' .normal a w→wpListIn Fence.wide n P ops Q m2 a w): ∀ {m:List Oper} {a:Act} {w:World},m.all Hl=true→wpList P ops Q' m a w→wpListIn Fence.wide n P ops Q (m++m2) a w
 | [],_,_,_,h=>hn _ _ h
 | o::m,a,w,hm,h=>by
  obtain⟨h1,h2⟩:=L6.1 (show(Hl o&&m.all Hl)=true from hm)
  show wpListIn Fence.wide n P ops Q (o::(m++m2)) a w
  unfold wpListIn
  unfold wpList at h
  split
  ·rename_i hw
   rw[if_pos hw]at h
   rcases h with h|h
   ·have h3:=pi (n:=n) h1 (fun a w=>Ir (Q:=Q) hQ hp hn h2) h
    refine⟨h3.1,?_⟩
    revert h3
    rintro⟨_,h3⟩
    revert h3
    generalize (o.semAt Fence.wide.round a.eval).run P w=r
    intro h3
    cases r with
    | halt h0 w=>cases h0<;>first|exact absurd h3 (hp _ _ _)|exact False.elim h3
    | ok x w =>
     cases x with
     | enter f args =>
      refine⟨h3.1,h3.2.mono fun e w' h=>?_⟩
      cases e with
      | returned v=>exact h
      | panicked c=>exact absurd h (hp _ _ _)
      | outgrown=>exact absurd h hQ
     | round l f t a b =>
      refine⟨h3.1,h3.2.mono fun e w' h=>?_⟩
      cases e with
      | returned v=>exact h
      | panicked c=>exact absurd h (hp _ _ _)
      | outgrown=>exact absurd h hQ
     | _=>exact h3
   ·exact absurd h.2 hQ
  ·rename_i hw
   rw[if_neg hw]at h
   exact⟨fun _ _=>trivial,Ir hQ hp hn h2 h⟩
theorem Sat.rebase{w:World}(h:Sat w0 τ r a w)(hb:τ.bs=[])(hr:τ.rs=[])(V:World): Sat V τ e0 a V:=by
 have hag:Ag τ r e0:=⟨fun i hi=>by rw[hb]at hi;exact absurd hi (Rc _),fun i hi=>by rw[hr]at hi;exact absurd hi (Rc _)⟩
 refine⟨⟨Below.refl _ _,h.see.size,fun k s hk=>?_,fun i t cs hi=>?_,fun i R hi=>?_,fun i hi=>?_⟩,⟨fun i p hi=>?_,fun i j p q hi=>?_,fun i R hi=>?_,fun i j R R' hi=>?_,fun i j p R hi=>?_⟩,h.defers⟩
 ·obtain⟨h1,h2⟩:=h.see.ts k s hk
  exact⟨by rw[hag.den h2];exact h1,h2⟩
 all_goals first|(rw[hb]at hi;cases hi;done)|(rw[hr]at hi;cases hi;done)|(rw[hr]at hi;exact absurd hi (Rc _))
theorem UF{f:Operand}{l:Nat}{args:List Operand}(hc:OO o=some (f,args)){vs:List Value}(hf:a.eval f=.func (.yield l) #[] #[])(hv:args.map a.eval=vs)(W:World):
  (execOp a.eval o).run P W=(Instr.yield l vs.toArray).run P W∧o.guard=none∧Hl o=true:=by
 unfold OO at hc
 split at hc
 ·rename_i c e1 e2
  split at hc
  ·rename_i f' e3
   simp only[Option.some.injEq,Prod.mk.injEq]at hc
   obtain⟨rfl,rfl⟩:=hc
   refine⟨?_,e2,by unfold Hl;rw[e1]⟩
   unfold execOp
   rw[e1]
   simp only[resolve,e3,hf,Deferred.ofValue,Sem.run_bind,Sem.run_pure,Result.andThen_ok,invoke]
   rw[Zz _ _ _ hv]
   simp
  ·cases hc
 ·cases hc
end
