/- The walks and plain laws beneath the statements. -/
import Derived.Test.YtaelfkdjlioegaaGreatDoorQO3
import Derived.RangeFuncNested
import Derived.RangeFuncBound
import Derived.RangeFuncCalls
import Derived.RangeFuncLeaves
import Derived.OrdersIn
namespace Go.Proofs.YtaelfkdjlioegaaGreatDoor
open Go Go.RowKit
def ndO(o:Oper): Bool:=match o.op with
 | .defer _=>false
 | _=>true
def ndC:Code→Bool
 | .skip=>true
 | .region _ ops _=>ops.toList.all ndO
 | .seq a b=>ndC a&&ndC b
 | .cond _ a b=>ndC a&&ndC b
 | .block _ b=>ndC b
 | .loop b=>ndC b
 | .exit _=>true
 | .label _=>true
 | .ret=>true
 | _=>false
section
variable {P:Program} {l n:Nat}
theorem rows_in{row:String}{args:Array Value}{w:World}{R:Value→World→Prop}(h:Rows P row args w R): RowsIn (Fence.wide.inRound l) n P row args w R :=
 fun c cs _=>let ⟨v,w',r,s⟩:=h c cs;⟨v,w',r,stepsIn_wide.2 s⟩
theorem upon_in{o:Oper}{a:Act}{next next':Act→World→Prop}{Q:Exit→Act→World→Prop}(hn:∀a w,next a w→next' a w)(r:Result Next)(h:o.upon P a next Q r): o.uponIn (Fence.wide.inRound l) n P a next' Q r:=by
 cases r with
 | halt h0 w=>cases h0<;>first|exact h|exact False.elim h
 | ok x w =>
  cases x with
  | value v=>exact hn _ _ h
  | skip=>exact hn _ _ h
  | defer d=>exact hn _ _ h
  | enter f args =>
   refine⟨fun h=>(by cases h),(CallsIn.inRound l (callsIn_wide.2 (show Calls P f args w _ from h))).mono fun e w' h=>?_⟩
   cases e with
   | returned v=>exact hn _ _ h
   | panicked c=>exact h
   | outgrown=>exact h
  | row row args=>exact⟨fun h=>(by cases h),(rows_in (show Rows P row args w _ from h)).mono fun v w' h=>hn _ _ h⟩
  | _=>exact False.elim h
theorem op_in{o:Oper}{a:Act}{w:World}{next next':Act→World→Prop}{Q:Exit→Act→World→Prop}(ho:ndO o=true)(hn:∀a w,next a w→next' a w)(h:o.wp P a w next Q): o.wpIn (Fence.wide.inRound l) n P a w next' Q:=by
 refine⟨fun _ _=>trivial,?_⟩
 rw[Oper.semAt_eq _ _ _ (fun c e=>by unfold ndO at ho;rw[e]at ho;cases ho)]
 exact upon_in hn _ h
theorem list_in{ops:Array Oper}{Q:Exit→Act→World→Prop}(hQ:¬ LetsOut Q): ∀ {m:List Oper} {a:Act} {w:World},m.all ndO=true→wpList P ops Q m a w→wpListIn (Fence.wide.inRound l) n P ops Q m a w
 | [],_,_,_,h=>h
 | o::m,a,w,hm,h=>by
  obtain⟨h1,h2⟩:=Bool.and_eq_true_iff.1 (show(ndO o&&m.all ndO)=true from hm)
  unfold wpListIn
  unfold wpList at h
  split
  ·rename_i hw
   rw[if_pos hw]at h
   rcases h with h|h
   ·exact op_in h1 (fun a w=>list_in hQ h2) h
   ·exact absurd h.2 hQ
  ·rename_i hw
   rw[if_neg hw]at h
   exact⟨fun _ _=>trivial,list_in hQ h2 h⟩
theorem any_in{md:Region.Mode}{ops:Array Oper}{Q:Exit→Act→World→Prop}(hQ:¬ LetsOut Q)(ho:ops.toList.all ndO=true): ∀(fuel:Nat) (listed:Array Bool) (a:Act) (w:World),wpAny P md ops Q fuel listed a w→wpAnyIn (Fence.wide.inRound l) n P md ops Q fuel listed a w
 | 0,_,_,_,h=>h
 | fuel+1,listed,a,w,h=>by
  refine⟨h.1,fun i hi=>?_⟩
  have h1:=h.2 i hi
  unfold wpOp at h1
  unfold wpOpIn
  split
  ·rename_i e
   rw[e]at h1
   exact any_in hQ ho fuel _ _ _ h1
  ·rename_i o e
   rw[e]at h1
   dsimp only at h1
   have hno:ndO o=true:=List.all_eq_true.1 ho o (by
    obtain⟨hl,rfl⟩:=Array.getElem?_eq_some_iff.1 e
    exact Array.getElem_mem_toList hl)
   split
   ·rename_i hw
    rw[if_pos hw]at h1
    rcases h1 with h1|h1
    ·exact op_in hno (fun a w=>any_in hQ ho fuel _ a w) h1
    ·exact absurd h1.2 hQ
   ·rename_i hw
    rw[if_neg hw]at h1
    exact⟨fun _ _=>trivial,any_in hQ ho fuel _ _ _ h1⟩
theorem wpIn_loop_gen{F:Fence}{α:Type}{c:Code}{Q:Exit→Act→World→Prop}(J:α→Act→World→Prop)(μ:α→Nat)(round:∀x a w,J x a w→c.wpIn F n P (Exit.then (fun a' w'=>∃y,J y a' w'∧μ y<μ x) Q) a w)(x0:α){a:Act}{w:World}(h0:J x0 a w): (Code.loop c).wpIn F n P Q a w:=by
 intro b k cs hro hb hr
 have key:∀j x a w,μ x=j→J x a w→∃e a' w',Q e a' w'∧ArrivesIn (Machine.fenced P F) P (lone (b.atR a (.code c::.inLoop c::k)) cs w) b k cs e a' w':=by
  intro j
  induction j using Nat.strongRecOn with
  | _ j ih =>
   intro x a w hn hI
   obtain⟨e,a₁,w₁,hq,harr⟩:=round x a w hI b (.inLoop c::k) cs hro hb hr
   cases e with
   | normal =>
    obtain⟨y,hI₁,hlt⟩:=hq
    obtain⟨e₂,a₂,w₂,hq₂,harr₂⟩:=ih (μ y) (hn▸hlt) y a₁ w₁ rfl hI₁
    exact⟨e₂,a₂,w₂,hq₂,.of_steps (StepsIn.trans harr (.one (fenced_calm hb hr rfl) stepR_inLoop)) harr₂⟩
   | exit id=>exact⟨_,a₁,w₁,hq,.pass (x:=.inLoop c) rfl (fun _ _=>.inl (by simp)) harr⟩
   | goto l=>exact⟨_,a₁,w₁,hq,.pass (x:=.inLoop c) rfl (fun _ _=>.inl (by simp)) harr⟩
   | ret=>exact⟨_,a₁,w₁,hq,.pass (x:=.inLoop c) rfl (fun _ _=>.inl (by simp)) harr⟩
   | panic ch=>exact⟨_,a₁,w₁,hq,.pass (x:=.inLoop c) rfl (fun _ _=>.inl (by simp)) harr⟩
   | outgrown=>exact⟨_,a₁,w₁,hq,.pass (x:=.inLoop c) rfl (fun _ _=>.inl (by simp)) harr⟩
 obtain⟨e,a',w',hq,harr⟩:=key _ x0 a w rfl h0
 exact⟨e,a',w',hq,.of_steps (.one (fenced_calm hb hr rfl) stepR_loop) harr⟩
def VIn(P:Program)(l n:Nat)(c:Code)(Q:Exit→Act→World→Prop)(a:Act)(w:World): Prop:=ndC c=true→¬ LetsOut Q→c.wpIn (Fence.wide.inRound l) n P Q a w
theorem rules_in(hm:P.follows .mixedOrders=true): Rules P (VIn P l n) where
 skip h _ _:=wpIn_skip h
 label h _ _:=wpIn_label h
 exit h _ _:=wpIn_exit h
 ret h _ _:=wpIn_ret h
 rl h ho hQ:=wpIn_region_list (list_in hQ ho h)
 rd h ho hQ:=wpIn_region_any hm (any_in hQ ho _ _ _ _ h)
 seq {x y Q a w} h ho hQ:=by
  obtain⟨h1,h2⟩:=Bool.and_eq_true_iff.1 (show(ndC x&&ndC y)=true from ho)
  refine wpIn_seq (wpIn_mono (h h1 hQ) fun e a w hq=>?_)
  cases e with
  | normal=>exact hq h2 hQ
  | _=>exact hq
 ct {c x y Q a w} he h ho hQ:=wpIn_cond_true he (h (Bool.and_eq_true_iff.1 (show(ndC x&&ndC y)=true from ho)).1 hQ)
 cf {c x y Q a w} he h ho hQ:=wpIn_cond_false he (h (Bool.and_eq_true_iff.1 (show(ndC x&&ndC y)=true from ho)).2 hQ)
 block h ho hQ:=wpIn_block (h ho hQ)
 loop J μ h x0 _ _ h0 ho hQ:=wpIn_loop_gen J μ (fun x a w hJ=>h x a w hJ ho hQ) x0 h0
def addD(ds:List Deferred)(a:Act): Act:={ a with defers:=a.defers++ds }
def postD(ds:List Deferred)(Q:Exit→Act→World→Prop)(e:Exit)(a:Act)(w:World): Prop:=∃b,a=addD ds b∧Q e b w
theorem addD_eval(ds:List Deferred)(a:Act): (addD ds a).eval=a.eval:=rfl
theorem addD_put(ds:List Deferred)(a:Act)(d:Option Tmp)(v:Value): (addD ds a).put d v=addD ds (a.put d v):=by cases d<;>rfl
theorem letsOut_D{ds:List Deferred}{Q:Exit→Act→World→Prop}(h:LetsOut Q): LetsOut (postD ds Q):=let ⟨a,w,h⟩:=h;⟨addD ds a,w,a,rfl,h⟩
theorem op_D{ds:List Deferred}{o:Oper}{a:Act}{w:World}{next next':Act→World→Prop}{Q:Exit→Act→World→Prop}(hn:∀a w,next a w→next' (addD ds a) w)(h:o.wp P a w next Q): o.wp P (addD ds a) w next' (postD ds Q):=by
 unfold Oper.wp at h ⊢
 rw[addD_eval]
 revert h
 generalize (execOp a.eval o).run P w=r
 intro h
 cases r with
 | halt h0 w'=>cases h0<;>first|exact⟨_,rfl,h⟩|exact False.elim h
 | ok x w' =>
  cases x with
  | value v=>show next' ((addD ds a).put o.dst v) w';rw[addD_put];exact hn _ _ h
  | skip=>show next' ((addD ds a).put o.dst undef) w';rw[addD_put];exact hn _ _ h
  | defer d =>
   show next' (({ addD ds a with defers:=d::(addD ds a).defers }:Act).put o.dst undef) w'
   rw[show({ addD ds a with defers:=d::(addD ds a).defers }:Act)=addD ds { a with defers:=d::a.defers } from rfl,addD_put]
   exact hn _ _ h
  | enter f args =>
   refine(show Calls P f args w' _ from h).mono fun e w'' h=>?_
   cases e with
   | returned v=>show next' ((addD ds a).put o.dst v) w'';rw[addD_put];exact hn _ _ h
   | panicked c=>exact⟨_,rfl,h⟩
   | outgrown=>exact letsOut_D h
  | row row args =>
   refine(show Rows P row args w' _ from h).mono fun v w'' h=>?_
   show next' ((addD ds a).put o.dst v) w''
   rw[addD_put]
   exact hn _ _ h
  | _=>exact False.elim h
theorem asks_D{ds:List Deferred}{o:Oper}{a:Act}{w:World}(h:o.asks P a w): o.asks P (addD ds a) w:=h
theorem list_D{ds:List Deferred}{ops:Array Oper}{Q:Exit→Act→World→Prop}: ∀ {m:List Oper} {a:Act} {w:World},wpList P ops Q m a w→wpList P ops (postD ds Q) m (addD ds a) w
 | [],_,_,h=>⟨_,rfl,h⟩
 | o::m,a,w,h=>by
  unfold wpList at h ⊢
  rw[show(addD ds a).tmps=a.tmps from rfl]
  split
  ·rename_i hw
   rw[if_pos hw]at h
   rcases h with h|h
   ·exact .inl (op_D (fun a w=>list_D) h)
   ·exact .inr ⟨asks_D h.1,letsOut_D h.2⟩
  ·rename_i hw
   rw[if_neg hw]at h
   rw[addD_put]
   exact list_D h
theorem any_D{ds:List Deferred}{md:Region.Mode}{ops:Array Oper}{Q:Exit→Act→World→Prop}: ∀(fuel:Nat) (listed:Array Bool) (a:Act) (w:World),wpAny P md ops Q fuel listed a w→wpAny P md ops (postD ds Q) fuel listed (addD ds a) w
 | 0,_,_,_,h=>⟨h.1,_,rfl,h.2⟩
 | fuel+1,listed,a,w,h=>by
  refine⟨fun e=>⟨_,rfl,h.1 e⟩,fun i hi=>?_⟩
  have h1:=h.2 i hi
  unfold wpOp at h1 ⊢
  split
  ·rename_i e
   rw[e]at h1
   exact any_D fuel _ _ _ h1
  ·rename_i o e
   rw[e]at h1
   dsimp only at h1
   rw[show(addD ds a).tmps=a.tmps from rfl]
   split
   ·rename_i hw
    rw[if_pos hw]at h1
    rcases h1 with h1|h1
    ·exact .inl (op_D (fun a w=>any_D fuel _ a w) h1)
    ·exact .inr ⟨asks_D h1.1,letsOut_D h1.2⟩
   ·rename_i hw
    rw[if_neg hw]at h1
    rw[addD_put]
    exact any_D fuel _ _ _ h1
def VDef(P:Program)(ds:List Deferred)(c:Code)(Q:Exit→Act→World→Prop)(a:Act)(w:World): Prop:=c.wp P (postD ds Q) (addD ds a) w
theorem rules_def(hm:P.follows .mixedOrders=true){ds:List Deferred}: Rules P (VDef P ds) where
 skip h:=wp_skip ⟨_,rfl,h⟩
 label h:=wp_label ⟨_,rfl,h⟩
 exit h:=wp_exit ⟨_,rfl,h⟩
 ret h:=wp_ret ⟨_,rfl,h⟩
 rl h:=wp_region_list (list_D h)
 rd h:=wp_region_any hm (any_D _ _ _ _ h)
 seq h:=wp_seq (wp_mono h fun e a w hq=>by
  obtain⟨b,rfl,hq⟩:=hq
  cases e with
  | normal=>exact hq
  | _=>exact⟨_,rfl,hq⟩)
 ct he h:=wp_cond_true he h
 cf he h:=wp_cond_false he h
 block {id c Q a w} h:=wp_block (wp_mono h fun e a w hq=>by
  obtain⟨b,rfl,hq⟩:=hq
  cases e with
  | exit i =>
   dsimp only[Exit.inBlock]at hq ⊢
   split
   ·rename_i e;rw[if_pos e]at hq;exact⟨_,rfl,hq⟩
   ·rename_i e;rw[if_neg e]at hq;exact⟨_,rfl,hq⟩
  | _=>exact⟨_,rfl,hq⟩)
 loop J μ h x0 _ _ h0:=wp_loop_gen (fun x a w=>∃b,a=addD ds b∧J x b w) μ (fun x a w hJ=>by
  obtain⟨b,rfl,hJ⟩:=hJ
  refine wp_mono (h x b w hJ) fun e a w hq=>?_
  obtain⟨c,rfl,hq⟩:=hq
  cases e with
  | normal=>obtain⟨y,h1,h2⟩:=hq;exact⟨y,⟨c,rfl,h1⟩,h2⟩
  | _=>exact⟨_,rfl,hq⟩) x0 ⟨_,rfl,h0⟩
end
open Go Go.RowKit
def frzR(W0:World)(F:Nat→Prop): Res where
 φ x S w:=x.oneCell'=true∧(∀b,F b→S b)∧∀b,F b→w.heap[b]?=W0.heap[b]?
 one _ _ _ h:=h.1
 loc x S w w' h hφ:=⟨hφ.1,hφ.2.1,fun b hb=>(h b (hφ.2.1 b hb)).trans (hφ.2.2 b hb)⟩
def topR:Res where
 φ x S _:=x.oneCell'=true∧∀b,¬ S b
 one _ _ _ h:=h.1
 loc _ _ _ _ _ hφ:=hφ
def KpC(W W':World): Prop:=W.heap.size≤W'.heap.size∧∀(k:Nat) (o:Obj),W.heap[k]?=some o→o.isCells=true→W'.heap[k]?=some o
theorem kpC_t{A B C:World}(h:KpC A B)(k:KpC B C): KpC A C:=⟨Nat.le_trans h.1 k.1,fun i o hi ho=>k.2 i o (h.2 i o hi ho) ho⟩
theorem kpC_b(W:World)(l:Nat)(o o':Obj)(h:W.heap[l]?=some o)(ho:o.isCells=false): KpC W (W.putObj l o'):=by
 have hg:=grownBy_putObj' W l o'
 refine⟨hg.size,fun k u hk hu=>?_⟩
 by_cases e:k=l
 ·subst e
  rw[h]at hk
  obtain rfl:=Option.some.inj hk
  rw[ho]at hu
  cases hu
 ·exact(hg.block k (Array.getElem?_eq_some_iff.1 hk).1 (fun h=>e (Option.some.inj h))).trans hk
theorem KpC.bx{W W':World}{g:Nat}{t:TypeId}{cs:Array Value}(h:KpC W W')(hb:Bx W g t cs): Bx W' g t cs:=h.2 g _ hb rfl
def FrK(σ:St)(r:Env)(n:Nat)(W W':World): Prop:=∀k,k<n→(∀i p,nth σ.bs i=some p→r.b i≠k)→W'.heap[k]?=W.heap[k]?
def noRB:List (Option Res)→Bool
 | []=>true
 | none::l=>noRB l
 | some _::_=>false
theorem noRB_spec:∀ {l:List (Option Res)},noRB l=true→∀i R,nth l i≠some R
 | [],_,_,_,h=>nomatch h
 | none::l,h,0,_,h2=>nomatch h2
 | none::l,h,i+1,R,h2=>noRB_spec (l:=l) h i R h2
 | some _::_,h,_,_,_=>nomatch h
def onlyK(R:Res)(l:List (Option Res))(p:Prop): Prop:=match l with
 | some R'::l=>ifB (noRB l) (R'=R∧p)
 | _=>False
def hasK(R:Res)(l:List (Option Res))(p:Prop): Prop:=match l with
 | some R'::_=>R'=R∧p
 | _=>False
theorem onlyK_spec{R:Res}{l:List (Option Res)}{p:Prop}(h:onlyK R l p): p∧∃m,l=some R::m∧noRB m=true:=by
 unfold onlyK at h
 split at h
 ·obtain⟨h1,h2,h3⟩:=ifB_spec h
  exact⟨h3,_,by rw[h2],h1⟩
 ·exact h.elim
theorem hasK_spec{R:Res}{l:List (Option Res)}{p:Prop}(h:hasK R l p): p∧∃m,l=some R::m:=by
 unfold hasK at h
 split at h
 ·exact⟨h.2,_,by rw[h.1]⟩
 ·exact h.elim
def allB:List (Option (TypeId×List SV))→Bool
 | []=>true
 | some _::l=>allB l
 | none::_=>false
theorem allB_spec:∀ {l:List (Option (TypeId×List SV))},allB l=true→∀i,i<l.length→∃q,nth l i=some q
 | [],_,_,h=>absurd h (Nat.not_lt_zero _)
 | some q::l,h,0,_=>⟨q,rfl⟩
 | some q::l,h,i+1,hi=>allB_spec (l:=l) h i (Nat.lt_of_succ_lt_succ hi)
 | none::l,h,_,_=>nomatch h
def stillB:List (Option (TypeId×List SV))→List (Option (TypeId×List SV))→Bool
 | [],_=>true
 | none::l,[]=>stillB l []
 | none::l,_::m=>stillB l m
 | some _::l,some _::m=>stillB l m
 | some _::_,_=>false
theorem stillB_spec:∀ {l m:List (Option (TypeId×List SV))},stillB l m=true→∀i q,nth l i=some q→∃q',nth m i=some q'
 | [],_,_,_,_,h=>nomatch h
 | none::l,[],h,0,_,h2=>nomatch h2
 | none::l,[],h,i+1,q,h2=>by
  obtain⟨q',h3⟩:=stillB_spec (l:=l) (m:=[]) h i q h2
  cases h3
 | none::l,_::m,h,0,_,h2=>nomatch h2
 | none::l,_::m,h,i+1,q,h2=>stillB_spec (l:=l) (m:=m) h i q h2
 | some _::l,some q'::m,h,0,_,_=>⟨q',rfl⟩
 | some _::l,some _::m,h,i+1,q,h2=>stillB_spec (l:=l) (m:=m) h i q h2
 | some _::_,[],h,_,_,_=>nomatch h
 | some _::_,none::_,h,_,_,_=>nomatch h
section
variable {P:Program} {tt:List (Nat×TI)} {w0:World}
def bodyK(P:Program)(tt:List (Nat×TI))(w0:World)(σ:St)(bsR:List (Option (TypeId×List SV)))(body:Code)(good:Bool)(σ1:St)(d:List Dir): Prop :=
 ∀R2:Res,exec P tt (cx0 P tt w0) (σ1.bs.length,σ1.rs.length) w0 body (outX 0 R2 σ1) d fun e σ2 _=>match e with
  | .normal=>hasK R2 σ2.rs (subK σ2 ⟨σ1.n,[],σ1.bs,[]⟩ (subK σ2 σ (good=true)))
  | .ret=>ifB (stillB σ1.bs σ2.bs) (hasK R2 σ2.rs (subK σ2 { σ with bs:=bsR } (good=false)))
  | .exit _=>False
def rndK(P:Program)(tt:List (Nat×TI))(w0:World)(σ:St)(bsR:List (Option (TypeId×List SV)))(body:Code)(good:Bool)(R:Res)(e:Ex)(σ1:St)(d:List Dir): Prop:=match e with
 | .normal=>onlyK R σ1.rs (subK σ1 σ (ifB (leB σ σ1) (bodyK P tt w0 σ bsR body good σ1 d)))
 | _=>False
theorem Sat.grown{σ:St}{r:Env}{a:Act}{w w':World}{row:Option Nat}(h:Sat w0 σ r a w)(hrs:∀i R,nth σ.rs i=some R→R=topR)(hg:w.grownBy w' row)(hr:∀k,row=some k→w0.heap.size≤k∧∃o:Obj,w.heap[k]?=some o∧o.isCells=false): Sat w0 σ r a w':=by
 refine⟨⟨h.see.low.grown hg h.see.low.size (fun k e=>(hr k e).1),h.see.size,h.see.ts,fun i t cs hi=>?_,fun i R hi=>?_,h.see.one⟩,h.sep,h.defers⟩
 ·obtain⟨h1,h2⟩:=h.see.bs i t cs hi
  refine⟨(hg.block _ h1.lt fun e=>?_).trans h1,h2⟩
  obtain⟨_,o,ho,hc⟩:=hr _ e.symm
  rw[show w.heap[r.b i]?=some (.cells _ t (0,0))from h1]at ho
  obtain rfl:=Option.some.inj ho
  cases hc
 ·obtain⟨h1,h2⟩:=h.see.rs i R hi
  obtain rfl:=hrs i R hi
  exact⟨h1,fun b hb=>absurd hb (h1.2 b)⟩
def stayS(w0:World)(σ:St)(r:Env)(W:World)(b:Nat): Prop:=w0.heap.size≤b∧b<W.heap.size∧∀i p,nth σ.bs i=some p→r.b i≠b
theorem frz_top{σ:St}{r:Env}{a:Act}{W:World}{m:List (Option Res)}(h:Sat w0 σ r a W)(hrs:σ.rs=some topR::m)(hm:noRB m=true):
  Sat w0 (outX 0 (frzR W (stayS w0 σ r W)) σ) ⟨r.b,r.x,fun _=>stayS w0 σ r W⟩ a W:=by
 have e1:(outX 0 (frzR W (stayS w0 σ r W)) σ).rs=some (frzR W (stayS w0 σ r W))::m:=by unfold outX;rw[hrs];rfl
 have hl:(outX 0 (frzR W (stayS w0 σ r W)) σ).rs.length=σ.rs.length:=setNth_len _ _ _
 have hlt:∀s,(outX 0 (frzR W (stayS w0 σ r W)) σ).lt s=σ.lt s:=fun s=>by simp only[St.lt,hl];rfl
 have hltL:∀s,(outX 0 (frzR W (stayS w0 σ r W)) σ).ltL s=σ.ltL s:=fun s=>by simp only[St.ltL,hl];rfl
 have hone:(r.x 0).oneCell'=true:=h.see.one 0 (by rw[hrs];exact Nat.succ_pos _)
 have hR:∀i R,nth (outX 0 (frzR W (stayS w0 σ r W)) σ).rs i=some R→i=0∧R=frzR W (stayS w0 σ r W):=fun i R hi=>by
  rw[e1]at hi
  cases i with
  | zero=>exact⟨rfl,(Option.some.inj hi).symm⟩
  | succ i=>exact absurd hi (noRB_spec hm i R)
 refine⟨⟨h.see.low,h.see.size,fun k s hk=>?_,fun i t cs hi=>?_,fun i R hi=>?_,fun i hi=>h.see.one i (by rwa [hl]at hi)⟩,⟨h.sep.own,h.sep.inj,fun i R hi b hb=>hb.1,fun i j R R' hi hj hne=>absurd ((hR i R hi).1.trans (hR j R' hj).1.symm) hne,fun i j p R hi hj hS=>hS.2.2 i p hi rfl⟩,h.defers⟩
 ·obtain⟨h1,h2⟩:=h.see.ts k s hk
  exact⟨by rw[env_turn];exact h1,by rw[hlt];exact h2⟩
 ·obtain⟨h1,h2⟩:=h.see.bs i t cs hi
  exact⟨by rw[env_turnL];exact h1,by rw[hltL];exact h2⟩
 ·obtain⟨rfl,rfl⟩:=hR i R hi
  exact⟨⟨hone,fun _ hb=>hb,fun _ _=>rfl⟩,fun b hb=>hb.2.1⟩
theorem top_of{σ:St}{r:Env}{a:Act}{W:World}{R:Res}{m:List (Option Res)}(h:Sat w0 σ r a W)(hrs:σ.rs=some R::m)(hm:noRB m=true):
  Sat w0 (outX 0 topR σ) ⟨r.b,r.x,fun _ _=>False⟩ a W:=by
 have e1:(outX 0 topR σ).rs=some topR::m:=by unfold outX;rw[hrs];rfl
 have hl:(outX 0 topR σ).rs.length=σ.rs.length:=setNth_len _ _ _
 have hlt:∀s,(outX 0 topR σ).lt s=σ.lt s:=fun s=>by simp only[St.lt,hl];rfl
 have hltL:∀s,(outX 0 topR σ).ltL s=σ.ltL s:=fun s=>by simp only[St.ltL,hl];rfl
 have hone:(r.x 0).oneCell'=true:=h.see.one 0 (by rw[hrs];exact Nat.succ_pos _)
 have hR:∀i R,nth (outX 0 topR σ).rs i=some R→i=0∧R=topR:=fun i R hi=>by
  rw[e1]at hi
  cases i with
  | zero=>exact⟨rfl,(Option.some.inj hi).symm⟩
  | succ i=>exact absurd hi (noRB_spec hm i R)
 refine⟨⟨h.see.low,h.see.size,fun k s hk=>?_,fun i t cs hi=>?_,fun i R hi=>?_,fun i hi=>h.see.one i (by rwa [hl]at hi)⟩,⟨h.sep.own,h.sep.inj,fun _ _ _ _ hb=>hb.elim,fun _ _ _ _ _ _ _ _ hb=>hb.elim,fun _ _ _ _ _ _ hS=>hS.elim⟩,h.defers⟩
 ·obtain⟨h1,h2⟩:=h.see.ts k s hk
  exact⟨by rw[env_turn];exact h1,by rw[hlt];exact h2⟩
 ·obtain⟨h1,h2⟩:=h.see.bs i t cs hi
  exact⟨by rw[env_turnL];exact h1,by rw[hltL];exact h2⟩
 ·obtain⟨rfl,rfl⟩:=hR i R hi
  exact⟨⟨hone,fun _ hb=>hb⟩,fun b hb=>hb.elim⟩
theorem frz_nil{σ:St}{r:Env}{a:Act}{W:World}(h:Sat w0 σ r a W)(hrs:σ.rs=[]):
  Sat w0 { σ with rs:=[some (frzR W (stayS w0 σ r W))] } ⟨r.b,fun _=>.bool false,fun _=>stayS w0 σ r W⟩ a W:=by
 have hag:Ag σ r ⟨r.b,fun _=>.bool false,fun _=>stayS w0 σ r W⟩:=⟨fun _ _=>rfl,fun i hi=>by rw[hrs]at hi;exact absurd hi (Nat.not_lt_zero _)⟩
 have hlt:∀s,σ.lt s=true→({ σ with rs:=[some (frzR W (stayS w0 σ r W))] }:St).lt s=true:=fun s hs=>ok_mono (fun i hi=>hi) (fun i hi=>by rw[hrs]at hi;exact absurd (blt_lt hi) (Nat.not_lt_zero _)) s hs
 have hR:∀i R,nth [some (frzR W (stayS w0 σ r W))] i=some R→i=0∧R=frzR W (stayS w0 σ r W):=fun i R hi=>by
  cases i with
  | zero=>exact⟨rfl,(Option.some.inj hi).symm⟩
  | succ i=>cases hi
 refine⟨⟨h.see.low,h.see.size,fun k s hk=>?_,fun i t cs hi=>?_,fun i R hi=>?_,fun i _=>rfl⟩,⟨h.sep.own,h.sep.inj,fun i R hi b hb=>hb.1,fun i j R R' hi hj hne=>absurd ((hR i R hi).1.trans (hR j R' hj).1.symm) hne,fun i j p R hi hj hS=>hS.2.2 i p hi rfl⟩,h.defers⟩
 ·obtain⟨h1,h2⟩:=h.see.ts k s hk
  exact⟨by rw[hag.den h2];exact h1,hlt s h2⟩
 ·obtain⟨h1,h2⟩:=h.see.bs i t cs hi
  have e:denL ⟨r.b,fun _=>.bool false,fun _=>stayS w0 σ r W⟩ cs=denL r cs:=by
   rw[denL_map,denL_map]
   exact List.map_congr_left fun s hs=>hag.den (okL_all.1 h2 s hs)
  exact⟨by rw[e];exact h1,okL_all.2 fun s hs=>hlt s (okL_all.1 h2 s hs)⟩
 ·obtain⟨rfl,rfl⟩:=hR i R hi
  exact⟨⟨rfl,fun _ hb=>hb,fun _ _=>rfl⟩,fun b hb=>hb.2.1⟩
theorem Sat.swap{σ τ:St}{r r':Env}{a a':Act}{w w':World}(h:Sat w0 σ r a w)(h':Sat w0 τ r' a' w')(hts:τ.ts=σ.ts)(hn:τ.n=σ.n)(hb:τ.bs.length=σ.bs.length)(hr:τ.rs.length=σ.rs.length)(hg:Ag σ r r'): Sat w0 τ r' a w':=by
 refine⟨⟨h'.see.low,h.see.size.trans hn.symm,fun k s hk=>?_,h'.see.bs,h'.see.rs,h'.see.one⟩,h'.sep,h.defers⟩
 rw[hts]at hk
 obtain⟨h1,h2⟩:=h.see.ts k s hk
 exact⟨by rw[hg.den h2];exact h1,by simp only[St.lt,hb,hr];exact h2⟩
theorem frame_of{σ τ:St}{r r':Env}{a a':Act}{W W':World}{m:List (Option Res)}(h:Sat w0 σ r a W)(h':Sat w0 τ r' a' W')(hrs:τ.rs=some (frzR W (stayS w0 σ r W))::m): FrK σ r W.heap.size W W':=fun k hk hn=>by
 rcases Nat.lt_or_ge k w0.heap.size with h0|h0
 ·exact(h'.see.low.block k h0).trans (h.see.low.block k h0).symm
 ·exact(h'.see.rs 0 (frzR W (stayS w0 σ r W)) (by rw[hrs];rfl)).1.2.2 k ⟨h0,hk,hn⟩
theorem size_of{σ τ:St}{r r':Env}{a a':Act}{W W':World}(h:Sat w0 σ r a W)(h':Sat w0 τ r' a' W')(hb:∀i p,nth σ.bs i=some p→r.b i<W'.heap.size)(hF:FrK σ r W.heap.size W W'): W.heap.size≤W'.heap.size:=by
 rcases Nat.lt_or_ge W'.heap.size W.heap.size with hlt|hge
 ·exfalso
  by_cases hk:∃i p,nth σ.bs i=some p∧r.b i=W.heap.size-1
  ·obtain⟨i,p,h1,h2⟩:=hk
   have:=hb i p h1
   omega
  ·have h1:=hF (W.heap.size-1) (by omega) (fun i p hi e=>hk ⟨i,p,hi,e⟩)
   rw[Array.getElem?_eq_none (by omega),Array.getElem?_eq_getElem (by omega)]at h1
   cases h1
 ·exact hge
theorem kept_of{σ:St}{r:Env}{a:Act}{W W':World}(h:Sat w0 σ r a W)(hb:∀i t cs,nth σ.bs i=some (t,cs)→Bx W' (r.b i) t (denL r cs).toArray)(hF:FrK σ r W.heap.size W W')(hz:W.heap.size≤W'.heap.size): KpC W W':=by
 refine⟨hz,fun k o hk _=>?_⟩
 by_cases hn:∃i p,nth σ.bs i=some p∧r.b i=k
 ·obtain⟨i,⟨t,cs⟩,h1,h2⟩:=hn
  have h3:=(h.see.bs i t cs h1).1
  have h4:=hb i t cs h1
  rw[h2]at h3 h4
  exact(show W'.heap[k]?=some (.cells _ t (0,0))from h4).trans ((show W.heap[k]?=some (.cells _ t (0,0))from h3).symm.trans hk)
 ·exact(hF k (Array.getElem?_eq_some_iff.1 hk).1 fun i p hi e=>hn ⟨i,p,hi,e⟩).trans hk
theorem keeps_of{σ:St}{r:Env}{a:Act}{W W':World}(B:Nat)(h:Sat w0 σ r a W)(hF:FrK σ r W.heap.size W W')(hz:W.heap.size≤W'.heap.size): KeepsFrom B W W':=by
 refine⟨hz,fun k o _ hk ho=>(hF k (Array.getElem?_eq_some_iff.1 hk).1 fun i p hi e=>?_).trans hk⟩
 have h1:=(h.see.bs i p.1 p.2 hi).1
 rw[e]at h1
 rw[show W.heap[k]?=some (.cells _ p.1 (0,0))from h1]at hk
 obtain rfl:=Option.some.inj hk
 cases ho
theorem ag_of{σ:St}{r r':Env}(hrs:σ.rs=[])(h:AgN (σ.bs.length,0) r r'): Ag σ r r':=⟨h.1,fun i hi=>by rw[hrs]at hi;exact absurd hi (Nat.not_lt_zero _)⟩
theorem denL_ag{σ:St}{r r':Env}(h:Ag σ r r'){l:List SV}(hl:σ.ltL l=true): denL r' l=denL r l:=by
 rw[denL_map,denL_map]
 exact List.map_congr_left fun s hs=>h.den (okL_all.1 hl s hs)
end
open Go Go.RowKit
theorem subK_bs{σ τ:St}{p:Prop}(h:subK σ τ p): ∀i q,nth τ.bs i=some q→∃q',nth σ.bs i=some q':=by
 obtain⟨hn,h⟩:=ifB_spec h
 obtain⟨h,ht⟩:=subT_spec h
 obtain⟨h,bl,hb⟩:=subB_spec h
 exact fun i q hi=>⟨_,(hb i q.1 q.2 hi).1⟩
section
variable {P:Program} {tt:List (Nat×TI)} {w0:World}
def AxK(P:Program)(tt:List (Nat×TI))(w0:World)(σ:St)(bsR:List (Option (TypeId×List SV)))(body:Code)(r:Env)(n:Nat)(good:Bool)(a':Act)(W:World): Prop :=
 ∃σ1 d1 r1 m,Sat w0 (outX 0 topR σ1) r1 a' W∧(outX 0 topR σ1).rs=some topR::m∧noRB m=true∧(∃R,σ1.rs=some R::m)∧AgN (σ.bs.length,0) r r1∧σ.bs.length≤σ1.bs.length ∧
  (∀i p,nth σ1.bs i=some p→σ.bs.length≤i→n≤r1.b i)∧bodyK P tt w0 σ bsR body good σ1 d1
theorem rng_ok(hT:TTOk P tt)(hm:P.follows .mixedOrders=true){σ:St}{bsR:List (Option (TypeId×List SV))}(hbR:bsR.length=σ.bs.length){α:Type}{xs:List α}{gf:Nat}{lb:Array Value}{enc:α→Value}{good:α→Bool}{g:Operand}{p:Nat}{assign body:Code}(hrs:σ.rs=[])(hall:allB σ.bs=true)(hp:dstB (some p) σ.n=true)(hna:ndC assign=true)(hnb:ndC body=true)(hround:∀x,x∈xs→∃d,∀R:Res,exec P tt (cx0 P tt w0) (σ.bs.length,0) w0 assign { σ.push (some p) (.val (enc x))with rs:=[some R] } d (rndK P tt w0 σ bsR body (good x) R)){r:Env}{a:Act}{w:World}(hS:Sat w0 σ r a w)(hg:a.eval g=.func (.func gf) #[] lb)(he:Enters P gf)(hseq:SeqStopsK Fence.wide 8 P gf lb (fun x:{x // x∈xs}=>#[enc x.1]) KpC (fun ys=>ys=xs.attach) (fun _=>True) xs.length w){ds:List Deferred}{Q:Exit→Act→World→Prop}(hdone:∀D r' W,Sat w0 σ r' a W→AgN (σ.bs.length,0) r r'→FrK σ r w.heap.size w W→w.heap.size≤D→W.heap[D]?=some (.deferred (some []))→(∀x,x∈xs→good x=true)→Q .normal (addD ({ target:=.collected D,args:=#[] }::ds) a) W)(hstop:∀D r' W,Sat w0 { σ with bs:=bsR } r' a W→AgN (σ.bs.length,0) r r'→FrK σ r w.heap.size w W→w.heap.size≤D→W.heap[D]?=some (.deferred (some []))→(∃x,x∈xs∧good x=false)→Q .ret (addD ({ target:=.collected D,args:=#[] }::ds) a) W):
  (Code.rangeFunc g #[p] assign body).wp P Q (addD ds a) w:=by
 have hlow:=hS.see.low.size
 have hd0:=hS.defers
 have hall':=allB_spec hall
 have hcoll:∀D,({ addD ds a with defers:={ target:=.collected D,args:=#[] }::(addD ds a).defers }:Act)=addD ({ target:=.collected D,args:=#[] }::ds) a:=fun D=>by
  unfold addD
  rw[hd0]
  rfl
 refine wpIn_wide.1 (wpIn_rangeFunc_ownH (F:=Fence.wide) (n:=9) (Kp:=KpC) (α:={x // x∈xs}) (encs:=fun x=>#[enc x.1]) (S:=fun ys=>ys=xs.attach) (Sp:=fun _=>True) (N:=xs.length) (w0:=w) rfl (by decide) (gf:=gf) (lb:=lb) (by rw[addD_eval];exact hg) trivial he hseq kpC_t (fun W l o o' _ h ho _=>kpC_b W l o o' h ho) (Below.refl _ _) (fun _=>rfl)
  (fun pre W=>(∃r',Sat w0 σ r' a W∧AgN (σ.bs.length,0) r r')∧FrK σ r w.heap.size w W∧w.heap.size≤W.heap.size∧∀x,x∈pre→good x.1=true)
  (fun c pre W=>c=.ret∧(∃r',Sat w0 { σ with bs:=bsR } r' a W∧AgN (σ.bs.length,0) r r')∧FrK σ r w.heap.size w W∧∃x,x∈pre∧good x.1=false)
  ?hI ?hIx ⟨⟨r,hS,AgN.refl _ _⟩,fun _ _ _=>rfl,Nat.le_refl _,fun _ h=>nomatch h⟩
  (fun x a' W=>AxK P tt w0 σ bsR body r w.heap.size (good x.1) a' W) ?hAx ?assign ?body ?done ?stop)
 case hI =>
  rintro pre W W' row ⟨⟨r',h1,h2⟩,h3,h4,h5⟩ hgr hrow
  refine⟨⟨r',h1.grown (fun i R hi=>by rw[hrs]at hi;cases hi) hgr (fun k e=>⟨Nat.le_trans hlow (hrow k e).1,(hrow k e).2⟩),h2⟩,fun k hk hn=>?_,Nat.le_trans h4 hgr.size,h5⟩
  exact(hgr.block k (Nat.lt_of_lt_of_le hk h4) fun e=>by have:=(hrow k e.symm).1;omega).trans (h3 k hk hn)
 case hIx =>
  rintro c pre W W' row ⟨h0,⟨r',h1,h2⟩,h3,h5⟩ hgr hrow
  refine⟨h0,⟨r',h1.grown (fun i R hi=>by rw[show({ σ with bs:=bsR }:St).rs=[]from hrs]at hi;cases hi) hgr (fun k e=>⟨Nat.le_trans hlow (hrow k e).1,(hrow k e).2⟩),h2⟩,fun k hk hn=>?_,h5⟩
  have hkW:k<W.heap.size:=by
   rcases Nat.lt_or_ge k W.heap.size with h|h
   ·exact h
   ·have h6:=h3 k hk hn
    rw[Array.getElem?_eq_none h,Array.getElem?_eq_getElem hk]at h6
    cases h6
  exact(hgr.block k hkW fun e=>by have:=(hrow k e.symm).1;omega).trans (h3 k hk hn)
 case hAx =>
  rintro x a' s W W' row ⟨σ1,d1,r1,m,h1,h2,h3,h4,h5⟩ hgr hrow
  exact⟨σ1,d1,r1,m,h1.grown (fun i R hi=>by
   rw[h2]at hi
   cases i with
   | zero=>exact(Option.some.inj hi).symm
   | succ i=>exact absurd hi (noRB_spec h3 i R)) hgr (fun k e=>⟨Nat.le_trans hlow (hrow k e).1,(hrow k e).2⟩),h2,h3,h4,h5⟩
 case assign =>
  rintro l pre x W K ⟨⟨r',h1,h2⟩,h3,h4,h5⟩ hK
  have hAg:=ag_of hrs h2
  obtain⟨d,hd⟩:=hround x.1 x.2
  have e0:({ tmps:=(#[p].zip #[enc x.1]).foldl (fun t (p,v)=>t.setIfInBounds p v) (addD ds a).tmps,defers:=[] }:Act)=a.put (some p) (enc x.1):=by
   unfold Act.put
   rw[← hd0]
   simp[addD]
  rw[e0]
  have hp1:Sat w0 (σ.push (some p) (.val (enc x.1))) r' (a.put (some p) (enc x.1)) W:=h1.put (s:=.val (enc x.1)) hp rfl
  have hfz:=frz_nil hp1 hrs
  have eS:stayS w0 (σ.push (some p) (.val (enc x.1))) r' W=stayS w0 σ r' W:=rfl
  rw[eS]at hfz
  refine exec_by (rules_in hm) hT (inl_ok hT hm 9) (σ.bs.length,0) assign _ d _ (hd (frzR W (stayS w0 σ r' W))) ⟨Nat.le_refl _,Nat.zero_le _⟩ _ _ W hfz (Exit.then K fun _ _ _=>False) (fun _ _ _ _ _ h=>h.elim) (fun _ _ _ _ _ _ h=>False.elim h) (fun e σ1 d1 r1 a1 W1 hk hS1 _ hg1=>?_) hna (fun⟨_,_,h⟩=>h)
  cases e with
  | exit i=>exact False.elim hk
  | ret=>exact False.elim hk
  | normal =>
   obtain⟨hk,m,hm1,hm2⟩:=onlyK_spec hk
   have hsb:=subK_bs hk
   obtain⟨hk,hsub⟩:=subK_spec (w0:=w0) hk
   obtain⟨hle,hbk⟩:=ifB_spec hk
   have hSσ:=hsub _ _ _ hS1
   have hg1':AgN (σ.bs.length,0) r' r1:=⟨fun i hi=>hg1.1 i hi,fun i hi=>absurd hi (Nat.not_lt_zero _)⟩
   have hag1:=ag_of hrs hg1'
   have hF:FrK σ r' W.heap.size W W1:=frame_of (σ:=σ) (r:=r') h1 hS1 hm1
   have hb:∀i t cs,nth σ.bs i=some (t,cs)→Bx W1 (r'.b i) t (denL r' cs).toArray:=fun i t cs hi=>by
    obtain⟨k1,_⟩:=hSσ.see.bs i t cs hi
    rw[hag1.1 i (nth_lt hi),denL_ag hag1 (h1.see.bs i t cs hi).2]at k1
    exact k1
   have hz:=size_of h1 hS1 (fun i p hi=>(hb i p.1 p.2 hi).lt) hF
   refine hK a1 W1 (keeps_of _ h1 hF hz) (kept_of h1 hb hF hz) ⟨⟨r1,h1.swap hSσ rfl rfl rfl rfl hag1,h2.trans hg1'⟩,fun k hk hn=>?_,Nat.le_trans h4 hz,h5⟩ ?_
   ·refine(hF k (by omega) fun i p hi=>?_).trans (h3 k hk hn)
    rw[hAg.1 i (nth_lt hi)]
    exact hn i p hi
   ·refine⟨σ1,d1,⟨r1.b,r1.x,fun _ _=>False⟩,m,top_of hS1 hm1 hm2,by unfold outX;rw[hm1];rfl,hm2,⟨_,hm1⟩,h2.trans hg1',(leB_le hle).1,fun i p hi hge=>?_,hbk⟩
    show w.heap.size≤r1.b i
    have k1:=hS1.sep.apart i 0 p _ hi (by rw[hm1];rfl)
    have k2:=(hS1.see.rs 0 (frzR W (stayS w0 σ r' W)) (by rw[hm1];rfl)).1.2.1
    have k3:=hS1.sep.own i p hi
    rcases Nat.lt_or_ge (r1.b i) W.heap.size with hlt|hge2
    ·exfalso
     refine k1 (k2 _ ⟨k3,hlt,fun j q hj e=>?_⟩)
     have k4:r1.b j=r'.b j:=hg1'.1 j (nth_lt hj)
     obtain⟨q1,hq1⟩:=hsb j q hj
     exact hS1.sep.inj i j p q1 hi hq1 (fun e2=>by have:=nth_lt hj;omega) (by rw[k4];exact e.symm)
    ·omega
 case body =>
  rintro l pre x a' W hl _ ⟨⟨r',hI1,hI2⟩,h3,h4,h5⟩ ⟨σ1,d1,r1,m,k1,k2,k3,⟨R0,k4⟩,k5,k6,k7,k8⟩ _
  have hfz:=frz_top k1 k2 k3
  have eo:outX 0 (frzR W (stayS w0 (outX 0 topR σ1) r1 W)) (outX 0 topR σ1)=outX 0 (frzR W (stayS w0 (outX 0 topR σ1) r1 W)) σ1:=by unfold outX;rw[k4];rfl
  rw[eo]at hfz
  have eS:stayS w0 (outX 0 topR σ1) r1 W=stayS w0 σ1 r1 W:=rfl
  rw[eS]at hfz
  have hrl:(outX 0 topR σ1).rs.length=σ1.rs.length:=setNth_len _ _ _
  refine exec_by (rules_in hm) hT (inl_ok hT hm 9) (σ1.bs.length,σ1.rs.length) body _ d1 _ (k8 (frzR W (stayS w0 σ1 r1 W))) ⟨Nat.le_refl _,by unfold outX;rw[setNth_len];exact Nat.le_refl _⟩ _ _ W hfz _ (fun _ _ _ _ _ h=>h.elim) (fun _ _ _ _ _ _ h=>False.elim h) (fun e σ2 d2 r2 a2 W2 hk hS2 _ hg2=>?_) hnb (fun⟨_,_,h⟩=>h)
  have hg2':AgN (σ.bs.length,0) r1 r2:=⟨fun i hi=>hg2.1 i (Nat.lt_of_lt_of_le hi k6),fun i hi=>absurd hi (Nat.not_lt_zero _)⟩
  have hgr:AgN (σ.bs.length,0) r r2:=k5.trans hg2'
  have hgi:AgN (σ.bs.length,0) r' r2:=⟨fun i hi=>(hgr.1 i hi).trans (hI2.1 i hi).symm,fun i hi=>absurd hi (Nat.not_lt_zero _)⟩
  have hag2:Ag (outX 0 topR σ1) r1 r2:=⟨fun i hi=>hg2.1 i hi,fun i hi=>hg2.2 i (by rw[← hrl];exact hi)⟩
  have frame:∀mm,σ2.rs=some (frzR W (stayS w0 σ1 r1 W))::mm→FrK (outX 0 topR σ1) r1 W.heap.size W W2:=fun mm hmm=>frame_of (σ:=outX 0 topR σ1) k1 hS2 (by rw[hmm];rfl)
  have fr2:∀mm,σ2.rs=some (frzR W (stayS w0 σ1 r1 W))::mm→FrK σ r w.heap.size w W2:=fun mm hmm k hk hn=>by
   refine(frame mm hmm k (by omega) fun i p hi=>?_).trans (h3 k hk hn)
   rcases Nat.lt_or_ge i σ.bs.length with hlt|hge
   ·rw[k5.1 i hlt]
    intro e
    obtain⟨q,hq⟩:=hall' i hlt
    exact hn i q hq e
   ·have:=k7 i p hi hge
    omega
  cases e with
  | exit i=>exact False.elim hk
  | normal =>
   obtain⟨hk,mm,hmm⟩:=hasK_spec hk
   obtain⟨hk,hsub1⟩:=subK_spec (w0:=w0) hk
   obtain⟨hgood,hsub⟩:=subK_spec (w0:=w0) hk
   have hS3:=hsub1 _ _ _ hS2
   have hb:∀i t cs,nth (outX 0 topR σ1).bs i=some (t,cs)→Bx W2 (r1.b i) t (denL r1 cs).toArray:=fun i t cs hi=>by
    have q1:=(hS3.see.bs i t cs hi).1
    rw[hag2.1 i (nth_lt hi),denL_ag hag2 (k1.see.bs i t cs hi).2]at q1
    exact q1
   have hF:=frame mm hmm
   have hz:=size_of k1 hS2 (fun i p hi=>(hb i p.1 p.2 hi).lt) hF
   refine⟨keeps_of _ k1 hF hz,kept_of k1 hb hF hz,⟨r2,hI1.swap (hsub _ _ _ hS2) rfl rfl rfl rfl (ag_of hrs hgi),hgr⟩,fr2 mm hmm,Nat.le_trans h4 hz,fun y hy=>?_⟩
   rcases List.mem_append.1 hy with hy|hy
   ·exact h5 y hy
   ·rw[List.mem_singleton.1 hy];exact hgood
  | ret =>
   obtain⟨hst,hk⟩:=ifB_spec hk
   obtain⟨hk,mm,hmm⟩:=hasK_spec hk
   obtain⟨hgood,hsub⟩:=subK_spec (w0:=w0) hk
   have hF:=frame mm hmm
   have hz:=size_of k1 hS2 (fun i p hi=>by
    obtain⟨q',hq⟩:=stillB_spec hst i p hi
    have q1:=(hS2.see.bs i q'.1 q'.2 hq).1.lt
    rw[hag2.1 i (nth_lt hi)]at q1
    exact q1) hF
   exact⟨keeps_of _ k1 hF hz,rfl,⟨r2,hI1.swap (hsub _ _ _ hS2) rfl rfl hbR rfl (ag_of hrs hgi),hgr⟩,fr2 mm hmm,x,by simp,hgood⟩
 case done =>
  rintro D ys W hD rfl ⟨⟨r',h1,h2⟩,h3,_,h5⟩ hk
  rw[hcoll]
  exact hdone D r' W h1 h2 h3 hD hk fun x hx=>h5 ⟨x,hx⟩ (List.mem_attach _ _)
 case stop =>
  rintro D c pre W hD _ ⟨rfl,⟨r',h1,h2⟩,h3,x,_,hx⟩ hk
  rw[hcoll]
  exact wpIn_ret (hstop D r' W h1 h2 h3 hD hk ⟨x.1,x.2,hx⟩)
end
open Go Go.RowKit
def rgOk:Code→Bool
 | .seq (.seq _ (.block _ (.rangeFunc _ ps a b))) _=>Nat.beq ps.toList.length 1&&(ndC a&&ndC b)
 | _=>false
def rgX:Code→Code
 | .seq (.seq x _) _=>x
 | _=>.skip
def rgI:Code→Nat
 | .seq (.seq _ (.block i _)) _=>i
 | _=>0
def rgG:Code→Operand
 | .seq (.seq _ (.block _ (.rangeFunc g _ _ _))) _=>g
 | _=>.tmp 0
def rgP:Code→Nat
 | .seq (.seq _ (.block _ (.rangeFunc _ ps _ _))) _=>ps.toList.headD 0
 | _=>0
def rgA:Code→Code
 | .seq (.seq _ (.block _ (.rangeFunc _ _ a _))) _=>a
 | _=>.skip
def rgB:Code→Code
 | .seq (.seq _ (.block _ (.rangeFunc _ _ _ b))) _=>b
 | _=>.skip
def rgR:Code→Code
 | .seq (.seq _ _) c=>c
 | _=>.skip
def rgF(c:Code): Code:=.block (rgI c) (.rangeFunc (rgG c) #[rgP c] (rgA c) (rgB c))
theorem rg_eq{c:Code}(h:rgOk c=true): c=.seq (.seq (rgX c) (rgF c)) (rgR c)∧ndC (rgA c)=true∧ndC (rgB c)=true:=by
 cases c with
 | seq x c =>
  cases x with
  | seq z x =>
   cases x with
   | block i y =>
    cases y with
    | rangeFunc g ps a b =>
     obtain⟨h0,h⟩:=Bool.and_eq_true_iff.1 (show(Nat.beq ps.toList.length 1&&(ndC a&&ndC b))=true from h)
     obtain⟨h1,h2⟩:=Bool.and_eq_true_iff.1 h
     refine⟨?_,h1,h2⟩
     have h3:=Nat.eq_of_beq_eq_true h0
     have h4:ps=#[ps.toList.headD 0]:=by
      apply Array.ext'
      match e:ps.toList,h3 with
      | [x],_=>rfl
     show _=Code.seq (.seq z (.block i (.rangeFunc g #[ps.toList.headD 0] a b))) c
     rw[← h4]
    | _=>exact Bool.noConfusion h
   | _=>exact Bool.noConfusion h
  | _=>exact Bool.noConfusion h
 | _=>exact Bool.noConfusion h
def colls(Ds:List Nat): List Deferred:=Ds.map fun D=>{ target:=.collected D,args:=#[] }
section
variable {P:Program} {tt:List (Nat×TI)} {w0:World}
def topS(σ:St): St:={ σ with rs:=σ.rs.map fun o=>o.map fun _=>topR }
theorem nth_map{α β:Type}(f:α→β): ∀(l:List (Option α)) (i:Nat),nth (l.map fun o=>o.map f) i=(nth l i).map f
 | [],_=>rfl
 | x::_,0=>by cases x<;>rfl
 | _::l,i+1=>nth_map f l i
theorem Sat.tops{σ:St}{r:Env}{a:Act}{w:World}(h:Sat w0 σ r a w): Sat w0 (topS σ) ⟨r.b,r.x,fun _ _=>False⟩ a w:=by
 have hl:(topS σ).rs.length=σ.rs.length:=by simp[topS]
 have hlt:∀s,(topS σ).lt s=σ.lt s:=fun s=>by simp only[St.lt,hl];rfl
 have hltL:∀s,(topS σ).ltL s=σ.ltL s:=fun s=>by simp only[St.ltL,hl];rfl
 have hR:∀i R,nth (topS σ).rs i=some R→R=topR∧i<σ.rs.length:=fun i R hi=>by
  have h1:=nth_lt hi
  rw[hl]at h1
  have h2:nth (topS σ).rs i=(nth σ.rs i).map fun _=>topR:=nth_map _ _ _
  rw[h2]at hi
  cases e:nth σ.rs i with
  | none=>rw[e]at hi;cases hi
  | some R'=>rw[e]at hi;exact⟨(Option.some.inj hi).symm,h1⟩
 refine⟨⟨h.see.low,h.see.size,fun k s hk=>?_,fun i t cs hi=>?_,fun i R hi=>?_,fun i hi=>h.see.one i (by rwa [hl]at hi)⟩,⟨h.sep.own,h.sep.inj,fun _ _ _ _ hb=>hb.elim,fun _ _ _ _ _ _ _ _ hb=>hb.elim,fun _ _ _ _ _ _ hS=>hS.elim⟩,h.defers⟩
 ·obtain⟨h1,h2⟩:=h.see.ts k s hk
  exact⟨by rw[env_turn];exact h1,by rw[hlt];exact h2⟩
 ·obtain⟨h1,h2⟩:=h.see.bs i t cs hi
  exact⟨by rw[env_turnL];exact h1,by rw[hltL];exact h2⟩
 ·obtain⟨rfl,h1⟩:=hR i R hi
  exact⟨⟨h.see.one i h1,fun _ hb=>hb⟩,fun b hb=>hb.elim⟩
theorem resL_tops{σ:St}: ∀(l:List ResultVar) (K:List SV→Prop),resL tt (topS σ) l K=resL tt σ l K
 | [],_=>rfl
 | v::l,K=>by
  have h1:∀K,resS tt (topS σ) v K=resS tt σ v K:=fun K=>by cases v<;>rfl
  show resS tt (topS σ) v _=resS tt σ v _
  rw[h1]
  congr 1
  funext s
  exact resL_tops l _
theorem finK_tops{σ:St}{rs:List ResultVar}{e:Ex}{K:SV→Prop}(h:finK tt rs e σ K): finK tt rs e (topS σ) K:=by
 unfold finK at h ⊢
 split at h
 ·exact h.elim
 ·rw[resL_tops];exact h
theorem leaves_marks{fn:Func}{tmps:Array Value}{R:Ending→World→Prop}{v:Value}{J:World→Prop}(hres:∀w,J w→(results fn tmps).run P w=.ok v w∧R (.returned v) w)(hJ:∀w D,J w→w.heap[D]?=some (.deferred (some []))→w0.heap.size≤D→J (w.putObj D (.deferred none))): ∀(Ds:List Nat) (w:World),J w→Ds.Nodup→(∀D,D∈Ds→w.heap[D]?=some (.deferred (some []))∧w0.heap.size≤D) →
  LeavesInM Fence.wide 9 P fn tmps R (colls Ds) .returning w
 | [],w,h,_,_=>⟨v,hres w h⟩
 | D::Ds,w,h,hn,hD=>by
  obtain⟨h1,h2⟩:=hD D (by simp)
  obtain⟨n1,n2⟩:=List.nodup_cons.1 hn
  refine⟨by simp,.inl ⟨D,_,rfl,run_takeDeferred h1,leaves_marks hres hJ Ds _ (hJ w D h h1 h2) n2 fun D' hD'=>?_⟩⟩
  obtain⟨h3,h4⟩:=hD D' (by simp[hD'])
  refine⟨((grownBy_putObj' w D (.deferred none)).block D' (Array.getElem?_eq_some_iff.1 h3).1 fun e=>?_).trans h3,h4⟩
  obtain rfl:=Option.some.inj e
  exact n1 hD'
theorem rest_fin(hT:TTOk P tt)(hm:P.follows .mixedOrders=true){fn:Func}{σ:St}{r:Env}{a:Act}{W:World}(hS:Sat w0 σ r a W)(hrs:σ.rs=[]){c:Code}{d:List Dir}{v:Value}(h:∀R,exec P tt (cx0 P tt w0) (0,0) w0 c { σ with rs:=[some R] } d fun e σ' _=>finK tt fn.results.toList e σ' fun s=>hasK R σ'.rs (ifB s.plain (s.den e0=v))){Ds:List Nat}(hn:Ds.Nodup)(hD:∀D,D∈Ds→W.heap[D]?=some (.deferred (some []))∧w0.heap.size≤D):
  c.wp P (noPan (bodyPostM Fence.wide 9 P fn fun e w'=>e=.returned v∧Below w0.heap.size w0 w')) (addD (colls Ds) a) W:=by
 have hfz:=frz_nil hS hrs
 refine wp_mono (exec_by (rules_def hm (ds:=colls Ds)) hT (inl_ok hT hm 9) (0,0) c _ d _ (h _) ⟨Nat.zero_le _,Nat.zero_le _⟩ _ a W hfz (fun e a' w'=>(e=.normal∨e=.ret)∧LeavesInM Fence.wide 9 P fn a'.tmps (fun e w'=>e=.returned v∧Below w0.heap.size w0 w') (a'.defers++colls Ds) .returning w') (fun _ _ _ _ _ h=>by rcases h.1 with h|h<;>cases h) (fun _ _ _ _ _ _ h=>False.elim h) fun e σ' d' r' a' w' hk hS' _ _=>?_) fun e a' w' hq=>?_
 ·obtain⟨he,s,hK,hres⟩:=finK_spec (w0:=w0) hT (rs:=fn.results.toList) rfl (finK_tops hk)
  obtain⟨hK,m,hm1⟩:=hasK_spec hK
  obtain⟨hp,hv⟩:=ifB_spec hK
  have hF:FrK σ r W.heap.size W w':=frame_of hS hS' hm1
  refine⟨by rcases he with rfl|rfl<;>simp[Ex.to],?_⟩
  rw[hS'.defers,List.nil_append]
  refine leaves_marks (w0:=w0) (v:=v) (J:=fun w=>Sat w0 (topS σ') ⟨r'.b,r'.x,fun _ _=>False⟩ a' w) (fun w h=>?_) (fun w D h h1 h2=>?_) Ds w' hS'.tops hn fun D hm2=>?_
  ·have h1:=hres _ _ _ h
   rw[plain_den hp,hv]at h1
   exact⟨h1,rfl,h.see.low⟩
  ·refine h.grown (fun i R hi=>?_) (grownBy_putObj' w D (.deferred none)) fun k e=>?_
   ·have h2:nth (topS σ').rs i=(nth σ'.rs i).map fun _=>topR:=nth_map _ _ _
    rw[h2]at hi
    cases e:nth σ'.rs i with
    | none=>rw[e]at hi;cases hi
    | some R'=>rw[e]at hi;exact(Option.some.inj hi).symm
   ·obtain rfl:=Option.some.inj e
    exact⟨h2,_,h1,rfl⟩
  ·obtain⟨h1,h2⟩:=hD D hm2
   refine⟨(hF D (Array.getElem?_eq_some_iff.1 h1).1 fun i p hi e=>?_).trans h1,h2⟩
   have h3:=(hS.see.bs i p.1 p.2 hi).1
   rw[e]at h3
   rw[show W.heap[D]?=some (.cells _ p.1 (0,0))from h3]at h1
   cases h1
 ·obtain⟨b,rfl,he,hq⟩:=hq
  rcases he with rfl|rfl
  ·exact hq
  ·exact hq
theorem stop_fin(hT:TTOk P tt){fn:Func}{σ:St}{r:Env}{a:Act}{W:World}(hS:Sat w0 σ r a W)(hrs:σ.rs=[]){v:Value}(h:finK tt fn.results.toList .ret σ fun s=>ifB s.plain (s.den e0=v)){Ds:List Nat}(hn:Ds.Nodup)(hD:∀D,D∈Ds→W.heap[D]?=some (.deferred (some []))∧w0.heap.size≤D):
  noPan (bodyPostM Fence.wide 9 P fn fun e w'=>e=.returned v∧Below w0.heap.size w0 w') .ret (addD (colls Ds) a) W:=by
 obtain⟨he,s,hK,hres⟩:=finK_spec (w0:=w0) hT (rs:=fn.results.toList) rfl h
 obtain⟨hp,hv⟩:=ifB_spec hK
 show LeavesInM Fence.wide 9 P fn a.tmps _ (a.defers++colls Ds) .returning W
 rw[hS.defers,List.nil_append]
 refine leaves_marks (w0:=w0) (v:=v) (J:=fun w=>Sat w0 σ r a w) (fun w h=>?_) (fun w D h h1 h2=>?_) Ds W hS hn hD
 ·have h1:=hres _ _ _ h
  rw[plain_den hp,hv]at h1
  exact⟨h1,rfl,h.see.low⟩
 ·refine h.grown (fun i R hi=>by rw[hrs]at hi;cases hi) (grownBy_putObj' w D (.deferred none)) fun k e=>?_
  obtain rfl:=Option.some.inj e
  exact⟨h2,_,h1,rfl⟩
theorem call_esc(hT:TTOk P tt)(hm:P.follows .mixedOrders=true){f:FuncId}{fn:Func}{c:Code}(hf:P.funcs[f]?=some fn)(hb:fn.body=some c){args:List Value}(hl:Nat.ble args.length fn.ntmps=true){d:List Dir}{v:Value}{E:Code→St→Prop}(h:execT P tt (cx0 P tt w0) (0,0) w0 E c (st0 fn.ntmps args) d fun e σ _=>finK tt fn.results.toList e σ fun s=>ifB s.plain (s.den e0=v))(hE:∀b σ r a w,E b σ→Sat w0 σ r a w→b.wp P (noPan (bodyPostM Fence.wide 9 P fn fun e w'=>e=.returned v∧Below w0.heap.size w0 w')) a w): Calls P f args.toArray w0 fun e w'=>e=.returned v∧Below w0.heap.size w0 w':=by
 refine callsIn_wide.1 (callsIn_of_wp_marks (F:=Fence.wide) (n:=9) hf hb trivial (wpIn_wide.2 ?_) rfl)
 refine wp_mono (execT_ok hT hm (inl_ok hT hm 9) (0,0) (Q:=noPan (bodyPostM Fence.wide 9 P fn fun e w'=>e=.returned v∧Below w0.heap.size w0 w')) (noPan_ok _) hE c _ d _ h ⟨Nat.zero_le _,Nat.zero_le _⟩ _ _ _ (sat0 (Nat.le_of_ble_eq_true hl) w0) (fun _ _ _ _ _ _ h=>False.elim h) fun e σ' d' r' a' w' hk hS' _ _=>?_) fun e a' w' hq=>noPan_to hq
 ·obtain⟨he,s,hK,hres⟩:=finK_spec (w0:=w0) hT (rs:=fn.results.toList) rfl hk
  obtain⟨hp,hv⟩:=ifB_spec hK
  have h1:=hres _ _ _ hS'
  rw[plain_den hp,hv]at h1
  have h2:LeavesInM Fence.wide 9 P fn a'.tmps (fun e w'=>e=.returned v∧Below w0.heap.size w0 w') a'.defers .returning w':=by
   rw[hS'.defers]
   exact⟨v,h1,rfl,hS'.see.low⟩
  rcases he with rfl|rfl
  ·exact h2
  ·exact h2
def escS(tl:Option Code)(τ:St)(C:Prop)(b:Code)(σ:St): Prop:=tl=some b∧C∧subK σ τ True
theorem escS_spec{tl:Option Code}{τ:St}{C:Prop}{b:Code}{σ:St}(h:escS tl τ C b σ){r:Env}{a:Act}{w:World}(hS:Sat w0 σ r a w): tl=some b∧C∧Sat w0 τ r a w :=
 ⟨h.1,h.2.1,(subK_spec (w0:=w0) h.2.2).2 _ _ _ hS⟩
def midE{β:Type}(τ:β→St)(i:Nat)(ρ:β→Res)(σ:St): Prop:=∃y:β,optK (nth σ.rs i) (fun R=>∀x S w,R.φ x S w→(ρ y).φ x S w)∧subK σ (τ y) True
theorem midE_spec{β:Type}{τ:β→St}{i:Nat}{ρ:β→Res}{σ:St}(h:midE τ i ρ σ){r:Env}{a:Act}{w:World}(hS:Sat w0 σ r a w): ∃y,(ρ y).φ (r.x i) (r.S i) w∧Sat w0 (τ y) r a w:=by
 obtain⟨y,h3,h4⟩:=h
 obtain⟨R,h5,h6⟩:=optK_spec h3
 exact⟨y,h6 _ _ _ (hS.see.rs i R h5).1,(subK_spec (w0:=w0) h4).2 _ _ _ hS⟩
def escE{β:Type}(tl:Option Code)(τ:β→St)(i:Nat)(ρ:β→Res)(C:Prop)(b:Code)(σ:St): Prop:=tl=some b∧C∧∃y:β,optK (nth σ.rs i) (fun R=>∀x S w,R.φ x S w→(ρ y).φ x S w)∧subK σ (τ y) True
theorem escE_spec{β:Type}{tl:Option Code}{τ:β→St}{i:Nat}{ρ:β→Res}{C:Prop}{b:Code}{σ:St}(h:escE tl τ i ρ C b σ){r:Env}{a:Act}{w:World}(hS:Sat w0 σ r a w): tl=some b∧C∧∃y,(ρ y).φ (r.x i) (r.S i) w∧Sat w0 (τ y) r a w:=by
 obtain⟨h1,h2,y,h3,h4⟩:=h
 obtain⟨R,h5,h6⟩:=optK_spec h3
 exact⟨h1,h2,y,h6 _ _ _ (hS.see.rs i R h5).1,(subK_spec (w0:=w0) h4).2 _ _ _ hS⟩
def tlC(n:Nat)(fn:Func): Code:=(spineB n fn).getD .skip
theorem tlC_eq{n:Nat}{fn:Func}{b:Code}(h:spineB n fn=some b): tlC n fn=b:=by unfold tlC;rw[h];rfl
def bodyT(P:Program)(tt:List (Nat×TI))(W:World)(fn:Func)(E:Code→St→Prop)(σ:St)(d:List Dir)(K:Ex→St→List Dir→Prop): Prop:=match fn.body with
 | some c=>execT P tt (cx0 P tt W) (0,0) W E c σ d K
 | none=>False
def postR(P:Program)(w0:World)(fn:Func)(v:Value): Exit→Act→World→Prop:=noPan (bodyPostM Fence.wide 9 P fn fun e w'=>e=.returned v∧Below w0.heap.size w0 w')
theorem rng_piece(hT:TTOk P tt)(hm:P.follows .mixedOrders=true){b:Code}(hok:rgOk b=true){σ:St}{bsR:List (Option (TypeId×List SV))}(hbR:bsR.length=σ.bs.length){α:Type}{xs:List α}{gf:Nat}{lb:Array Value}{enc:α→Value}{good:α→Bool}(hrs:σ.rs=[])(hall:allB σ.bs=true)(hp:dstB (some (rgP b)) σ.n=true)(hround:∀x,x∈xs→∃d,∀R:Res,exec P tt (cx0 P tt w0) (σ.bs.length,0) w0 (rgA b) { σ.push (some (rgP b)) (.val (enc x))with rs:=[some R] } d (rndK P tt w0 σ bsR (rgB b) (good x) R)){r:Env}{a:Act}{w:World}(hS:Sat w0 σ r a w)(hg:a.eval (rgG b)=.func (.func gf) #[] lb)(he:Enters P gf)(hseq:SeqStopsK Fence.wide 8 P gf lb (fun x:{x // x∈xs}=>#[enc x.1]) KpC (fun ys=>ys=xs.attach) (fun _=>True) xs.length w){fn:Func}{v:Value}{Ds:List Nat}(hn:Ds.Nodup)(hD:∀D,D∈Ds→w.heap[D]?=some (.deferred (some []))∧w0.heap.size≤D)(hfin:(∃x,x∈xs∧good x=false)→finK tt fn.results.toList .ret { σ with bs:=bsR } fun s=>ifB s.plain (s.den e0=v))(hrest:(∀x,x∈xs→good x=true)→∀D r' W,Sat w0 σ r' a W→(D::Ds).Nodup→(∀D',D'∈D::Ds→W.heap[D']?=some (.deferred (some []))∧w0.heap.size≤D')→(rgR b).wp P (postR P w0 fn v) (addD (colls (D::Ds)) a) W):
  (rgF b).wp P (Exit.then ((rgR b).wp P (postR P w0 fn v)) (postR P w0 fn v)) (addD (colls Ds) a) w:=by
 obtain⟨he1,hna,hnb⟩:=rg_eq hok
 have hlt:∀D,D∈Ds→D<w.heap.size:=fun D h=>(Array.getElem?_eq_some_iff.1 (hD D h).1).1
 have hkeep:∀D r' W,w.heap.size≤D→W.heap[D]?=some (.deferred (some []))→FrK σ r w.heap.size w W→AgN (σ.bs.length,0) r r'→(D::Ds).Nodup∧∀D',D'∈D::Ds→W.heap[D']?=some (.deferred (some []))∧w0.heap.size≤D':=fun D r' W h1 h2 h3 h4=>by
  refine⟨List.nodup_cons.2 ⟨fun h=>by have:=hlt D h;omega,hn⟩,fun D' h=>?_⟩
  rcases List.mem_cons.1 h with rfl|h
  ·exact⟨h2,Nat.le_trans hS.see.low.size h1⟩
  ·obtain⟨k1,k2⟩:=hD D' h
   refine⟨(h3 D' (hlt D' h) fun i p hi e=>?_).trans k1,k2⟩
   have k3:=(hS.see.bs i p.1 p.2 hi).1
   rw[e]at k3
   rw[show w.heap[D']?=some (.cells _ p.1 (0,0))from k3]at k1
   cases k1
 refine wp_block (rng_ok hT hm hbR hrs hall hp hna hnb hround hS hg he hseq (fun D r' W h1 h2 h3 h4 h5 h6=>?_) fun D r' W h1 h2 h3 h4 h5 h6=>?_)
 ·obtain⟨k1,k2⟩:=hkeep D r' W h4 h5 h3 h2
  exact hrest h6 D r' W h1 k1 k2
 ·obtain⟨k1,k2⟩:=hkeep D r' W h4 h5 h3 h2
  exact stop_fin hT h1 hrs (hfin h6) k1 k2
def sqA:Code→Code
 | .seq x _=>x
 | _=>.skip
def secB:Code→Code
 | .seq _ y=>y
 | _=>.skip
def midK(R:Res)(E:St→Prop)(e:Ex)(σ:St): Prop:=match e with
 | .normal=>hasK R σ.rs (E σ)
 | _=>False
theorem rng_full(hT:TTOk P tt)(hm:P.follows .mixedOrders=true){fn:Func}{σ:St}{r:Env}{a:Act}{W:World}(hS:Sat w0 σ r a W)(hrs:σ.rs=[]){b:Code}(hok:rgOk b=true){d:List Dir}{v:Value}{E:St→Prop}(h:∀R,exec P tt (cx0 P tt w0) (0,0) w0 (rgX b) { σ with rs:=[some R] } d fun e σ' _=>midK R E e σ'){Ds:List Nat}(hD:∀D,D∈Ds→W.heap[D]?=some (.deferred (some []))∧w0.heap.size≤D)(hE:∀σ' r' a' W',E σ'→Sat w0 σ' r' a' W'→(∀D,D∈Ds→W'.heap[D]?=some (.deferred (some []))∧w0.heap.size≤D)→(rgF b).wp P (Exit.then ((rgR b).wp P (postR P w0 fn v)) (postR P w0 fn v)) (addD (colls Ds) a') W'):
  b.wp P (postR P w0 fn v) (addD (colls Ds) a) W:=by
 have hfz:=frz_nil hS hrs
 rw[(rg_eq hok).1]
 refine wp_seq (wp_seq (wp_mono (exec_by (rules_def hm (ds:=colls Ds)) hT (inl_ok hT hm 9) (0,0) (rgX b) _ d _ (h _) ⟨Nat.zero_le _,Nat.zero_le _⟩ _ a W hfz (fun e a' w'=>e=.normal∧(rgF b).wp P (Exit.then ((rgR b).wp P (postR P w0 fn v)) (postR P w0 fn v)) (addD (colls Ds) a') w') (fun _ _ _ _ _ h=>by cases h.1) (fun _ _ _ _ _ _ h=>False.elim h) fun e σ' d' r' a' w' hk hS' _ _=>?_) fun e a' w' hq=>?_))
 ·cases e with
  | normal =>
   obtain⟨hk,m,hm1⟩:=hasK_spec (show hasK _ σ'.rs (E σ')from hk)
   have hF:FrK σ r W.heap.size W w':=frame_of hS hS' hm1
   refine⟨rfl,hE σ' r' a' w' hk hS' fun D hm2=>?_⟩
   obtain⟨h1,h2⟩:=hD D hm2
   refine⟨(hF D (Array.getElem?_eq_some_iff.1 h1).1 fun i p hi e=>?_).trans h1,h2⟩
   have h3:=(hS.see.bs i p.1 p.2 hi).1
   rw[e]at h3
   rw[show W.heap[D]?=some (.cells _ p.1 (0,0))from h3]at h1
   cases h1
  | ret=>exact False.elim hk
  | exit i=>exact False.elim hk
 ·obtain⟨b,rfl,rfl,hq⟩:=hq
  exact hq
theorem calls_esc(hT:TTOk P tt)(hm:P.follows .mixedOrders=true){f:FuncId}{fn:Func}(hf:P.funcs[f]?=some fn){args:List Value}(hl:Nat.ble args.length fn.ntmps=true){R:Ending→World→Prop}{E:Code→St→Prop}{d:List Dir}(h:bodyT P tt w0 fn E (st0 fn.ntmps args) d fun _ _ _=>False)(hE:∀b σ r a w,E b σ→Sat w0 σ r a w→b.wp P (bodyPost P fn R) a w): Calls P f args.toArray w0 R:=by
 unfold bodyT at h
 cases hb:fn.body with
 | none =>
  rw[hb]at h
  exact h.elim
 | some c =>
  rw[hb]at h
  refine calls_of_wp hf hb (wp_mono (execT_ok hT hm (inl_ok hT hm 9) (0,0) (Q:=bodyPost P fn R) (fun d v ch a w hq=>⟨hq.1,hq.2⟩) hE c _ d _ h ⟨Nat.zero_le _,Nat.zero_le _⟩ _ _ _ (sat0 (Nat.le_of_ble_eq_true hl) w0) (fun _ _ _ _ _ _ h=>False.elim h) fun e σ' d' r' a' w' hk hS' _ _=>hk.elim) fun e a w h=>h)
theorem ret_esc(hT:TTOk P tt)(hm:P.follows .mixedOrders=true){f:FuncId}{fn:Func}(he:Enters P f)(hf:P.funcs[f]?=some fn){args:List Value}(hl:Nat.ble args.length fn.ntmps=true){v:Value}(h:∀W,Below w0.heap.size w0 W→∃E d,bodyT P tt W fn E (st0 fn.ntmps args) d (fun e σ _=>finK tt fn.results.toList e σ fun s=>ifB s.plain (s.den e0=v)) ∧
   ∀b σ r a w,E b σ→Sat W σ r a w→b.wp P (postR P W fn v) (addD (colls []) a) w): RetAt P w0 f args.toArray v:=by
 refine⟨he,fun W hW=>?_⟩
 obtain⟨E,d,h1,h2⟩:=h W hW
 unfold bodyT at h1
 cases hb:fn.body with
 | none =>
  rw[hb]at h1
  exact h1.elim
 | some c =>
  rw[hb]at h1
  refine call_esc hT hm hf hb hl (E:=E) h1 fun b σ r a w k1 k2=>?_
  have h3:=h2 b σ r a w k1 k2
  rwa [show addD (colls []) a=a by simp[addD,colls]]at h3
end
def bxR(y:Nat)(t:TypeId)(cs:List Value): Res where
 φ x S w:=x=.bool false∧Bx w y t cs.toArray∧∀b,S b↔b=y
 one _ _ _ h:=by rw[h.1];rfl
 loc x S w w' h hφ:=⟨hφ.1,(h y ((hφ.2.2 y).2 rfl)).trans hφ.2.1,hφ.2.2⟩
theorem conv_{T U:Prop}(h:T)(hk:T=U): U:=hk▸h
open Go Go.RowKit
def blB:Code→Code
 | .block _ b=>b
 | _=>.skip
def blI:Code→Nat
 | .block i _=>i
 | _=>0
def lpB:Code→Code
 | .loop b=>b
 | _=>.skip
def cdC:Code→Operand
 | .cond c _ _=>c
 | _=>.tmp 0
def rnO:Code→Array Oper
 | .region _ o _=>o
 | _=>#[]
def rnI:Code→Nat
 | .region i _ _=>i
 | _=>0
def ylL(c:Code): Code:=sqA (lpB (blB c))
def ylT(c:Code): Operand:=cdC (sqA (secB (lpB (blB c))))
def ylD(c:Code): Code:=sqA (secB (secB (lpB (blB c))))
def ylE(c:Code): Code:=sqA (blB (ylD c))
def ylY(c:Code): Code:=sqA (secB (blB (ylD c)))
def ylU(c:Code): Operand:=cdC (secB (secB (blB (ylD c))))
def ylN(c:Code): Code:=secB (secB (secB (lpB (blB c))))
def ylForm(c:Code): Code:=.block (blI c) (.loop (.seq (ylL c) (.seq (.cond (ylT c) .skip (.exit (blI c))) (.seq (.block (blI (ylD c)) (.seq (ylE c) (.seq (.region (rnI (ylY c)) (rnO (ylY c)) false) (.cond (ylU c) .ret .skip)))) (ylN c)))))
def callOf(o:Oper): Option (Operand×List Operand):=match o.op,o.guard with
 | .call c,none=>(match c.callee with
  | .value f=>some (f,c.args.toList)
  | _=>none)
 | _,_=>none
def nrmK(e:Ex)(p:Prop): Prop:=match e with
 | .normal=>p
 | _=>False
section
variable {P:Program} {tt:List (Nat×TI)} {w0:World}
theorem op_w{n:Nat}{o:Oper}{a:Act}{w:World}{next next':Act→World→Prop}{Q:Exit→Act→World→Prop}(ho:ndO o=true)(hn:∀a w,next a w→next' a w)(h:o.wp P a w next Q): o.wpIn Fence.wide n P a w next' Q:=by
 refine⟨fun _ _=>trivial,?_⟩
 rw[Oper.semAt_eq _ _ _ (fun c e=>by unfold ndO at ho;rw[e]at ho;cases ho)]
 revert h
 unfold Oper.wp
 generalize (execOp a.eval o).run P w=r
 intro h
 cases r with
 | halt h0 w=>cases h0<;>first|exact h|exact False.elim h
 | ok x w =>
  cases x with
  | value v=>exact hn _ _ h
  | skip=>exact hn _ _ h
  | defer d=>exact hn _ _ h
  | enter f args =>
   refine⟨fun h=>(by cases h),(callsIn_wide.2 (show Calls P f args w _ from h)).mono fun e w' h=>?_⟩
   cases e with
   | returned v=>exact hn _ _ h
   | panicked c=>exact h
   | outgrown=>exact h
  | row row args=>exact⟨fun h=>(by cases h),fun c cs _=>let ⟨v,w',r,s⟩:=(show Rows P row args w _ from h) c cs;⟨v,w',hn _ _ r,stepsIn_wide.2 s⟩⟩
  | _=>exact False.elim h
theorem list_w{n:Nat}{ops:Array Oper}{Q Q':Exit→Act→World→Prop}{m2:List Oper}(hQ:¬ LetsOut Q')(hp:∀c a w,¬ Q' (.panic c) a w)(hn:∀a w,Q' .normal a w→wpListIn Fence.wide n P ops Q m2 a w): ∀ {m:List Oper} {a:Act} {w:World},m.all ndO=true→wpList P ops Q' m a w→wpListIn Fence.wide n P ops Q (m++m2) a w
 | [],_,_,_,h=>hn _ _ h
 | o::m,a,w,hm,h=>by
  obtain⟨h1,h2⟩:=Bool.and_eq_true_iff.1 (show(ndO o&&m.all ndO)=true from hm)
  show wpListIn Fence.wide n P ops Q (o::(m++m2)) a w
  unfold wpListIn
  unfold wpList at h
  split
  ·rename_i hw
   rw[if_pos hw]at h
   rcases h with h|h
   ·have h3:=op_w (n:=n) h1 (fun a w=>list_w (Q:=Q) hQ hp hn h2) h
    refine⟨h3.1,?_⟩
    revert h3
    rintro⟨_,h3⟩
    revert h3
    generalize (o.semAt Fence.wide.round a.eval).run P w=r
    intro h3
    cases r with
    | halt h0 w=>cases h0<;>first|exact absurd h3 (hp _ _ _)|exact False.elim h3
    | ok x w =>
     cases x with
     | enter f args =>
      refine⟨h3.1,h3.2.mono fun e w' h=>?_⟩
      cases e with
      | returned v=>exact h
      | panicked c=>exact absurd h (hp _ _ _)
      | outgrown=>exact absurd h hQ
     | round l f t a b =>
      refine⟨h3.1,h3.2.mono fun e w' h=>?_⟩
      cases e with
      | returned v=>exact h
      | panicked c=>exact absurd h (hp _ _ _)
      | outgrown=>exact absurd h hQ
     | _=>exact h3
   ·exact absurd h.2 hQ
  ·rename_i hw
   rw[if_neg hw]at h
   exact⟨fun _ _=>trivial,list_w hQ hp hn h2 h⟩
theorem Sat.rebase{τ:St}{r:Env}{a:Act}{w:World}(h:Sat w0 τ r a w)(hb:τ.bs=[])(hr:τ.rs=[])(V:World): Sat V τ e0 a V:=by
 have hag:Ag τ r e0:=⟨fun i hi=>by rw[hb]at hi;exact absurd hi (Nat.not_lt_zero _),fun i hi=>by rw[hr]at hi;exact absurd hi (Nat.not_lt_zero _)⟩
 refine⟨⟨Below.refl _ _,h.see.size,fun k s hk=>?_,fun i t cs hi=>?_,fun i R hi=>?_,fun i hi=>?_⟩,⟨fun i p hi=>?_,fun i j p q hi=>?_,fun i R hi=>?_,fun i j R R' hi=>?_,fun i j p R hi=>?_⟩,h.defers⟩
 ·obtain⟨h1,h2⟩:=h.see.ts k s hk
  exact⟨by rw[hag.den h2];exact h1,h2⟩
 all_goals first|(rw[hb]at hi;cases hi;done)|(rw[hr]at hi;cases hi;done)|(rw[hr]at hi;exact absurd hi (Nat.not_lt_zero _))
theorem yield_run{o:Oper}{f:Operand}{l:Nat}{args:List Operand}(hc:callOf o=some (f,args)){a:Act}{vs:List Value}(hf:a.eval f=.func (.yield l) #[] #[])(hv:args.map a.eval=vs)(W:World):
  (execOp a.eval o).run P W=(Instr.yield l vs.toArray).run P W∧o.guard=none∧ndO o=true:=by
 unfold callOf at hc
 split at hc
 ·rename_i c e1 e2
  split at hc
  ·rename_i f' e3
   simp only[Option.some.injEq,Prod.mk.injEq]at hc
   obtain⟨rfl,rfl⟩:=hc
   refine⟨?_,e2,by unfold ndO;rw[e1]⟩
   unfold execOp
   rw[e1]
   simp only[resolve,e3,hf,Deferred.ofValue,Sem.run_bind,Sem.run_pure,Result.andThen_ok,invoke]
   rw[arr_map _ _ _ hv]
   simp
  ·cases hc
 ·cases hc
end
