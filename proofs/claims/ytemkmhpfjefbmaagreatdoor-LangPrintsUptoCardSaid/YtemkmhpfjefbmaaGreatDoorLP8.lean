/- Laws beneath the statement. -/
import Derived.Test.YtemkmhpfjefbmaaGreatDoorLP4
import Derived.Laws.AppendOwnNone
namespace Go.Proofs.YtemkmhpfjefbmaaGreatDoor
set_option linter.defProp false
open Go Go.RowKit
section
open Tryz
set_option maxRecDepth 100000
inductive Rch (ops:Array Oper):Nat->Nat->Prop
 |one {a i:Nat}:i∈KG ops a->Rch ops a i
 |more {a j i:Nat}:j∈KG ops a->Rch ops j i->Rch ops a i
variable{ops:Array Oper}{a i:Nat}
def MX{n:Nat}{listed:Array Bool}(b:HeadInv .any ops n listed)(h:Rch ops a i):(∀j,j∈KG ops a->listed.getD j false=true)->listed.getD i false=true:=by
 induction h with
 |one h=>exact λk=>k _ h
 |more h _ c=>exact λk=>c λj d=>Bs b (k _ h) d
variable{α:Type}
def Zg(f:Nat->α)(i:Nat)(x:α)(k:Nat):α:=if k=i then x else f k
theorem XB(f:Nat->α)(i:Nat)(x:α):Zg f i x i=x:=if_pos rfl
theorem Yd(f:Nat->α){k:Nat}(x:α)(h:k≠i):Zg f i x k=f k:=if_neg h
variable{P:xO}{Q:Exit->Act->xH->Prop}{l:List Oper}{w:xH}
section
variable{Γ:Type}
def Qcy(P:xO)(ops:Array Oper)(F:(Nat->y9)->Act)(G:xH->Prop)(Φ:Nat->(Nat->y9)->(Nat->Γ)->xH->Prop)(a:Nat->Γ->Nat->Prop)(i:Nat):Prop :=
 ∀(o:Oper),ops[i]?=some o->∀(u:Nat->y9) (γ:Nat->Γ) (w:xH),G w->(∀j,Rch ops i j->Φ j u γ w)->∀(Q:Exit->Act->xH->Prop) (K:Act->xH->Prop),
  (∀v g w',Below w.heap.size w w'->G w'->Φ i (Zg u i v) (Zg γ i g) w'->(∀b,a i g b->w.heap.size<=b/\b<w'.heap.size)->K ((F u).put o.dst v) w')->if Region.wanted o (yielded ops (F u).tmps)=true then Oper.wp P o (F u) w K Q else K ((F u).put o.dst undef) w
def ly(P:xO)(ops:Array Oper)(F:(Nat->y9)->Act)(G:xH->Prop)(Φ:Nat->(Nat->y9)->(Nat->Γ)->xH->Prop)(i:Nat):Prop :=
 ∀(o:Oper),ops[i]?=some o->∀(u:Nat->y9) (γ:Nat->Γ) (w:xH),G w->(∀j,Rch ops i j->Φ j u γ w)->∃v,Yields P ops o v (F u)/\Φ i (Zg u i v) γ w
theorem so{n:Nat}(hl:l.toArray=ops)(F:(Nat->y9)->Act)(G:xH->Prop)(Φ:Nat->(Nat->y9)->(Nat->Γ)->xH->Prop)(X:Nat->Γ->Nat->Prop)(B:Nat)(st:Nat->Bool)(hB:Oq ops n st=true)(hQ:∀(d:Tmp) (v:y9) c a w,Q (.panic c) (a.put (some d) v) w->Q (.panic c) a w)(cb:∀i o,i<n->ops[i]?=some o->∃d:Tmp,o.dst=some d)(ag:∀(u:Nat->y9) (i:Nat) (v:y9) (o:Oper),i<n->ops[i]?=some o->(F u).put o.dst v=F (Zg u i v))(cc:∀i u γ w w',i<n->Below w.heap.size w w'->Φ i u γ w->Φ i u γ w')(cd:∀i u u' γ γ' w,i<n->(∀j,j=i\/Rch ops i j->u j=u' j/\γ j=γ' j)->Φ i u γ w->Φ i u' γ' w)(cf:∀i,i<n->Qcy P ops F G Φ X i)(bd:∀i,i<n->st i=false->(∀g b,¬ X i g b)/\ly P ops F G Φ i)(u0:Nat->y9)(bi:∀u γ w,(∀k,n<=k->u k=u0 k)->G w->(∀i,i<n->Φ i u γ w)->(∀i,i<n->∀b,X i (γ i) b->B<=b/\b<w.heap.size)->(∀i j,i<n->j<n->i≠j->∀b,X i (γ i) b->¬ X j (γ j) b)->wpList P ops Q (l.drop n) (F u) w):
  ∀(f:Nat) (listed:Array Bool) (u:Nat->y9) (γ:Nat->Γ) (w:xH),left n listed=f->HeadInv .any ops n listed->(∀k,n<=k->u k=u0 k)->G w->B<=w.heap.size->(∀i,i<n->listed.getD i true=true->Φ i u γ w) ->
   (∀i,i<n->listed.getD i true=true->∀b,X i (γ i) b->B<=b/\b<w.heap.size) ->
   (∀i j,i<n->j<n->listed.getD i true=true->listed.getD j true=true->i≠j->∀b,X i (γ i) b->¬ X j (γ j) b) ->
   wpAny P .any ops Q (f+(ops.size-n)) listed (F u) w:=by
 simp only[Oq,Lx,decide_eq_true_eq]at hB;let⟨⟨⟨⟨⟨⟨hn,bp⟩,hc⟩,hs⟩,bk⟩,ch⟩,ao⟩:=hB;have R:∀a j,a<n->j∈KG ops a->j<a:=λa j ha t=>by
  grind
 have bq:∀a j,Rch ops a j->a<n->j<a:=by
  intro a j h;induction h with
  |one h=>exact λha=>R _ _ ha h
  |more h _ ih =>
   intro ha;have O:=R _ _ ha h;have:=ih x3;omega
 intro f;induction f with
 |zero =>
  intro listed u γ w hf s Y hG bl hΦ hF hD;have r:=j5 hf;have he:listed=Array.replicate n true++Array.replicate (ops.size-n) false:=by
   apply Array.ext
   ·simp[s.size];omega
   ·intro i O E;by_cases y:i<n
    ·have:=r i y;rw[Array.getElem_append_left (l3 y)];simpa [O]using this
    ·have:=s.tail i x3 (by rw[<- s.size];exact O);rw[Array.getElem_append_right x7];simpa [O]using this
  rw[Lm];have aw:(l.drop n).length=ops.size-n:=by rw[<- hl];simp
  rw[<- aw]at ao ⊢;exact wpAny_of_seq (l.drop n) n listed (F u) w (λj=>by rw[<- hl];simp[List.getElem?_drop]) (by rw[he,<- aw];exact ao) (bi u γ w Y hG (λi y=>hΦ i y (r i y)) (λi y=>hF i y (r i y)) (λi j y t=>hD i j y t (r i y) (r j t)))
 |succ f ih =>
  intro listed u γ w hf s Y hG bl hΦ hF hD;let⟨x,z,Z,bs⟩:=Cc n listed x3;have q:x∈Region.ready .any ops listed:=by
   have cj:x<ops.size:=x3;obtain⟨o,L⟩:∃o,ops[x]?=some o:=⟨ops[x],by simp[cj]⟩
   refine mem_ready.2 ⟨Z,o,L,λe he H=>?_⟩;have hw:e.on∈KG ops x:=by
    unfold KG;rw[L]
    exact Lv.2 ⟨e,Tn.2 ⟨Sy.2 he,H⟩,rfl⟩
   have aB:e.on<x:=R _ _ z hw;have h3:=bs _ aB;have h4:e.on<listed.size:=by rw[s.size];omega
   simpa [h4]using h3
  rw[show f+1+(ops.size-n)=(f+(ops.size-n))+1 by omega];have bm:∀i,i∈Region.ready .any ops listed->∀j,Rch ops i j->listed.getD j false=true:=λi y j t=>by
   let⟨_,o,L,I⟩:=mem_ready.1 y;refine MX s t λk D=>?_
   unfold KG at D;rw[L]at D
   obtain⟨e,he,rfl⟩:=Lv.1 D;let⟨ck,cl⟩:=Tn.1 he;exact I e (Sy.1 ck) cl
  have bu:∀j,j<n->listed.getD j false=true->listed.getD j true=true:=λj t h=>by
   have h4:j<listed.size:=by rw[s.size];omega
   simpa [h4]using h
  have M:∀i,i<n->i∈Region.ready .any ops listed->∀j,Rch ops i j->Φ j u γ w:=λi C y j t=>by
   have aB:=bq _ _ t C;exact hΦ _ x3 (bu j x3 (bm i y j t))
  have S:∀i,i<n->listed.getD i true=false->∀v g w',Below w.heap.size w w'->∀j,j<n->listed.getD j true=true->Φ j (Zg u i v) (Zg γ i g) w':=λi y T v g w' H j t p=>by
   refine cd j u _ γ _ w' t (λk D=>?_) (cc j u γ w w' t H (hΦ j t p));have J:k≠i:=by
    rintro rfl;rcases D with rfl|D
    ·rw[T]at p;cases p
    ·have bv:j<ops.size:=x3;have O:listed.getD k false=true:=MX s D λm hm=>by
      refine Bs s ?_ hm;have h4:j<listed.size:=by rw[s.size];omega
      simpa [h4]using p
     rw[getD_both T]at O;cases O
   rw[Yd u v J,Yd γ g J];exact⟨rfl,rfl⟩
  by_cases r:∃i,i<n/\st i=true/\listed.getD i true=false
  case neg =>
   have bc:st x=false:=by
    cases h:st x with
    |false=>rfl
    |true=>exact absurd ⟨x,z,h,Z⟩ r
   let⟨U,bX⟩:=bd x z bc;let⟨_,o,L,I⟩:=mem_ready.1 q;let⟨v,hy,hv⟩:=bX o L u γ w hG (M x z q);have cm:∀c a w,Q (.panic c) (a.put o.dst v) w->Q (.panic c) a w:=by
    let⟨d,hd⟩:=cb x o z L;rw[hd];exact hQ d v
   have eγ:Zg γ x (γ x)=γ:=by funext k;unfold Zg;split<;>simp_all
   refine wpAny_first L (Region.noSelect_spec bp) cm _ listed (F u) w (λj oj bn cn bY ca=>?_) q hy ?_
   ·have bv:j<ops.size:=(b8.1 bn).1;have O:=Lg.1 bk x (R7.2 z);rw[bc,Bool.false_or]at O;have E:=Lg.1 O j (R7.2 bv);simp only[Bool.or_eq_true,Lx,decide_eq_true_eq,Sk,L,bn]at E;rcases E with((E|E)|E)|E
    ·exact absurd E cn
    ·exact absurd ⟨j,E.1,E.2,bY⟩ r
    ·let⟨o',cp,e,he,H,cq⟩:=Region.waitsFor_spec E;have:o'=oj:=o7 (cp.symm.trans bn);subst this;exact absurd cq (ca e he H)
    ·exact E
   ·rw[ag u x v o z L];refine ih _ _ γ w (x8 (Wk z Z)) (s.set q z) (λk D=>by rw[Yd u v x3];exact Y k D) hG bl (λj t p=>?_) (λj t p b H=>?_) (λj k t D p K J b H A=>?_)
    ·by_cases e:j=x
     ·subst e;exact hv
     ·rw[getD_set_ne true (Ne.symm e)]at p;have h5:=S x z Z v (γ x) w (p5 _ _) j t p;rwa [eγ]at h5
    ·have ej:j≠x:=λe=>U _ _ (e▸H)
     rw[getD_set_ne true (Ne.symm ej)]at p;exact hF j t p b H
    ·have ej:j≠x:=λe=>U _ _ (e▸H)
     have ek:k≠x:=λe=>U _ _ (e▸A)
     rw[getD_set_ne true (Ne.symm ej)]at p;rw[getD_set_ne true (Ne.symm ek)]at K;exact hD j k t D p K J b H A
  let⟨is,cr,ct,cu⟩:=r;refine⟨λh0=>(by rw[h0]at q;cases q),λi y=>?_⟩;have C:i<n:=by
   rcases R5 i n with h|h
   ·exact h
   ·exact absurd y (Np hs hc s cr ct cu i h)
  let⟨T,o,L,I⟩:=mem_ready.1 y;have cw:∀v g w',Below w.heap.size w w'->G w'->Φ i (Zg u i v) (Zg γ i g) w'->(∀b,X i g b->w.heap.size<=b/\b<w'.heap.size)->wpAny P .any ops Q (f+(ops.size-n)) (listed.setIfInBounds i true) ((F u).put o.dst v) w':=λv g w' H cy hv V=>by
   rw[ag u i v o C L];refine ih _ _ (Zg γ i g) w' (x8 (Wk C T)) (s.set y C) (λk D=>by rw[Yd u v x3];exact Y k D) cy (L6 bl H.size) (λj t p=>?_) (λj t p b ad=>?_) (λj k t D p K J b W A=>?_)
   ·by_cases e:j=i
    ·subst e;exact hv
    ·rw[getD_set_ne true (Ne.symm e)]at p;exact S i C T v g w' H j t p
   ·by_cases e:j=i
    ·subst e;rw[XB]at ad;have:=V b ad;omega
    ·rw[getD_set_ne true (Ne.symm e)]at p;rw[Yd γ g e]at ad;have O:=hF j t p b ad;have E:=H.size;omega
   ·by_cases ej:j=i
    ·subst ej;have ek:k≠j:=Ne.symm J;rw[XB]at W;rw[Yd γ g ek]at A;rw[getD_set_ne true (Ne.symm ek)]at K;have O:=V b W;have E:=hF k D K b A;omega
    ·rw[getD_set_ne true (Ne.symm ej)]at p;rw[Yd γ g ej]at W;by_cases ek:k=i
     ·subst ek;rw[XB]at A;have O:=V b A;have E:=hF j t p b W;omega
     ·rw[getD_set_ne true (Ne.symm ek)]at K;rw[Yd γ g ek]at A;exact hD j k t D p K J b W A
  have N:=cf i C o L u γ w hG (M i C y) Q _ cw;unfold wpOp;simp only[L];split
  ·rename_i hw;rw[if_pos hw]at N;exact .inl N
  ·rename_i hw;rw[if_neg hw]at N;exact N
theorem Dq{a:Act}(ds:List Nat)(G:xH->Prop)(Φ:Nat->(Nat->y9)->(Nat->Γ)->xH->Prop)(s:Nat->Γ->Nat->Prop)(K:Nat->Γ)(y:Nat->Bool)(L:Oq l.toArray ds.length y=true)(M:∀(d:Tmp) (v:y9) c a w,Q (.panic c) (a.put (some d) v) w->Q (.panic c) a w)(z:((List.range ds.length).all λi=>((l.toArray[i]?).bind (·.dst))==ds[i]?)=true)(A:ML ds=true)(_hlt:ds.all (·<a.tmps.size)=true)(N:G w.drew)(B:∀i u γ w w',i<ds.length->Below w.heap.size w w'->Φ i u γ w->Φ i u γ w')(C:∀i u I γ J w,i<ds.length->(∀j,j=i\/Rch l.toArray i j->u j=I j/\γ j=J j)->Φ i u γ w->Φ i I J w)(D:∀i,i<ds.length->Qcy P l.toArray (NJ a ds) G Φ s i)(n:∀i,i<ds.length->y i=false->(∀g b,¬ s i g b)/\ly P l.toArray (NJ a ds) G Φ i)(p:∀u γ w',G w'->(∀i,i<ds.length->Φ i u γ w')->(∀i,i<ds.length->∀b,s i (γ i) b->w.heap.size<=b/\b<w'.heap.size)->(∀i j,i<ds.length->j<ds.length->i≠j->∀b,s i (γ i) b->¬ s j (γ j) b)->wpList P l.toArray Q (l.drop ds.length) (NJ a ds u) w'):wpAny P .any l.toArray Q l.toArray.size (Array.replicate l.toArray.size false) a { w with drawn:=w.drawn+1 }:=by
 have E:=MM A;have V:ds.length<=l.toArray.size:=by
  grind[Oq]
 have x:HeadInv .any l.toArray ds.length (Array.replicate l.toArray.size false) :=
  ⟨x6,λj W _ k=>(by rw[getD_replicate_false]at k;cases k),λt _ O=>getD_in (l3 O) (getD_replicate_false _ _)⟩
 have e:∀i,i<ds.length->(Array.replicate l.toArray.size false).getD i true=false:=λi f=>getD_in (by simpa using(by omega:i<l.toArray.size)) (getD_replicate_false _ _)
 have q:left ds.length (Array.replicate l.toArray.size false)=ds.length:=by
  unfold left
  grind[List.filter_eq_self]
 have m:∀i,i<ds.length->∃d,ds[i]?=some d/\∀o,l.toArray[i]?=some o->o.dst=some d:=λi f=>by
  have X:=Lg.1 z i (R7.2 f)
  grind
 have h:=so (Q:=Q) (l:=l) rfl (NJ a ds) G Φ s w.heap.size y L M (λi o f F=>by let⟨d,_,r⟩:=m i f;exact⟨d,r o F⟩) (λu i v o f F=>by
   let⟨d,R,r⟩:=m i f;rw[r o F];exact tX E u R v) B C D n (λi=>a.tmps.getD (ds.getD i 0) undef) (λu γ w' _ H S T U=>p u γ w' H S T U) ds.length _ (λi=>a.tmps.getD (ds.getD i 0) undef) K w.drew q x (λ_ _=>rfl) N (L4 _)
   (λi f k=>(by rw[e i f]at k;cases k)) (λi f k=>(by rw[e i f]at k;cases k)) (λi j f Y k=>(by rw[e i f]at k;cases k))
 rw[show ds.length+(l.toArray.size-ds.length)=l.toArray.size by omega]at h;rw[<- m7 a ds]at h;exact h
end
inductive SV where
 |val (y:Value)
 |ptr (b o:Nat)
 |sli (b o n c:Nat)
 |clo (fn:Fn) (l m:List SV)
 |agg (l:List SV)
 |tup (l:List SV)
 |han (i:Nat)
structure Env where
 b:Nat->Nat
 x:Nat->Value
 S:Nat->Nat->Prop
mutual
def SV.den(r:Env):SV->y9
 |.val y=>y
 |.ptr b o=>.pointer (some ⟨r.b b,o,none⟩)
 |.sli b o n c=>.slice (some ⟨r.b b,o,none⟩) n c
 |.clo fn l m=>.func fn (QO r l).toArray (QO r m).toArray
 |.agg l=>.agg (QO r l).toArray
 |.tup l=>.tuple (QO r l).toArray
 |.han i=>r.x i
def QO(r:Env):List SV->o3
 |[]=>[]
 |s::l=>s.den r::QO r l
end
mutual
def SV.ok(β ξ:Nat->Bool):SV->Bool
 |.val _=>true
 |.ptr b _=>β b
 |.sli b _ _ _=>β b
 |.clo _ l m=>Dv β ξ l&&Dv β ξ m
 |.agg l=>Dv β ξ l
 |.tup l=>Dv β ξ l
 |.han i=>ξ i
def Dv(β ξ:Nat->Bool):List SV->Bool
 |[]=>true
 |s::l=>s.ok β ξ&&Dv β ξ l
end
mutual
def Zi{r r':Env}(β ξ:Nat->Bool)(a:∀i,β i=true->r.b i=r'.b i)(c:∀i,ξ i=true->r.x i=r'.x i):∀s:SV,s.ok β ξ=true->s.den r=s.den r'
 |.val _,_=>rfl
 |.ptr b _,h=>by simp only[SV.den,a b h]
 |.sli b _ _ _,h=>by simp only[SV.den,a b h]
 |.clo _ l m,h=>by
  have d:=L5.1 h;simp only[SV.den,XH _ _ a c l d.1,XH _ _ a c m d.2]
 |.agg l,h=>by simp only[SV.den,XH _ _ a c l h]
 |.tup l,h=>by simp only[SV.den,XH _ _ a c l h]
 |.han i,h=>c i h
def XH{r r':Env}(β ξ:Nat->Bool)(a:∀i,β i=true->r.b i=r'.b i)(c:∀i,ξ i=true->r.x i=r'.x i):∀l:List SV,Dv β ξ l=true->QO r l=QO r' l
 |[],_=>rfl
 |s::l,h=>by
  have d:=L5.1 h;simp only[QO,Zi _ _ a c s d.1,XH _ _ a c l d.2]
end
mutual
def KW{β ξ d e:Nat->Bool}(a:∀i,β i=true->d i=true)(c:∀i,ξ i=true->e i=true):∀s:SV,s.ok β ξ=true->s.ok d e=true
 |.val _,_=>rfl
 |.ptr b _,h=>a b h
 |.sli b _ _ _,h=>a b h
 |.clo _ l m,h=>by
  have f:=L5.1 h;exact L5.2 ⟨Jz a c l f.1,Jz a c m f.2⟩
 |.agg l,h=>Jz a c l h
 |.tup l,h=>Jz a c l h
 |.han i,h=>c i h
def Jz{β ξ a b:Nat->Bool}(c:∀i,β i=true->a i=true)(d:∀i,ξ i=true->b i=true):∀l:List SV,Dv β ξ l=true->Dv a b l=true
 |[],_=>rfl
 |s::l,h=>by
  have e:=L5.1 h;exact L5.2 ⟨KW c d s e.1,Jz c d l e.2⟩
end
theorem Xa{b:Nat}(h:Nat.blt a b=true):a<b:=L8 h
def YQ{b:Nat}(h:a<b):Nat.blt a b=true:=Nat.ble_eq_true_of_le h
theorem XI(r:Env):∀l:List SV,QO r l=l.map (·.den r)
 |[]=>rfl
 |s::l=>by simp[QO,XI r l]
theorem KO(r:Env)(l:List SV):(QO r l).length=l.length:=by simp[XI]
theorem BS(r:Env)(l:o3):QO r (l.map SV.val)=l:=by induction l<;>simp_all [QO,SV.den]
theorem WK(β ξ:Nat->Bool)(l:o3):Dv β ξ (l.map SV.val)=true:=by induction l<;>simp_all [Dv,SV.ok]
def okL_all{β ξ:Nat->Bool}:∀ {l:List SV},Dv β ξ l=true↔∀s,s∈l->s.ok β ξ=true
 |[]=>by simp[Dv]
 |s::l=>by simp[Dv,@okL_all β ξ l]
def Yv{α:Type}(k:Nat):List (Nat×α)->Option α
 |[]=>none
 |(j,s)::l=>bif Nat.beq j k then some s else Yv k l
def Xq{α:Type}:List (Option α)->Nat->Option α
 |[],_=>none
 |x::_,0=>x
 |_::l,n+1=>Xq l n
def GX{α:Type}:List (Option α)->Nat->α->List (Option α)
 |[],_,_=>[]
 |_::l,0,y=>some y::l
 |x::l,n+1,y=>x::GX l n y
def XK{α:Type}:∀ {l:List (Option α)} {i:Nat} {y:α},Xq l i=some y->i<l.length
 |[],_,_,h=>by cases h
 |_::_,0,_,_=>Sw _
 |_::l,_+1,_,h=>Uy (XK (l:=l) h)
def XZ{α:Type}:∀(l:List (Option α)) (i:Nat) (y:α),(GX l i y).length=l.length
 |[],_,_=>rfl
 |_::_,0,_=>rfl
 |_::l,n+1,y=>Lu Nat.succ (XZ l n y)
def A7{α:Type}:∀ {l:List (Option α)} {i j:Nat} {y z:α},Xq (GX l i y) j=some z->(j=i/\z=y)\/(j≠i/\Xq l j=some z)
 |[],_,_,_,_,h=>by cases h
 |_::_,0,0,_,_,h=>.inl ⟨rfl,(o7 h).symm⟩
 |_::_,0,_+1,_,_,h=>.inr ⟨x6,h⟩
 |_::_,_+1,0,_,_,h=>.inr ⟨x6,h⟩
 |_::l,i+1,j+1,_,_,h=>by
  rcases A7 (l:=l) (i:=i) (j:=j) h with⟨e,a⟩|⟨e,a⟩
  ·exact .inl ⟨by rw[e],a⟩
  ·exact .inr ⟨l3 e,a⟩
theorem EH{α:Type}:∀ {l:List (Option α)} {x:Option α} {i:Nat} {y:α},Xq (l++[x]) i=some y->Xq l i=some y\/(i=l.length/\x=some y)
 |[],_,0,_,h=>.inr ⟨rfl,h⟩
 |[],_,_+1,_,h=>by cases h
 |_::_,_,0,_,h=>.inl h
 |_::l,_,i+1,_,h=>(EH (l:=l) (i:=i) h).imp id λ⟨e,a⟩=>⟨Lu Nat.succ e,a⟩
structure Res where
 φ:Value->(Nat->Prop)->World->Prop
 one:∀v S w,φ v S w->v.oneCell'=true
 loc:∀v S w w',(∀b,S b->w'.heap[b]?=w.heap[b]?)->φ v S w->φ v S w'
structure St where
 n:Nat
 ts:List (Nat×SV)
 bs:List (Option (TypeId×List SV))
 rs:List (Option Res)
def St.lt(σ:St)(s:SV):Bool:=s.ok (λi=>Nat.blt i σ.bs.length) (λi=>Nat.blt i σ.rs.length)
def St.ltL(σ:St)(l:List SV):Bool:=Dv (λi=>Nat.blt i σ.bs.length) (λi=>Nat.blt i σ.rs.length) l
structure See (w0:World) (σ:St) (r:Env) (a:Act) (w:World):Prop where
 low:Below w0.heap.size w0 w
 size:a.tmps.size=σ.n
 ts:∀k s,Yv k σ.ts=some s->a.tmps.getD k undef=s.den r/\σ.lt s=true
 bs:∀i t cs,Xq σ.bs i=some (t,cs)->Bx w (r.b i) t (QO r cs).toArray/\σ.ltL cs=true
 rs:∀i R,Xq σ.rs i=some R->R.φ (r.x i) (r.S i) w/\∀b,r.S i b->b<w.heap.size
 one:∀i,i<σ.rs.length->(r.x i).oneCell'=true
structure Sep (w0:World) (σ:St) (r:Env):Prop where
 own:∀i p,Xq σ.bs i=some p->w0.heap.size<=r.b i
 inj:∀i j p q,Xq σ.bs i=some p->Xq σ.bs j=some q->i≠j->r.b i≠r.b j
 ownS:∀i R,Xq σ.rs i=some R->∀b,r.S i b->w0.heap.size<=b
 disj:∀i j R R',Xq σ.rs i=some R->Xq σ.rs j=some R'->i≠j->∀b,r.S i b->¬ r.S j b
 apart:∀i j p R,Xq σ.bs i=some p->Xq σ.rs j=some R->¬ r.S j (r.b i)
structure Sat (w0:World) (σ:St) (r:Env) (a:Act) (w:World):Prop where
 see:See w0 σ r a w
 sep:Sep w0 σ r
 defers:a.defers=[]
variable{w0 w':xH}{σ:St}{r:Env}
def See.later{a:Act}(h:See w0 σ r a w)(d:Below w.heap.size w w'):See w0 σ r a w' :=
 ⟨nxt h.low d,h.size,h.ts,λi t cs c=>⟨(h.bs i t cs c).1.later d,(h.bs i t cs c).2⟩,λi R c=>⟨R.loc _ _ _ _ (λb e=>d.block b ((h.rs i R c).2 b e)) (h.rs i R c).1,λb e=>L9 ((h.rs i R c).2 b e) d.size⟩,h.one⟩
structure Out where
 s:SV
 b:Option (TypeId×List SV):=none
 r:Option Res:=none
structure Gh where
 b:Nat
 x:Value
 S:Nat->Prop
def Gh.no:Gh:=⟨0,.bool false,λ_=>False⟩
def Env.add(r:Env)(nb nx:Nat)(γ:Gh):Env:=⟨Zg r.b nb γ.b,Zg r.x nx γ.x,Zg r.S nx γ.S⟩
def Env.add'(r:Env)(σ:St)(γ:Gh):Env:=r.add σ.bs.length σ.rs.length γ
variable{s:SV}
theorem PB(h:σ.lt s=true)(r:Env)(γ:Gh):s.den (r.add' σ γ)=s.den r :=
 Zi _ _ (λ_ a=>Yd _ _ (Sc (Xa a))) (λ_ a=>Yd _ _ (Sc (Xa a))) s h
variable{l:List SV}
theorem UO(h:σ.ltL l=true)(r:Env)(γ:Gh):QO (r.add' σ γ) l=QO r l :=
 XH _ _ (λ_ a=>Yd _ _ (Sc (Xa a))) (λ_ a=>Yd _ _ (Sc (Xa a))) l h
structure Made (r':Env) (o:Out) (γ:Gh) (w w':World):Prop where
 one:γ.x.oneCell'=true
 b:∀t cs,o.b=some (t,cs)->Bx w' γ.b t (QO r' cs).toArray/\w.heap.size<=γ.b
 r:∀R,o.r=some R->R.φ γ.x γ.S w'/\∀b,γ.S b->w.heap.size<=b/\b<w'.heap.size
 apart:∀p R,o.b=some p->o.r=some R->¬ γ.S γ.b
def Gt{α:Type}:List α->α->List α
 |[],y=>[y]
 |x::l,y=>x::Gt l y
theorem Yj{α:Type}:∀(l:List α) (y:α),Gt l y=l++[y]
 |[],_=>rfl
 |x::l,y=>Lu (x::·) (Yj l y)
def St.fits(σ:St)(o:Out):Bool :=
 (o.s.ok (λi=>Nat.blt i (match o.b with|some _=>σ.bs.length+1|none=>σ.bs.length)) (λi=>Nat.blt i (match o.r with|some _=>σ.rs.length+1|none=>σ.rs.length))) &&
 (match o.b with|some (_,cs)=>σ.ltL cs|none=>true)
def St.grow(σ:St)(o:Out):St:={ σ with bs:=match o.b with|some x=>Gt σ.bs (some x)|none=>σ.bs,rs:=match o.r with|some R=>Gt σ.rs (some R)|none=>σ.rs }
def St.push(σ:St)(d:Option Tmp)(s:SV):St:=match d with|some d=>{ σ with ts:=(d,s)::σ.ts } | none=>σ
variable{o:Out}
theorem PT:σ.bs.length<=(σ.grow o).bs.length:=by
 grind[St.grow,Yj]
theorem PU:σ.rs.length<=(σ.grow o).rs.length:=by
 grind[St.grow,Yj]
theorem uE(h:σ.lt s=true):(σ.grow o).lt s=true :=
 KW (λ_ a=>YQ (L9 (Xa a) PT)) (λ_ a=>YQ (L9 (Xa a) PU)) s h
theorem Ws(h:σ.ltL l=true):(σ.grow o).ltL l=true :=
 Jz (λ_ a=>YQ (L9 (Xa a) PT)) (λ_ a=>YQ (L9 (Xa a) PU)) l h
variable{p:o0×List SV}
theorem Ep(h:Xq (σ.grow o).bs i=some p):Xq σ.bs i=some p\/(i=σ.bs.length/\o.b=some p):=by
 unfold St.grow at h;cases e:o.b with
 |none=>rw[e]at h;exact .inl h
 |some x =>
  grind[Yj,EH]
variable{R:Res}
theorem Er(h:Xq (σ.grow o).rs i=some R):Xq σ.rs i=some R\/(i=σ.rs.length/\o.r=some R):=by
 unfold St.grow at h;cases e:o.r with
 |none=>rw[e]at h;exact .inl h
 |some x =>
  rw[e]at h
  grind[Yj,EH]
theorem tU(h:σ.fits o=true):(σ.grow o).lt o.s=true:=by
 unfold St.fits at h;have a:=(L5.1 h).1;refine KW (λi b=>?_) (λi b=>?_) o.s a;all_goals grind[St.grow,Yj]
theorem mX(h:σ.fits o=true){t:o0}{cs:List SV}(e:o.b=some (t,cs)):σ.ltL cs=true:=by
 grind[St.fits]
section
variable{w0:xH}{σ:St}{r:Env}{a:Act}{w w':xH}{o:Out}{γ:Gh}
theorem Kx(h:Xq σ.bs i=some p):(r.add' σ γ).b i=r.b i:=Yd _ _ (Sc (XK h))
def NZ(h:i<σ.rs.length):(r.add' σ γ).x i=r.x i:=Yd _ _ (Sc h)
def Kw(h:Xq σ.rs i=some R):(r.add' σ γ).S i=r.S i:=Yd _ _ (Sc (XK h))
theorem See.grow(h:See w0 σ r a w)(j:Below w.heap.size w w')(l:σ.fits o=true)(e:Made (r.add' σ γ) o γ w w'):See w0 (σ.grow o) (r.add' σ γ) a w':=by
 have d:=h.later j;refine⟨d.low,d.size,λk s m=>?_,λi t cs f=>?_,λi R f=>?_,λi f=>?_⟩
 ·have c:=d.ts k s m
  grind[PB,uE]
 ·rcases Ep f with c|⟨rfl,c⟩
  ·let⟨g,p⟩:=d.bs i t cs c
   grind[UO,Kx,Ws]
  ·have g:=(e.b t cs c).1;refine⟨?_,Ws (mX l c)⟩;rw[show(r.add' σ γ).b σ.bs.length=γ.b from XB _ _ _];exact g
 ·rcases Er f with c|⟨rfl,c⟩
  ·rw[NZ (XK c),Kw c];exact d.rs i R c
  ·rw[show(r.add' σ γ).x σ.rs.length=γ.x from XB _ _ _,show(r.add' σ γ).S σ.rs.length=γ.S from XB _ _ _];exact⟨(e.r R c).1,λb n=>((e.r R c).2 b n).2⟩
 ·rcases R5 i σ.rs.length with c|c
  ·rw[NZ c];exact h.one i c
  ·have g:i=σ.rs.length:=by
    grind[St.grow,Yj]
   subst g;rw[show(r.add' σ γ).x σ.rs.length=γ.x from XB _ _ _];exact e.one
def Sep.grow(h:Sep w0 σ r)(hs:See w0 σ r a w)(_hb:Below w.heap.size w w')(k:Made (r.add' σ γ) o γ w w'):Sep w0 (σ.grow o) (r.add' σ γ):=by
 have n:(r.add' σ γ).b σ.bs.length=γ.b:=XB _ _ _;have s:(r.add' σ γ).S σ.rs.length=γ.S:=XB _ _ _;have v:=hs.low.size;have m:∀i p,Xq σ.bs i=some p->r.b i<w.heap.size:=λi p g=>(hs.bs i p.1 p.2 g).1.lt
 refine⟨λi p g=>?_,λi j p q g t l=>?_,λi R g b e=>?_,λi j R u g t l b e f=>?_,λi j p R g t e=>?_⟩
 ·rcases Ep g with c|⟨rfl,c⟩
  ·rw[Kx c];exact h.own i p c
  ·rw[n];have:=(k.b p.1 p.2 c).2;omega
 ·rcases Ep g with c|⟨rfl,c⟩<;>rcases Ep t with d|⟨rfl,d⟩
  ·rw[Kx c,Kx d];exact h.inj i j p q c d l
  ·rw[Kx c,n];have:=(k.b q.1 q.2 d).2;have:=m i p c;omega
  ·rw[Kx d,n];have:=(k.b p.1 p.2 c).2;have:=m j q d;omega
  omega
 ·rcases Er g with c|⟨rfl,c⟩
  ·rw[Kw c]at e;exact h.ownS i R c b e
  ·rw[s]at e;have:=((k.r R c).2 b e).1;omega
 ·rcases Er g with c|⟨rfl,c⟩<;>rcases Er t with d|⟨rfl,d⟩
  ·rw[Kw c]at e;rw[Kw d]at f;exact h.disj i j R u c d l b e f
  ·rw[Kw c]at e;rw[s]at f
   have:=((k.r u d).2 b f).1;have:=(hs.rs i R c).2 b e;omega
  ·rw[Kw d]at f;rw[s]at e
   have:=((k.r R c).2 b e).1;have:=(hs.rs j u d).2 b f;omega
  ·exact absurd rfl l
 ·rcases Ep g with c|⟨rfl,c⟩<;>rcases Er t with d|⟨rfl,d⟩
  ·rw[Kx c,Kw d]at e;exact h.apart i j p R c d e
  ·rw[Kx c,s]at e;have:=((k.r R d).2 _ e).1;have:=m i p c;omega
  ·rw[n,Kw d]at e;have:=(k.b p.1 p.2 c).2;have:=(hs.rs j R d).2 _ e;omega
  ·rw[n,s]at e;exact k.apart p R c d e
def See.push(h:See w0 σ r a w){d:Option Tmp}(g:∀k,d=some k->k<σ.n)(hs:σ.lt s=true):See w0 (σ.push d s) r (a.put d (s.den r)) w:=by
 cases d with
 |none=>exact h
 |some d =>
  have c:d<a.tmps.size:=by rw[h.size];exact g d rfl
  refine⟨h.low,by simpa [Act.put,St.push]using h.size,λk u b=>?_,h.bs,h.rs,h.one⟩;simp only[St.push,Yv]at b;cases e:Nat.beq d k with
  |true =>
   have:d=k:=Ld e;subst this;rw[e]at b;obtain rfl:=o7 b;exact⟨by simp[Act.put,c],hs⟩
  |false =>
   have f:d≠k:=Nat.ne_of_beq_eq_false e;rw[e]at b;let⟨i,j⟩:=h.ts k u b;refine⟨?_,j⟩;rw[<- i];show(a.tmps.setIfInBounds d _).getD k undef=a.tmps.getD k undef;simp[f]
end
open Go Go.RowKit
inductive TK where
 |struct (fs:List (Nat×Nat×Option Bool))
 |array (n e sz:Nat) (ag:Option Bool)
 |slice (e sz:Nat) (ag:Option Bool)
 |ptr (e:Nat)
 |str
 |int (k:IntKind)
 |bool
 |other
structure TI where
 size:Nat
 zero:List Value
 k:TK
def TC(P:xO)(t:o0):Nat:=match P.info? t with|some i=>i.size|none=>0
def th:TypeDesc->Bool
 |.struct _=>true
 |.array _ _=>true
 |_=>false
def bo(P:xO)(t:o0):Option Bool:=match P.underlying t with|some d=>some (th d)|none=>none
def TK.agg:TK->Bool
 |.struct _=>true
 |.array ..=>true
 |_=>false
def Ah(P:xO):TypeDesc->TK
 |.struct a=>.struct (a.toList.map λf=>(f.offset,TC P f.type,bo P f.type))
 |.array n e=>.array n e (TC P e) (bo P e)
 |.slice e=>.slice e (TC P e) (bo P e)
 |.pointer e=>.ptr e
 |.string=>.str
 |.int k=>.int k
 |.bool=>.bool
 |_=>.other
def Yw(P:xO)(t:o0):Option TI:=match P.info? t,P.underlying t with
 |some i,some d=>some ⟨i.size,match i.zero with|some z=>z.cells.toList|none=>[],Ah P d⟩
 |_,_=>none
def YF(P:xO)(tt:List (Nat×TI)):Prop:=∀t ti,Yv t tt=some ti->Yw P t=some ti
theorem yX{P:xO}:∀ {tt:List (Nat×TI)},tt.map (λp=>Yw P p.1)=tt.map (λp=>some p.2)->YF P tt
 |[],_=>λ_ _ h=>by cases h
 |(j,x)::l,h=>λt ti a=>by
  simp only[List.map_cons,List.cons.injEq]at h;unfold Yv at a;cases e:Nat.beq j t with
  |true =>
   simp_all
  |false=>rw[e]at a;exact yX h.2 t ti a
variable{k:IntKind}{b:Option Bool}{e:Nat}
section
variable{P:xO}{t:o0}{ti:TI}
theorem Kc(h:Yw P t=some ti):∃i d,P.info? t=some i/\P.underlying t=some d/\ti.size=i.size/\ti.k=Ah P d/\(∀z,i.zero=some z->ti.zero=z.cells.toList)/\(i.zero=none->ti.zero=[]):=by
 grind[Yw]
def Yz{n:Nat}(h:TC P t=n)(a:n≠0)(w:xH):(sizeOf t).run P w=.ok n w:=by
 unfold TC at h;cases e:P.info? t with
 |none=>rw[e]at h;exact absurd h.symm a
 |some i=>rw[e]at h;simp only at h;subst h;simp[sizeOf,typeInfo,e]
theorem EZ(h:Yw P t=some ti)(w:xH):(sizeOf t).run P w=.ok ti.size w:=by
 let⟨i,d,a,_,b,_⟩:=Kc h;simp_all[sizeOf,typeInfo]
def Yn{d:TypeDesc}(h:P.underlying t=some d)(w:xH):(underlying t).run P w=.ok d w:=by simp[underlying,h]
def IZ{b:Bool}(h:bo P t=some b)(w:xH):(isAgg t).run P w=.ok b w:=by
 unfold bo at h;cases e:P.underlying t with
 |none=>rw[e]at h;cases h
 |some d =>
  rw[e]at h;obtain rfl:=o7 h;unfold isAgg;rw[xQ,Yn e];cases d<;>rfl
def SN(h:Yw P t=some ti)(w:xH):(isAgg t).run P w=.ok ti.k.agg w:=by
 let⟨i,d,_,a,_,b,_⟩:=Kc h;refine IZ ?_ w;unfold bo;rw[a,b]
 cases d<;>rfl
def ID(h:Yw P t=some ti)(a:ti.zero≠[])(w:xH):∃z,(zeroValue t).run P w=.ok z w/\z.cells.toList=ti.zero:=by
 let⟨i,d,b,_,_,_,c,f⟩:=Kc h;cases e:i.zero with
 |none=>exact absurd (f e) a
 |some z=>exact⟨z,by simp[zeroValue,typeInfo,b,e],(c z e).symm⟩
theorem VN(h:Yw P t=some ti)(c:ti.k=.slice e a b):P.underlying t=some (.slice e)/\TC P e=a/\bo P e=b:=by
 let⟨i,d,_,g,_,f,_⟩:=Kc h;rw[f]at c;cases d<;>simp[Ah]at c
 grind
theorem DS{n:Nat}(h:Yw P t=some ti)(c:ti.k=.array n e a b):P.underlying t=some (.array n e)/\TC P e=a/\bo P e=b:=by
 let⟨i,d,_,g,_,f,_⟩:=Kc h;rw[f]at c;cases d<;>simp[Ah]at c
 grind
theorem Ci{a:List (Nat×Nat×Option Bool)}(h:Yw P t=some ti)(b:ti.k=.struct a):∃c:Array Field,P.underlying t=some (.struct c)/\a=c.toList.map λf=>(f.offset,TC P f.type,bo P f.type):=by
 let⟨i,d,_,g,_,e,_⟩:=Kc h;rw[e]at b;cases d<;>simp[Ah]at b
 grind
theorem re(h:Yw P t=some ti)(a:ti.k=.int k):P.underlying t=some (.int k):=by
 let⟨i,d,_,c,_,b,_⟩:=Kc h;rw[b]at a;cases d<;>simp[Ah]at a
 grind
def rh(h:Yw P t=some ti)(a:ti.k=.str):P.underlying t=some .string:=by
 let⟨i,d,_,b,_,c,_⟩:=Kc h;rw[c]at a;cases d<;>simp[Ah]at a
 exact b
theorem rf(h:Yw P t=some ti)(a:ti.k=.ptr e):P.underlying t=some (.pointer e):=by
 let⟨i,d,_,c,_,b,_⟩:=Kc h;rw[b]at a;cases d<;>simp[Ah]at a
 grind
end
def SV.cells:SV->List SV
 |.val y=>y.cells.toList.map SV.val
 |.agg l=>l
 |z=>[z]
variable{v:y9}
def NP(h:v.oneCell'=true):v.cells=#[v]:=by cases v<;>first|rfl|(simp[Value.oneCell']at h)
def SV.okCell:SV->Bool
 |.val y=>y.oneCell'
 |.agg _=>false
 |.tup _=>false
 |_=>true
section
variable{w0:xH}{σ:St}{r:Env}{a:Act}{w:xH}
def oh(h:See w0 σ r a w)(hs:σ.lt (.han i)=true):(r.x i).oneCell'=true:=h.one i (Xa hs)
def Fd(h:See w0 σ r a w)(hs:σ.lt s=true):QO r s.cells=(s.den r).cells.toList:=by
 cases s with
 |val y=>simp[SV.cells,SV.den,BS]
 |agg l=>simp[SV.cells,SV.den,Value.cells]
 |han i=>simp[SV.cells,QO,SV.den,NP (oh h hs)]
 |_=>simp[SV.cells,QO,SV.den,Value.cells]
def IS(hs:σ.lt s=true):σ.ltL s.cells=true:=by
 cases s with
 |val y=>exact WK _ _ _
 |agg l=>exact hs
 |_=>exact L5.2 ⟨hs,rfl⟩
def dK(h:See w0 σ r a w)(hs:σ.lt s=true)(b:s.okCell=true):(s.den r).oneCell'=true:=by
 cases s with
 |val y=>exact b
 |han i=>exact oh h hs
 |agg l=>cases b
 |tup l=>cases b
 |_=>rfl
end
def CD{α:Type}:List α->Nat->List α->List α
 |[],_,_=>[]
 |x::l,_,[]=>x::l
 |_::l,0,v::vs=>v::CD l 0 vs
 |x::l,n+1,v::vs=>x::CD l n (v::vs)
def KY(l:List α)(n:Nat):CD l n []=l:=by cases l<;>rfl
theorem Gv{α:Type}:∀(l:List α) (n:Nat) (a:List α),(CD l n a).length=l.length
 |[],_,_=>rfl
 |_::_,_,[]=>by rw[KY]
 |_::l,0,v::a=>Lu Nat.succ (Gv l 0 a)
 |_::l,n+1,v::a=>Lu Nat.succ (Gv l n (v::a))
def EU{α:Type}:∀(l:List α) (n:Nat) (v:α) (a:List α),CD l n (v::a)=CD (l.set n v) (n+1) a
 |[],_,_,_=>rfl
 |x::l,0,v,[]=>by simp[CD,KY]
 |x::l,0,v,u::a=>rfl
 |x::l,n+1,v,[]=>by
  rw[KY];show x::CD l n [v]=x::l.set n v;rw[EU l n v [],KY]
 |x::l,n+1,v,u::a=>Lu (x::·) (EU l n v (u::a))
theorem IA{α β:Type}(f:α->β):∀(l:List α) (n:Nat) (a:List α),(CD l n a).map f=CD (l.map f) n (a.map f)
 |[],_,_=>rfl
 |_::_,_,[]=>by rw[KY];exact(KY _ _).symm
 |_::l,0,v::a=>Lu (f v::·) (IA f l 0 a)
 |x::l,n+1,v::a=>Lu (f x::·) (IA f l n (v::a))
def Iu{β ξ:Nat->Bool}:∀ {l:List SV} {n:Nat} {a:List SV},Dv β ξ l=true->Dv β ξ a=true->Dv β ξ (CD l n a)=true
 |[],_,_,_,_=>rfl
 |_::_,_,[],h,_=>by rw[KY];exact h
 |_::l,0,v::a,h,k=>L5.2 ⟨(L5.1 k).1,Iu (l:=l) (n:=0) (L5.1 h).2 (L5.1 k).2⟩
 |x::l,n+1,v::a,h,k=>L5.2 ⟨(L5.1 h).1,Iu (l:=l) (n:=n) (L5.1 h).2 k⟩
def WX:∀(a:o3) (k:Nat) (l:o3),wh l.toArray k a=(CD l k a).toArray
 |[],k,l=>by rw[KY];rfl
 |v::a,k,l=>by
  show wh (l.toArray.setIfInBounds k v) (k+1) a=_;rw[EU,V7,WX a (k+1)]
def Wa:∀(a:o3) (k o:Nat) (l:o3),(a.zipIdx k).foldl (λcs (x:y9×Nat)=>cs.setIfInBounds (o+x.2) x.1) l.toArray=(CD l (o+k) a).toArray
 |[],k,o,l=>by rw[KY];rfl
 |v::a,k,o,l=>by
  rw[List.zipIdx_cons,List.foldl_cons,EU,V7,Wa a (k+1) o];rfl
def Om(place:Nat->Option (Nat×Nat)):List SV->List (Nat×SV)->Option (List SV)
 |cells,[]=>some cells
 |cells,(i,s)::l=>match place i with
  |none=>none
  |some (off,size)=>bif Nat.beq s.cells.length size&&Nat.ble (off+s.cells.length) cells.length then Om place (CD cells off s.cells) l else none
section
variable{w0:xH}{σ:St}{r:Env}{a:Act}{w:xH}
theorem El(h:See w0 σ r a w)(place:Nat->Option (Nat×Nat)):∀(b:List (Nat×SV)) (cells l:List SV),(∀p,p∈b->σ.lt p.2=true)->σ.ltL cells=true->Om place cells b=some l ->
  Instr.fill place (QO r cells).toArray (b.map λp=>(p.1,p.2.den r))=some (QO r l).toArray
 |[],cells,l,_,_,e=>by
  obtain rfl:=o7 e;rfl
 |(i,s)::b,cells,l,g,k,e=>by
  have hs:σ.lt s=true:=g (i,s) x6;simp only[Om]at e;simp only[List.map_cons,Instr.fill];cases j:place i with
  |none=>rw[j]at e;cases e
  |some q =>
   let⟨off,size⟩:=q;rw[j]at e;dsimp only at e ⊢;cases c:Nat.beq s.cells.length size&&Nat.ble (off+s.cells.length) cells.length with
   |false=>rw[c]at e;cases e
   |true =>
    rw[c]at e;let⟨m,n⟩:=L5.1 c;have u:=Ld m;have v:=L8 n;have d:=Fd h hs;have y:(s.den r).cells.size=s.cells.length:=by rw[<- Si,<- d,KO]
    have o:¬((s.den r).cells.size≠size||off+(s.den r).cells.size>(QO r cells).toArray.size)=true:=by
     grind[KO]
    rw[if_neg o];have z:(s.den r).cells.zipIdx.foldl (λcs x=>cs.setIfInBounds (off+x.2) x.1) (QO r cells).toArray=(QO r (CD cells off s.cells)).toArray:=by
     have A:=Wa (s.den r).cells.toList 0 off (QO r cells)
     grind[XI,IA,Array.toList_zipIdx]
    have t:=El h place b (CD cells off s.cells) l (λp f=>g p (by simp[f])) (Iu k (IS hs)) e;rw[<- t];congr 1
end
def Bu(σ:St):x0h->Option SV
 |.tmp k=>Yv k σ.ts
 |.const v=>some (.val v)
 |.global g=>some (.val (.pointer (some ⟨g,0,none⟩)))
 |.func f=>some (.clo (.func f) [] [])
def Vz(σ:St)(x:x0h)(K:SV->Prop):Prop:=match Bu σ x with|some s=>K s|none=>False
def lq(σ:St):List x0h->(List SV->Prop)->Prop
 |[],K=>K []
 |x::l,K=>Vz σ x λs=>lq σ l λm=>K (s::m)
def oT(σ:St):List (Nat×x0h)->(List (Nat×SV)->Prop)->Prop
 |[],K=>K []
 |(i,x)::l,K=>Vz σ x λs=>oT σ l λm=>K ((i,s)::m)
def Hn(tt:List (Nat×TI))(t:o0)(K:TI->Prop):Prop:=match Yv t tt with|some ti=>K ti|none=>False
def ZO(o:Option α)(K:α->Prop):Prop:=match o with|some y=>K y|none=>False
def uX:List α->Bool
 |[]=>false
 |_::_=>true
def wk(z:o3):Nat->o3
 |0=>[]
 |n+1=>z++wk z n
variable{p:Prop}{K:SV->Prop}
section
variable{w0:xH}{σ:St}{r:Env}{a:Act}{w:xH}
def QB(h:See w0 σ r a w){x:x0h}(e:Bu σ x=some s):a.eval x=s.den r/\σ.lt s=true:=by
 cases x with
 |tmp k=>exact h.ts k s e
 |const v=>obtain rfl:=o7 e;exact⟨rfl,rfl⟩
 |global g=>obtain rfl:=o7 e;exact⟨rfl,rfl⟩
 |func f=>obtain rfl:=o7 e;exact⟨rfl,rfl⟩
theorem QI{x:x0h}(e:Vz σ x K):∃s,Bu σ x=some s/\K s:=by
 grind[Vz]
def Ju(w0:xH):∀ {l:List x0h} {K:List SV->Prop},lq σ l K->∃m,K m/\∀r a w,See w0 σ r a w->l.map a.eval=QO r m/\σ.ltL m=true
 |[],K,e=>⟨[],e,λ_ _ _ _=>⟨rfl,rfl⟩⟩
 |x::l,K,e=>by
  obtain⟨s,b,c⟩:=QI e;obtain⟨m,d,f⟩:=Ju _ (l:=l) c;refine⟨s::m,d,λr a w h=>?_⟩;obtain⟨g,i⟩:=f r a w h;obtain⟨j,k⟩:=QB h b;exact⟨by simp[QO,g,j],L5.2 ⟨k,i⟩⟩
theorem Mb:∀ {l:List (Nat×x0h)} {K:List (Nat×SV)->Prop},oT σ l K->∃m,K m/\∀r a w,See w0 σ r a w->l.map (λp=>(p.1,a.eval p.2))=m.map (λp=>(p.1,p.2.den r))/\∀p,p∈m->σ.lt p.2=true
 |[],K,e=>⟨[],e,λ_ _ _ _=>⟨rfl,λ_ h=>by cases h⟩⟩
 |(i,x)::l,K,e=>by
  let⟨s,b,c⟩:=QI e;let⟨m,d,f⟩:=Mb (l:=l) c;refine⟨(i,s)::m,d,λr a w h=>?_⟩;let⟨g,j⟩:=f r a w h;let⟨k,n⟩:=QB h b
  grind
theorem Xz{tt:List (Nat×TI)}(a:YF P tt){t:o0}{K:TI->Prop}(e:Hn tt t K):∃ti,Yw P t=some ti/\K ti:=by
 unfold Hn at e;split at e
 ·exact⟨_,a t _ (by assumption),e⟩
 grind
theorem QH{o:Option α}{K:α->Prop}(e:ZO o K):∃y,o=some y/\K y:=by
 unfold ZO at e
 grind
theorem YG{b:Bool}(e:bif b then p else False):b=true/\p:=by cases b<;>simp_all
end
def lz(P:xO)(w0:xH)(o:Oper)(σ:St)(K:Out->Prop):Prop :=
 ∀r a w,See w0 σ r a w->∀(Q:Exit->Act->xH->Prop) (next:Act->xH->Prop),
  (∀out γ w',K out->Below w.heap.size w w'->Made (r.add' σ γ) out γ w w'->next (a.put o.dst (out.s.den (r.add' σ γ))) w')->o.wp P a w next Q
def bh(P:xO)(w0:xH)(o:Oper)(σ:St)(K:Out->Prop):Prop:=∃out,K out/\lz P w0 o σ λu=>u=out
section
variable{P:xO}{w0:xH}{o:Oper}{σ:St}{K:Out->Prop}
def uF(r:Env)(s:SV)(w:xH):Made r ⟨s,none,none⟩ Gh.no w w :=
 ⟨rfl,(λ_ _ h=>nomatch h),(λ_ h=>nomatch h),(λ_ _ h=>nomatch h)⟩
def Qd2(s:SV)(h:K ⟨s,none,none⟩)(hs:σ.lt s=true)(c:∀r a w,See w0 σ r a w->(execOp a.eval o).run P w=.ok (.value (s.den r)) w):bh P w0 o σ K:=⟨_,h,λr a w d Q next e=>by
 have b:=e _ Gh.no w rfl (p5 _ _) (uF _ _ _);rw[PB hs]at b;unfold Oper.wp;rw[c r a w d];exact b⟩
theorem pS(s:SV)(t:o0)(cs:List SV)(h:K ⟨s,some (t,cs),none⟩)(g:σ.ltL cs=true)(b:∀r a w,See w0 σ r a w->(execOp a.eval o).run P w=.ok (.value (s.den (r.add' σ ⟨w.heap.size,.bool false,λ_=>False⟩))) (w.alloc (.cells (QO r cs).toArray t))):bh P w0 o σ K:=⟨_,h,λr a w c Q next d=>by
 unfold Oper.wp;rw[b r a w c];refine d _ ⟨w.heap.size,.bool false,λ_=>False⟩ _ rfl (b1 w _) ⟨rfl,λi f e=>?_,(λ_ h=>nomatch h),(λ_ _ _ h=>nomatch h)⟩
 grind[UO,Bx.new]⟩
end
def Gq{α:Type}:List α->Nat->Option α
 |[],_=>none
 |x::_,0=>some x
 |_::l,n+1=>Gq l n
theorem EG{α:Type}:∀(l:List α) (n:Nat),Gq l n=l[n]?
 |[],_=>by simp[Gq]
 |x::l,0=>rfl
 |x::l,n+1=>by simpa [Gq]using EG l n
def NO(n:Nat):Bool:=!Nat.beq n 0
theorem Df{n:Nat}(h:NO n=true):n≠0:=by
 rintro rfl;cases h
def DE{l:List α}(h:uX l=true):l≠[]:=by
 rintro rfl;cases h
theorem DL{n:Nat}(h:Gq l n=some s):(QO r l)[n]?=some (s.den r):=by
 grind[XI,EG]
theorem Ib(r:Env)(l:List SV)(o n:Nat):QO r ((l.drop o).take n)=((QO r l).drop o).take n:=by simp[XI]
variable{a:Array Field}{l:o3}{d:Option Bool}
section
variable{P:xO}{w:xH}{g o:Nat}{t bt:o0}{cs:List y9}{ti:TI}
theorem MB(a:Yw P t=some ti)(c:ti.k.agg=true)(d:Bx w g bt cs.toArray)(f:o+ti.size<=cs.length):
  (Instr.loadAt t (.pointer (some ⟨g,o,none⟩))).run P w=.ok (.agg ((cs.drop o).take ti.size).toArray) w:=by
 have e:((cs.drop o).take ti.size).length=ti.size:=by rw[Ll,Lf];omega
 have b:=run_loadCells_list (P:=P) w ⟨g,o,none⟩ ((cs.drop o).take ti.size) (λj v h=>by
  rw[add_plain,d.cel]
  grind)
 rw[e]at b;simp[Instr.loadAt,Instr.sureAddr,loadVar,SN a,c,EZ a,b]
theorem Ez{v:y9}(c:Yw P t=some ti)(d:ti.k.agg=false)(a:Bx w g bt cs.toArray)(b:cs[o]?=some v):
  (Instr.loadAt t (.pointer (some ⟨g,o,none⟩))).run P w=.ok v w:=by
 have e:w.cell? ⟨g,o,none⟩=some v:=by rw[a.cel];simpa using b
 simp_all[Instr.loadAt,Instr.sureAddr,loadVar,SN]
theorem Jd:∀(a:o3) (k:Nat) (w:xH) (g:Nat),(Dr w g k a).heap.size=w.heap.size
 |[],_,_,_=>rfl
 |v::a,k,w,g=>by
  show(Dr (w.setCell ⟨g,k,none⟩ v) g (k+1) a).heap.size=_;rw[Jd a];simp[World.setCell]
def Ao:∀(a:o3) (i:Nat) (w:xH) (cs:x0g),Bx w g bt cs->o+i+a.length<=cs.size->(∀v,v∈a->v.oneCell'=true) ->
  (storeCells ⟨g,o,none⟩ a i).run P w=.ok () (Dr w g (o+i) a)
 |[],i,w,cs,_,_,_=>rfl
 |v::a,i,w,cs,b,c,d=>by
  have e:o+i<cs.size:=by simp at c;omega
  have f:w.cell? ⟨g,o+i,none⟩=some cs[o+i]:=by
   rw[b.cel];simp
  have h:=Ao a (i+1) (w.setCell ⟨g,o+i,none⟩ v) (cs.setIfInBounds (o+i) v) (b.set (o+i) v) (by simp at c ⊢;omega) (λu j=>d u (by simp[j]));unfold storeCells;rw[xQ,add_plain,run_store _ _ _ _ _ (d v x6),f];simp only[b.free,Tv,if_false,xT];rw[h];rfl
theorem Vo(P:xO)(t:o0)(o:Nat)(v:y9)(c:Yw P t=some ti)(a:Bx w g bt cs.toArray)(hs:v.cells.size=ti.size)(d:o+ti.size<=cs.length)(b:∀u,u∈v.cells.toList->u.oneCell'=true):
  (Instr.storeAt t (.pointer (some ⟨g,o,none⟩)) v).run P w=.ok () (Dr w g o v.cells.toList):=by
 have e:=Ao (P:=P) (g:=g) (bt:=bt) (o:=o) v.cells.toList 0 w cs.toArray a (by simp[hs];omega) b;simp_all[Instr.storeAt,Instr.sureAddr,storeVar,EZ]
theorem m8{k off b:Nat}{c:Option Bool}(h:Gq (a.toList.map λf=>(f.offset,TC P f.type,bo P f.type)) k=some (off,b,c)):∃f,a[k]?=some f/\f.offset=off/\TC P f.type=b/\bo P f.type=c:=by
 rw[EG,List.getElem?_map]at h;cases e:a.toList[k]? with
 |none=>rw[e]at h;cases h
 |some f =>
  grind
def Ek{a:List (Nat×Nat×Option Bool)}{k off b:Nat}(e:Yw P t=some ti)(i:ti.k=.struct a)(h:Gq a k=some (off,b,d))(c:b≠0):
  (Instr.fieldAt t (.pointer (some ⟨g,o,none⟩)) k).run P w=.ok (.pointer (some ⟨g,o+off,none⟩)) w:=by
 obtain⟨n,j,rfl⟩:=Ci e i;obtain⟨f,l,rfl,m,_⟩:=m8 h;simp[Instr.fieldAt,Yn j,l,Instr.sureAddr,fieldPlace,Yz m c,c,add_plain]
theorem WP{e a:Nat}(c:bo P e=some true)(d:TC P e=a)(b:a≠0)(off:Nat):(part e l.toArray off).run P w=.ok (.agg ((l.drop off).take a).toArray) w:=by
 simp_all[part,IZ,Yz]
theorem WQ{e:Nat}{v:y9}(a:bo P e=some false){off:Nat}(b:l[off]?=some v):(part e l.toArray off).run P w=.ok v w:=by
 simp_all[part,IZ]
theorem jR{b:List (Nat×Nat×Option Bool)}{k off a:Nat}(c:Yw P t=some ti)(d:ti.k=.struct b)(h:Gq b k=some (off,a,some true))(e:a≠0):
  (Instr.field t (.agg l.toArray) k).run P w=.ok (.agg ((l.drop off).take a).toArray) w:=by
 obtain⟨g,i,rfl⟩:=Ci c d;obtain⟨f,j,rfl,m,n⟩:=m8 h;simp_all[Instr.field,Yn,asAgg,WP]
theorem jS{a:List (Nat×Nat×Option Bool)}{k off b:Nat}{v:y9}(c:Yw P t=some ti)(d:ti.k=.struct a)(h:Gq a k=some (off,b,some false))(e:l[off]?=some v):
  (Instr.field t (.agg l.toArray) k).run P w=.ok v w:=by
 obtain⟨g,i,rfl⟩:=Ci c d;obtain⟨f,j,rfl,m,n⟩:=m8 h;simp_all[Instr.field,Yn,asAgg,WQ]
def RA{n e a m:Nat}(c:Yw P t=some ti)(d:ti.k=.array n e a b)(f:m<n)(h:a≠0):
  (Instr.indexAt t (.pointer (some ⟨g,o,none⟩)) (.int k (Int.ofNat m))).run P w=.ok (.pointer (some ⟨g,o+m*a,none⟩)) w:=by
 let⟨i,j,_⟩:=DS c d;simp[Instr.indexAt,asIntOf,Yn i,Instr.sureAddr,f,Yz j h,add_plain]
theorem AR{n c e a m:Nat}(d:Yw P t=some ti)(f:ti.k=.slice e a b)(h:m<n)(i:a≠0):
  (Instr.indexAt t (.slice (some ⟨g,o,none⟩) n c) (.int k (Int.ofNat m))).run P w=.ok (.pointer (some ⟨g,o+m*a,none⟩)) w:=by
 let⟨j,l,_⟩:=VN d f;simp[Instr.indexAt,asIntOf,Yn j,h,Yz l i,add_plain]
def jZ{n e a m:Nat}(d:Yw P t=some ti)(f:ti.k=.array n e a (some true))(g:m<n)(b:a≠0):
  (Instr.index t (.agg l.toArray) (.int k (Int.ofNat m))).run P w=.ok (.agg ((l.drop (m*a)).take a).toArray) w:=by
 let⟨h,c,i⟩:=DS d f;simp[Instr.index,asIntOf,Yn h,g,Yz c b,WP i c b]
def RG{n e a m:Nat}{v:y9}(b:Yw P t=some ti)(c:ti.k=.array n e a (some false))(d:m<n)(f:a≠0)(g:l[m*a]?=some v):
  (Instr.index t (.agg l.toArray) (.int k (Int.ofNat m))).run P w=.ok v w:=by
 let⟨h,i,j⟩:=DS b c;simp[Instr.index,asIntOf,Yn h,d,Yz i f,WQ j g]
theorem N4{m y:Nat}{c:BoundsCode}(h:m<=y):(Instr.sliceBound (.int k (m:Int)) y c).run P w=.ok m w:=by
 simp_all[Instr.sliceBound,asIntOf]
def OG(x:Option y9)(m:Nat):Prop:=(x=none/\m=0)\/∃k,x=some (.int k (Int.ofNat m))
def Fu(x:Option y9)(n m:Nat):Prop:=(x=none/\m=n)\/∃k,x=some (.int k (Int.ofNat m))
def DW{isS:Bool}{len cap l h:Nat}{lo hi:Option y9}(a:OG lo l)(b:Fu hi len h)(c:l<=h)(d:h<=cap):(Instr.sliceBounds isS len cap lo hi none).run P w=.ok (l,h,cap) w:=by
 rcases a with⟨rfl,rfl⟩|⟨k,rfl⟩<;>rcases b with⟨rfl,rfl⟩|⟨e,rfl⟩ <;>
  simp[Instr.sliceBounds,N4 c,N4 d]
theorem kJ{n e a l h:Nat}{f:Option Bool}{c d:Option y9}(b:Yw P t=some ti)(i:ti.k=.array n e a f)(j:a≠0)(m:OG c l)(p:Fu d n h)(q:l<=h)(r:h<=n):
  (Instr.sliceAt t (.pointer (some ⟨g,o,none⟩)) c d none).run P w=.ok (.slice (some ⟨g,if n=l then o else o+l*a,none⟩) (h-l) (n-l)) w:=by
 let⟨s,u,_⟩:=DS b i;simp[Instr.sliceAt,Yn s,Instr.sureAddr,DW m p q r,Yz u j]
 grind[add_plain]
theorem kK{n e f a l h:Nat}{p:Option Bool}{i:TI}{j m:Option y9}(b:Yw P t=some ti)(q:ti.k=.ptr f)(c:Yw P f=some i)(d:i.k=.array n e a p)(r:a≠0)(s:OG j l)(u:Fu m n h)(v:l<=h)(x:h<=n):
  (Instr.sliceAt t (.pointer (some ⟨g,o,none⟩)) j m none).run P w=.ok (.slice (some ⟨g,if n=l then o else o+l*a,none⟩) (h-l) (n-l)) w:=by
 have y:=rf b q;let⟨z,A,_⟩:=DS c d;simp[Instr.sliceAt,Instr.slice,Yn y,Yn z,asAddr,DW s u v x,Yz A r]
 grind[add_plain]
theorem JO(P:xO)(w:xH)(g o:Nat)(n c:Nat){e a:Nat}(l h:Nat)(lo hi:Option y9)(b:Yw P t=some ti)(f:ti.k=.slice e a d)(i:a≠0)(j:OG lo l)(m:Fu hi n h)(p:l<=h)(q:h<=c):
  (Instr.sliceAt t (.slice (some ⟨g,o,none⟩) n c) lo hi none).run P w=.ok (.slice (some ⟨g,if c=l then o else o+l*a,none⟩) (h-l) (c-l)) w:=by
 let⟨r,s,_⟩:=VN b f;simp[Instr.sliceAt,Instr.slice,Yn r,DW j m p q,Yz s i]
 grind[add_plain]
theorem jc(a:Yw P t=some ti)(b:ti.zero≠[]):(Instr.alloc t true (.tuple #[])).run P w=.ok (.pointer (some ⟨w.heap.size,0,none⟩)) (w.alloc (.cells ti.zero.toArray t)):=by
 let⟨z,d,c⟩:=ID a b w;have e:z.cells=ti.zero.toArray:=by rw[<- c]
 simp_all[Instr.alloc,newVar,newRow]
def sW(v:y9):(Instr.box t v).run P w=.ok (.pointer (some ⟨w.heap.size,0,none⟩)) (w.alloc (.cells v.cells t)):=by
 rfl
end
def one(s:SV):Out:=⟨s,none,none⟩
def lit(b:Bool):Out:=⟨.val (.bool b),none,none⟩
def Qah(op:BinOp)(k:IntKind)(a b:Int)(K:Out->Prop):Prop:=match op with
 |.add=>K (one (.val (.int k (k.wrap (a+b)))))
 |.sub=>K (one (.val (.int k (k.wrap (a-b)))))
 |.mul=>K (one (.val (.int k (k.wrap (a*b)))))
 |.eql=>K (lit (a==b))
 |.neq=>K (lit (a != b))
 |.lss=>K (lit (decide (a<b)))
 |.leq=>K (lit (decide (a<=b)))
 |.gtr=>K (lit (decide (a>b)))
 |.geq=>K (lit (decide (a>=b)))
 |_=>False
def gi(k a:IntKind):Bool:=match k,a with
 |.i8,.i8=>true | .i16,.i16=>true | .i32,.i32=>true | .i64,.i64=>true
 |.u8,.u8=>true | .u16,.u16=>true | .u32,.u32=>true | .u64,.u64=>true
 |_,_=>false
theorem Mv{a:IntKind}(h:gi k a=true):k=a:=by cases k<;>cases a<;>first|rfl|(cases h)
def uS(op:BinOp)(K:Out->Prop):Prop:=match op with
 |.eql=>K (lit false)
 |.neq=>K (lit true)
 |_=>False
def zi(tt:List (Nat×TI))(op:BinOp)(t:o0)(x y:SV)(K:Out->Prop):Prop:=match x,y with
 |.val (.int k a),.val (.int c b)=>bif gi k c then Qah op k a b K else False
 |.ptr _ _,.val (.pointer none)=>Hn tt t λti=>match ti.k with | .ptr _=>uS op K|_=>False
 |.sli _ _ _ _,.val (.slice none _ _)=>Hn tt t λti=>match ti.k with | .slice _ _ _=>uS op K|_=>False
 |_,_=>False
def sA(op:UnOp)(x:SV)(K:Out->Prop):Prop:=match op,x with
 |.not,.val (.bool b)=>K (lit (!b))
 |.neg,.val (.int k n)=>K (one (.val (.int k (k.wrap (0-n)))))
 |_,_=>False
def gr(s:SV)(K:List SV->Prop):Prop:=match s with
 |.agg l=>K l
 |.val (.agg cs)=>K (cs.toList.map SV.val)
 |_=>False
def rJ(s:SV)(K:List SV->Prop):Prop:=match s with
 |.tup l=>K l
 |.val (.tuple cs)=>K (cs.toList.map SV.val)
 |_=>False
def kf(s:SV)(K:Nat->Prop):Prop:=match s with
 |.val (.int _ (.ofNat m))=>K m
 |_=>False
def Qaw(σ:St)(x:Option x0h)(K:Nat->Prop):Prop:=match x with
 |none=>K 0
 |some x=>Vz σ x λs=>kf s K
def fZ(σ:St)(x:Option x0h)(n:Nat)(K:Nat->Prop):Prop:=match x with
 |none=>K n
 |some x=>Vz σ x λs=>kf s K
def gU(l:List SV)(off a:Nat)(b:Option Bool)(K:Out->Prop):Prop:=match b with
 |some true=>bif NO a then K (one (.agg ((l.drop off).take a)))else False
 |some false=>ZO (Gq l off) λc=>K (one c)
 |none=>False
def QbM(b o _n c l h a:Nat)(K:Out->Prop):Prop:=bif NO a&&Nat.ble l h&&Nat.ble h c then K (one (.sli b (bif Nat.beq c l then o else o+l*a) (h-l) (c-l)))else False
def QcD(tt:List (Nat×TI))(t:o0)(K:Nat->Nat->Prop):Prop:=Hn tt t λti=>match ti.k with
 |.array n _ a _=>K n a
 |.ptr e=>Hn tt e λb=>match b.k with
  |.array n _ a _=>K n a
  |_=>False
 |_=>False
def Qdl(tt:List (Nat×TI))(t:o0)(x:SV)(K:Out->Prop):Prop:=Hn tt t λti=>match ti.k with
 |.str=>(match x with
  |.val (.string s)=>K (one (.val (.int .i64 s.size)))
  |_=>False)
 |.slice _ _ _=>(match x with
  |.val (.slice _ n _)=>K (one (.val (.int .i64 n)))
  |.sli _ _ n _=>K (one (.val (.int .i64 n)))
  |_=>False)
 |_=>False
def Qa2:Option (Nat×Nat×Option Bool)->Option (Nat×Nat)
 |some q=>some (q.1,q.2.1)
 |none=>none
def mT(tt:List (Nat×TI))(σ:St)(o:Op)(K:Out->Prop):Prop:=match o with
 |.move x=>Vz σ x λs=>K (one s)
 |.assign x=>Vz σ x λs=>K (one s)
 |.alloc e=>Hn tt e λti=>bif uX ti.zero then K ⟨.ptr σ.bs.length 0,some (e,ti.zero.map SV.val),none⟩else False
 |.box e x=>Vz σ x λs=>K ⟨.ptr σ.bs.length 0,some (e,s.cells),none⟩
 |.build t r=>oT σ r.toList λr=>Hn tt t λti=>bif uX ti.zero then(match ti.k with
  |.struct w=>bif w.all (λq=>NO q.2.1)then ZO (Om (λi=>Qa2 (Gq w i)) (ti.zero.map SV.val) r) λl=>K (one (.agg l))else False
  |.array _ _ a _=>bif NO a then ZO (Om (λi=>some (i*a,a)) (ti.zero.map SV.val) r) λl=>K (one (.agg l))else False
  |_=>False)else False
 |.buildSlice t n r=>oT σ r.toList λr=>Hn tt t λti=>match ti.k with
  |.slice e a _=>Hn tt e λz=>bif uX z.zero&&Nat.beq z.size a&&Nat.beq z.zero.length a&&Nat.ble (n*a) 16777216 then
    ZO (Om (λi=>some (i*a,a)) ((wk z.zero n).map SV.val) r) λl=>K ⟨.sli σ.bs.length 0 n n,some (e,l),none⟩else False
  |_=>False
 |.load t x=>Vz σ x λs=>match s with
  |.ptr b o=>ZO (Xq σ.bs b) λp=>Hn tt t λti=>match ti.k.agg with
   |true=>bif Nat.ble (o+ti.size) p.2.length then K (one (.agg ((p.2.drop o).take ti.size)))else False
   |false=>ZO (Gq p.2 o) λc=>K (one c)
  |_=>False
 |.nilCheck x=>Vz σ x λs=>match s with
  |.ptr _ _=>K (one s)
  |.clo (.func _) _ _=>K (one s)
  |.val (.pointer (some p))=>K (one (.val (.pointer (some p))))
  |_=>False
 |.fieldAddr t x f=>Vz σ x λs=>match s with
  |.ptr b o=>Hn tt t λti=>match ti.k with
   |.struct w=>ZO (Gq w f) λq=>bif NO q.2.1 then K (one (.ptr b (o+q.1)))else False
   |_=>False
  |.val (.pointer (some ⟨g,o,none⟩))=>Hn tt t λti=>match ti.k with
   |.struct w=>ZO (Gq w f) λq=>bif NO q.2.1 then K (one (.val (.pointer (some ⟨g,o+q.1,none⟩))))else False
   |_=>False
  |_=>False
 |.field t x f=>Vz σ x λs=>gr s λl=>Hn tt t λti=>match ti.k with
  |.struct w=>ZO (Gq w f) λq=>gU l q.1 q.2.1 q.2.2 K
  |_=>False
 |.extract x i=>Vz σ x λs=>rJ s λl=>ZO (Gq l i) λc=>K (one c)
 |.makeFunc fn l m=>lq σ l.toList λl=>lq σ m.toList λm=>K (one (.clo fn l m))
 |.indexAddr t x i=>Vz σ x λs=>Vz σ i λj=>kf j λm=>match s with
  |.ptr b o=>Hn tt t λti=>match ti.k with
   |.array n _ a _=>bif NO a&&Nat.blt m n then K (one (.ptr b (o+m*a)))else False
   |_=>False
  |.sli b o n _=>Hn tt t λti=>match ti.k with
   |.slice _ a _=>bif NO a&&Nat.blt m n then K (one (.ptr b (o+m*a)))else False
   |_=>False
  |_=>False
 |.index t x i=>Vz σ x λs=>Vz σ i λj=>kf j λm=>gr s λl=>Hn tt t λti=>match ti.k with
  |.array n _ a B=>bif NO a&&Nat.blt m n then gU l (m*a) a B K else False
  |_=>False
 |.slice t x C A none=>Vz σ x λs=>Qaw σ C λl=>match s with
  |.ptr b o=>QcD tt t λn a=>fZ σ A n λh=>QbM b o n n l h a K
  |.sli b o n c=>Hn tt t λti=>match ti.k with
   |.slice _ a _=>fZ σ A n λh=>QbM b o n c l h a K
   |_=>False
  |_=>False
 |.binOp op t x y _=>Vz σ x λs=>Vz σ y λu=>zi tt op t s u K
 |.unOp op _ x=>Vz σ x λs=>sA op s K
 |.convert s d x=>Vz σ x λu=>Hn tt s λ_=>Hn tt d λti=>match ti.k with
  |.int k=>(match u with
   |.val (.int _ n)=>K (one (.val (.int k (k.wrap n))))
   |_=>False)
  |_=>False
 |.pick c x y=>Vz σ c λs=>match s with
  |.val (.bool v)=>(match v with
   |true=>Vz σ x λs=>K (one s)
   |false=>Vz σ y λs=>K (one s))
  |_=>False
 |.call c=>match c.callee with
  |.builtin .len=>match c.args.toList,c.argTypes.toList with
   |[x],[t]=>Vz σ x λs=>Qdl tt t s K
   |_,_=>False
  |_=>False
 |_=>False
variable{o:Oper}
section
variable{P:xO}{tt:List (Nat×TI)}{w0:xH}{σ:St}{K:Out->Prop}
def gv(a:∀out,K out->σ.fits out=true)(h:K (one s)):σ.lt s=true:=(L5.1 (a _ h)).1
def XS{x:Sem y9}{w w':xH}(h:x.run P w=.ok v w'):(do pure (.value (<- x)):Sem Next).run P w=.ok (.value v) w':=by
 simp[h]
theorem Y8(b:∀out,K out->σ.fits out=true)(s:SV)(h:K (one s))(c:∀r a w,See w0 σ r a w->(execOp a.eval o).run P w=.ok (.value (s.den r)) w):bh P w0 o σ K :=
 Qd2 s h (gv b h) c
theorem WO(e:∀out,K out->σ.fits out=true){l:List SV}{off b:Nat}(h:gU l off b d K)(j:d=some true->b≠0->∀r a w,See w0 σ r a w->(execOp a.eval o).run P w=.ok (.value (.agg (((QO r l).drop off).take b).toArray)) w)(f:d=some false->∀r a w v,See w0 σ r a w->(QO r l)[off]?=some v->(execOp a.eval o).run P w=.ok (.value v) w):bh P w0 o σ K:=by
 unfold gU at h;split at h
 ·let⟨k,h⟩:=YG h
  grind[Y8,SV.den,Ib,Df]
 ·let⟨c,g,h⟩:=QH h;exact Y8 e _ h λr a w i=>f rfl r a w _ i (DL g)
 ·exact h.elim
theorem MA{K:List SV->Prop}(h:gr s K):∃l,K l/\∀r,s.den r=.agg (QO r l).toArray:=by
 unfold gr at h;split at h
 ·exact⟨_,h,λr=>rfl⟩
 ·exact⟨_,h,λr=>by simp[SV.den,BS]⟩
 grind
theorem F2{K:List SV->Prop}(h:rJ s K):∃l,K l/\∀r,s.den r=.tuple (QO r l).toArray:=by
 unfold rJ at h;split at h
 ·exact⟨_,h,λr=>rfl⟩
 ·exact⟨_,h,λr=>by simp[SV.den,BS]⟩
 grind
theorem AX{K:Nat->Prop}(h:kf s K):∃k m,s=.val (.int k (.ofNat m))/\K m:=by
 unfold kf at h;split at h;all_goals grind
def j8{x:Option x0h}{K:Nat->Prop}(h:Qaw σ x K):∃m,K m/\∀r a w,See w0 σ r a w->OG (x.map a.eval) m:=by
 unfold Qaw at h;split at h
 ·exact⟨0,h,λ_ _ _ _=>.inl ⟨rfl,rfl⟩⟩
 ·let⟨s,b,c⟩:=QI h;obtain⟨k,m,rfl,d⟩:=AX c;exact⟨m,d,λr a w e=>.inr ⟨k,by rw[Option.map_some,(QB e b).1];rfl⟩⟩
def Mm{x:Option x0h}{n:Nat}{K:Nat->Prop}(h:fZ σ x n K):∃m,K m/\∀r a w,See w0 σ r a w->Fu (x.map a.eval) n m:=by
 unfold fZ at h;split at h
 ·exact⟨n,h,λ_ _ _ _=>.inl ⟨rfl,rfl⟩⟩
 ·let⟨s,b,c⟩:=QI h;obtain⟨k,m,rfl,d⟩:=AX c;exact⟨m,d,λr a w e=>.inr ⟨k,by rw[Option.map_some,(QB e b).1];rfl⟩⟩
theorem ix(f:∀out,K out->σ.fits out=true){b p n c l h d:Nat}(hs:QbM b p n c l h d K)(g:d≠0->l<=h->h<=c->∀r a w,See w0 σ r a w->(execOp a.eval o).run P w=.ok (.value (.slice (some ⟨r.b b,if c=l then p else p+l*d,none⟩) (h-l) (c-l))) w):bh P w0 o σ K:=by
 let⟨e,hs⟩:=YG hs;let⟨e,i⟩:=L5.1 e
 grind[Y8,Df,L8,SV.den,Nat.beq_refl,Ld]
theorem je(b:YF P tt){t:o0}{K:Nat->Nat->Prop}(h:QcD tt t K):∃n a,K n a/\(a≠0->∀(w:xH) g o lo hi l h,OG lo l->Fu hi n h->l<=h->h<=n ->
  (Instr.sliceAt t (.pointer (some ⟨g,o,none⟩)) lo hi none).run P w=.ok (.slice (some ⟨g,if n=l then o else o+l*a,none⟩) (h-l) (n-l)) w):=by
 let⟨ti,c,h⟩:=Xz b h;split at h
 ·rename_i d
  grind[kJ]
 all_goals grind[Xz,kK]
theorem cI(z:o3)(b:z≠[]):∀(n i:Nat),i<n*z.length->(wk z n)[i]?=z[i % z.length]?
 |0,i,h=>by simp at h
 |n+1,i,h=>by
  have c:0<z.length:=List.length_pos_iff.2 b;rw[Ru]at h;show(z++wk z n)[i]?=_;rcases R5 i z.length with a|a
  ·rw[List.getElem?_append_left a,Rc a]
  ·rw[sT a,cI z b n (i-z.length) x3,<- Nat.mod_eq_sub_mod a]
theorem ii(z:o3):∀n,(wk z n).length=n*z.length
 |0=>by simp[wk]
 |n+1=>by simp[wk,ii z n,Ru];omega
theorem kB(z:x0g)(a:z.toList≠[])(n:Nat):(Array.range (n*z.size)).map (λi=>z[i % z.size]!)=(wk z.toList n).toArray:=by
 apply Array.ext';apply List.ext_getElem?
 grind[cI,ii]
end
variable{b:Bool}{u:o0}{op:BinOp}{y:x0h}
section
variable{P:xO}{tt:List (Nat×TI)}{w0:xH}{σ:St}{K:Out->Prop}
def Wt{α β:Type}{g:α->Sem β}{f:α->β}{w:xH}:∀ {l:List α},(∀x,x∈l->(g x).run P w=.ok (f x) w)->(l.mapM g).run P w=.ok (l.map f) w
 |[],_=>rfl
 |x::l,h=>by
  rw[List.mapM_cons,xQ,h x x6,xT,xQ,Wt (l:=l) λy a=>h y (by simp[a])];rfl
def dS(h:∀f,f∈a.toList->TC P f.type≠0)(w:xH):(a.mapM λ(f:Field)=>(do pure (f.offset,<- sizeOf f.type):Sem (Nat×Nat))).run P w=.ok (a.map λf=>(f.offset,TC P f.type)) w:=by
 rw[Array.mapM_eq_mapM_toList,Sem.run_map,Wt (f:=λf=>(f.offset,TC P f.type)) λf b=>by simp[Yz rfl (h f b)]];rw[xT];congr 1;apply Array.ext';simp
def Pm(_hT:YF P tt){t:o0}{ti:TI}{c:List (Nat×Nat×Option Bool)}(e:Yw P t=some ti)(j:ti.zero≠[])(m:ti.k=.struct c)(n:(c.all λq=>NO q.2.1)=true){w:xH}{g:Array (Nat×y9)}(h:Instr.fill (λi=>Qa2 (Gq c i)) ti.zero.toArray g.toList=some l.toArray):(Instr.build t g).run P w=.ok (.agg l.toArray) w:=by
 obtain⟨b,o,rfl⟩:=Ci e m;let⟨z,p,r⟩:=ID e j w;have s:z.cells=ti.zero.toArray:=by rw[<- r]
 have a:∀f,f∈b.toList->TC P f.type≠0:=λf d=>by
  have:=Lg.1 n (f.offset,TC P f.type,bo P f.type) (Lv.2 ⟨f,d,rfl⟩);exact Df this
 have u:(λi=>((b.map λf=>(f.offset,TC P f.type))[i]?:Option (Nat×Nat)))=λi=>Qa2 (Gq (b.toList.map λf=>(f.offset,TC P f.type,bo P f.type)) i):=by
  funext i;rw[EG,List.getElem?_map,Array.getElem?_map];simp only[Array.getElem?_toList];cases b[i]?<;>rfl
 unfold Instr.build;rw[xQ,p,xT,xQ,Yn o,xT];simp only[xQ,dS a,xT,s];rw[u,h];rfl
def TT(_hT:YF P tt){t:o0}{ti:TI}{n e a:Nat}(b:Yw P t=some ti)(f:ti.zero≠[])(g:ti.k=.array n e a d)(hs:a≠0){w:xH}{c:Array (Nat×y9)}(h:Instr.fill (λi=>some (i*a,a)) ti.zero.toArray c.toList=some l.toArray):(Instr.build t c).run P w=.ok (.agg l.toArray) w:=by
 let⟨j,m,_⟩:=DS b g;let⟨z,o,p⟩:=ID b f w;have q:z.cells=ti.zero.toArray:=by rw[<- p]
 unfold Instr.build;rw[xQ,o,xT,xQ,Yn j,xT];simp only[xQ,Yz m hs,xT,q,h];rfl
def TU{t:o0}{ti b:TI}{e a n:Nat}{u:Option Bool}(v:Yw P t=some ti)(x:ti.k=.slice e a u)(c:Yw P e=some b)(d:b.zero≠[])(hs:b.size=a)(p:b.zero.length=a)(y:n*a<=16777216){w:xH}{g:Array (Nat×y9)}(h:Instr.fill (λi=>some (i*a,a)) (wk b.zero n).toArray g.toList=some l.toArray):(Instr.buildSlice t n g).run P w=.ok (.slice (some ⟨w.heap.size,0,none⟩) n n) (w.alloc (.cells l.toArray e)):=by
 let⟨A,_,_⟩:=VN v x;let⟨z,B,j⟩:=ID c d w;have C:z.cells=b.zero.toArray:=by rw[<- j]
 have q:=kB z.cells (by rw[j];exact d) n;have r:z.cells.size=a:=by rw[C];simpa using p
 rw[j,r]at q;have s:¬ n*a>2^24:=l3 y;unfold Instr.buildSlice;rw[xQ,Yn A,xT];by_cases m:n*a=0
 ·have D:a≠0:=λe0=>d (Ry (p.trans e0))
  have o:n=0:=(Nat.mul_eq_zero.1 m).resolve_right D;subst o;have E:Instr.fill (λi=>some (i*a,a)) #[] g.toList=some l.toArray:=h;simp only[xQ,EZ c,hs,xT,if_neg s,if_pos m,Sem.run_pure];have F:∀f:Nat->y9,Array.map f (Array.range 0)=#[]:=λf=>(by apply Array.eq_empty_of_size_eq_zero;simp)
  simp[F,E,newRow]
 ·simp only[xQ,EZ c,hs,xT,if_neg s,if_neg m,Sem.run_pure,B,r,q,h];simp[newRow]
def ui(d:∀out,K out->σ.fits out=true){t:o0}{x:x0h}{a b:Int}(e:o.op=.binOp op t x y u)(h:Qah op k a b K)(f:∀r A w,See w0 σ r A w->A.eval x=.int k a)(g:∀r A w,See w0 σ r A w->A.eval y=.int k b):bh P w0 o σ K:=by
 have key:∀s,K (one s)->(∀r w,(binOp op t (.int k a) (.int k b)).run P w=.ok (s.den r) w)->bh P w0 o σ K:=λs i j=>Y8 d s i λr A w c=>by
  have l:execOp A.eval o=(do pure (.value (<- (do eqGuard op t x y (A.eval x) (A.eval y);binOp op t (A.eval x) (A.eval y)))):Sem Next):=by
   unfold execOp;rw[e]
  rw[l];refine XS ?_
  rw[f r A w c,g r A w c];have m:(eqGuard op t x y (.int k a) (.int k b)).run P w=.ok () w:=by
   unfold eqGuard;cases op<;>rfl
  simp[m,j r w]
 unfold Qah at h;split at h
 ·exact key _ h λr w=>by simp[binOp,Op.intArith,SV.den]
 ·exact key _ h λr w=>by simp[binOp,Op.intArith,SV.den]
 ·exact key _ h λr w=>by simp[binOp,Op.intArith,SV.den]
 ·exact key _ h λr w=>by simp[binOp,Op.intCmp,SV.den]
 ·exact key _ h λr w=>by simp[binOp,Op.intCmp,SV.den]
 ·exact key _ h λr w=>by simp[binOp,Op.intCmp,SV.den]
 ·exact key _ h λr w=>by simp[binOp,Op.intCmp,SV.den]
 ·exact key _ h λr w=>by simp[binOp,Op.intCmp,SV.den]
 ·exact key _ h λr w=>by simp[binOp,Op.intCmp,SV.den]
 ·exact h.elim
def gG{t:o0}{x:x0h}{u:y9}{w:xH}(a:op=.eql/\b=false\/op=.neq/\b=true)(g:(∃p e,v=.pointer (some p)/\u=.pointer none/\P.underlying t=some (.pointer e))\/∃p n c d f e,v=.slice (some p) n c/\u=.slice none d f/\P.underlying t=some (.slice e)):
  (do eqGuard op t x y v u;binOp op t v u:Sem y9).run P w=.ok (.bool b) w:=by
 have k:(eqGuard op t x y v u).run P w=.ok () w:=by
  unfold eqGuard;rcases a with⟨rfl,_⟩|⟨rfl,_⟩<;>rcases g with⟨p,e,rfl,rfl,_⟩|⟨p,n,c,d,f,e,rfl,rfl,_⟩<;>rfl
 rw[xQ,k,xT];have j:(Op.equal t v u).run P w=.ok false w:=by
  unfold Op.equal;rw[show Op.maxDepth=9999+1 from rfl];unfold Op.equalIn;rcases g with⟨p,e,rfl,rfl,h⟩|⟨p,n,c,d,f,e,rfl,rfl,h⟩<;>(rw[xQ,Yn h,xT];rfl)
 rcases a with⟨rfl,rfl⟩|⟨rfl,rfl⟩
 ·have i:binOp .eql t v u=(do pure (.bool (<- Op.equal t v u)):Sem y9):=by rcases g with⟨p,e,rfl,rfl,h⟩|⟨p,n,c,d,f,e,rfl,rfl,h⟩<;>rfl
  simp[i,j]
 ·have i:binOp .neq t v u=(do pure (.bool (!(<- Op.equal t v u))):Sem y9):=by rcases g with⟨p,e,rfl,rfl,h⟩|⟨p,n,c,d,f,e,rfl,rfl,h⟩<;>rfl
  simp[i,j]
def gF(b:∀out,K out->σ.fits out=true){t:o0}{x:x0h}(g:o.op=.binOp op t x y u)(h:uS op K)(d:∀r A w,See w0 σ r A w->(∃p e,A.eval x=.pointer (some p)/\A.eval y=.pointer none/\P.underlying t=some (.pointer e))\/∃p n c i j e,A.eval x=.slice (some p) n c/\A.eval y=.slice none i j/\P.underlying t=some (.slice e)):bh P w0 o σ K:=by
 have f:∀A:Act,execOp A.eval o=(do pure (.value (<- (do eqGuard op t x y (A.eval x) (A.eval y);binOp op t (A.eval x) (A.eval y)))):Sem Next):=λA=>by
  unfold execOp;rw[g]
 unfold uS at h;split at h
 ·exact Y8 b _ h λr A w a=>by rw[f];exact XS (gG (.inl ⟨rfl,rfl⟩) (d r A w a))
 ·exact Y8 b _ h λr A w a=>by rw[f];exact XS (gG (.inr ⟨rfl,rfl⟩) (d r A w a))
 ·exact h.elim
end
variable{β:Type}
section
variable{P:xO}{tt:List (Nat×TI)}{w0:xH}{σ:St}{K:Out->Prop}
theorem Kg(f:α->β)(x:Array α)(l:List β)(h:x.toList.map f=l):x.map f=l.toArray:=by
 grind
theorem sR(i:YF P tt)(c:∀out,K out->σ.fits out=true){t:o0}{x:x0h}(d:o.op=.binOp op t x y u){j:SV}(k:Bu σ x=some s)(l:Bu σ y=some j)(h:zi tt op t s j K):bh P w0 o σ K:=by
 have e:=λr A w (a:See w0 σ r A w)=>(QB a k).1
 have f:=λr A w (a:See w0 σ r A w)=>(QB a l).1
 unfold zi at h;split at h
 ·let⟨b,m⟩:=YG h;clear h;obtain rfl:=Mv b;exact ui c d m (λr A w a=>e r A w a) (λr A w a=>f r A w a)
 ·let⟨ti,g,h⟩:=Xz i h;split at h
  ·rename_i b;exact gF c d h λr A w a=>.inl ⟨_,_,e r A w a,f r A w a,rf g b⟩
  grind
 ·let⟨ti,g,h⟩:=Xz i h;split at h
  ·rename_i b;exact gF c d h λr A w a=>.inr ⟨_,_,_,_,_,_,e r A w a,f r A w a,(VN g b).1⟩
  ·exact h.elim
 ·exact h.elim
theorem uq(f:YF P tt)(g:∀out,K out->σ.fits out=true){_ty:o0}{x:x0h}{t:o0}{c:Call}(j:o.op=.call c)(k:c.callee=.builtin .len)(l:c.args=#[x])(m:c.argTypes=#[t])(e:Bu σ x=some s)(h:Qdl tt t s K):bh P w0 o σ K:=by
 have key:∀n:Int,K (one (.val (.int .i64 n)))->(∀r A w,See w0 σ r A w->(Builtin.len_ #[t] o.type #[A.eval x]).run P w=.ok (.int .i64 n) w)->bh P w0 o σ K:=λn b i=>Y8 g _ b λr A w a=>by
  have p:=i r A w a;simp_all[execOp,resolve,invoke,builtin,SV.den]
 let⟨ti,b,h⟩:=Xz f h;split at h
 ·rename_i d;split at h
  ·exact key _ h λr A w a=>by rw[(QB a e).1];simp[Builtin.len_,Yn (rh b d),SV.den,goInt]
  ·exact h.elim
 ·rename_i d;split at h
  ·exact key _ h λr A w a=>by rw[(QB a e).1];simp[Builtin.len_,Yn (VN b d).1,SV.den,goInt]
  ·exact key _ h λr A w a=>by rw[(QB a e).1];simp[Builtin.len_,Yn (VN b d).1,SV.den,goInt]
  ·exact h.elim
 ·exact h.elim
theorem dM(F:YF P tt)(B:∀out,K out->σ.fits out=true)(h:mT tt σ o.op K):bh P w0 o σ K:=by
 have C:∀ {op:Op},o.op=op->∀V,execOp V o=execOp V { o with op:=op }:=λe V=>by rw[<- e]
 cases e:o.op<;>rw[e]at h
 case move x =>
  let⟨s,g,h⟩:=QI h;exact Y8 B _ h λr A w b=>by rw[C e,<- (QB b g).1];rfl
 case assign x =>
  let⟨s,g,h⟩:=QI h;exact Y8 B _ h λr A w b=>by rw[C e,<- (QB b g).1];rfl
 case alloc t =>
  let⟨ti,g,h⟩:=Xz F h;let⟨G,h⟩:=YG h;refine pS _ _ _ h (WK _ _ _) λr A w b=>?_
  rw[C e,BS];have z:=XS (jc (w:=w) g (DE G));refine z.trans ?_
  simp only[SV.den,Env.add',Env.add,XB]
 case box t x =>
  let⟨s,g,h⟩:=QI h;refine pS _ _ _ h (L5.1 (B _ h)).2 λr A w b=>?_
  rw[C e,Fd b (QB b g).2];refine(XS (sW _)).trans ?_
  rw[(QB b g).1];simp only[SV.den,Env.add',Env.add,XB]
 case nilCheck x =>
  let⟨s,g,h⟩:=QI h;split at h
  ·exact Y8 B _ h λr A w b=>by
    have z:=(QB b g).1;simp_all[execOp,SV.den]
  ·exact Y8 B _ h λr A w b=>by
    have z:=(QB b g).1;rw[C e];unfold execOp;simp only[z,SV.den];rfl
  ·exact Y8 B _ h λr A w b=>by
    have z:=(QB b g).1;rw[C e];unfold execOp;simp only[z,SV.den];rfl
  ·exact h.elim
 case extract x i =>
  let⟨s,g,h⟩:=QI h;let⟨l,h,L⟩:=F2 h;let⟨c,R,h⟩:=QH h;refine Y8 B _ h λr A w b=>?_
  rw[C e];refine XS ?_
  rw[(QB b g).1,L];simp[Instr.extract,DL R]
 case makeFunc fn l m =>
  let⟨l',h,g⟩:=Ju w0 h;let⟨m',h,z⟩:=Ju w0 h;refine Y8 B _ h λr A w b=>?_
  rw[C e];refine XS ?_
  rw[Kg _ _ _ (g r A w b).1,Kg _ _ _ (z r A w b).1];rfl
 case load t x =>
  let⟨s,g,h⟩:=QI h;split at h
  ·let⟨p,z,h⟩:=QH h;let⟨ti,D,h⟩:=Xz F h;split at h
   ·rename_i H;let⟨I,h⟩:=YG h;refine Y8 B _ h λr A w b=>?_
    rw[C e];refine XS ?_
    rw[(QB b g).1];simp only[SV.den,Ib];exact MB D H (b.bs _ p.1 p.2 z).1 (by rw[KO];exact L8 I)
   ·rename_i H;let⟨c,R,h⟩:=QH h;refine Y8 B _ h λr A w b=>?_
    rw[C e];refine XS ?_
    rw[(QB b g).1];exact Ez D H (b.bs _ p.1 p.2 z).1 (DL R)
  ·exact h.elim
 case fieldAddr t x f =>
  let⟨s,g,h⟩:=QI h;split at h
  case h_3=>exact h.elim
  all_goals
   let⟨ti,D,h⟩:=Xz F h;split at h
   case h_2=>exact h.elim
   rename_i E;let⟨q,J,h⟩:=QH h;let⟨G,h⟩:=YG h;refine Y8 B _ h λr A w b=>?_
   rw[C e];refine XS ?_
   rw[(QB b g).1];exact Ek D E J (Df G)
 case field t x f =>
  let⟨s,g,h⟩:=QI h;let⟨l,h,L⟩:=MA h;let⟨ti,D,h⟩:=Xz F h;split at h
  ·rename_i E;let⟨q,J,h⟩:=QH h;let⟨off,Y,ag⟩:=q;refine WO B h (λH G r A w b=>?_) (λH r A w v b W=>?_)
   ·simp only at H;subst H
    rw[C e];refine XS ?_
    rw[(QB b g).1,L];exact jR D E J G
   ·simp only at H;subst H
    rw[C e];refine XS ?_
    rw[(QB b g).1,L];exact jS D E J W
  ·exact h.elim
 case index t x i =>
  let⟨s,g,h⟩:=QI h;let⟨j,z,h⟩:=QI h;obtain⟨k,m,rfl,h⟩:=AX h;let⟨l,h,L⟩:=MA h;let⟨ti,D,h⟩:=Xz F h;split at h
  ·rename_i E;let⟨I,h⟩:=YG h;let⟨G,M⟩:=L5.1 I;refine WO B h (λH X r A w b=>?_) (λH r A w v b W=>?_)
   ·subst H;rw[C e];refine XS ?_
    rw[(QB b g).1,(QB b z).1,L];exact jZ D E (Xa M) X
   ·subst H;rw[C e];refine XS ?_
    rw[(QB b g).1,(QB b z).1,L];exact RG D E (Xa M) (Df G) W
  ·exact h.elim
 case indexAddr t x i =>
  let⟨s,g,h⟩:=QI h;let⟨j,z,h⟩:=QI h;obtain⟨k,m,rfl,h⟩:=AX h;split at h
  ·let⟨ti,D,h⟩:=Xz F h;split at h
   ·rename_i E;let⟨I,h⟩:=YG h;let⟨G,M⟩:=L5.1 I;refine Y8 B _ h λr A w b=>?_
    rw[C e];refine XS ?_
    rw[(QB b g).1,(QB b z).1];exact RA D E (Xa M) (Df G)
   ·exact h.elim
  ·let⟨ti,D,h⟩:=Xz F h;split at h
   ·rename_i E;let⟨I,h⟩:=YG h;let⟨G,M⟩:=L5.1 I;refine Y8 B _ h λr A w b=>?_
    rw[C e];refine XS ?_
    rw[(QB b g).1,(QB b z).1];exact AR D E (Xa M) (Df G)
   ·exact h.elim
  ·exact h.elim
 case slice t x lo hi Z =>
  cases Z with
  |some _=>exact False.elim h
  |none =>
   let⟨s,g,h⟩:=QI h;let⟨l,h,L⟩:=j8 (w0:=w0) h;split at h
   ·let⟨n,Y,h,S⟩:=je F h;let⟨m,h,M⟩:=Mm (w0:=w0) h;refine ix B h λG z D r A w b=>?_
    rw[C e];refine XS ?_
    rw[(QB b g).1];exact S G w _ _ _ _ _ _ (L r A w b) (M r A w b) z D
   ·let⟨ti,J,h⟩:=Xz F h;split at h
    ·rename_i E;let⟨m,h,M⟩:=Mm (w0:=w0) h;refine ix B h λG z D r A w b=>?_
     rw[C e];refine XS ?_
     rw[(QB b g).1];exact JO _ _ _ _ _ _ _ _ _ _ J E G (L r A w b) (M r A w b) z D
    ·exact h.elim
   ·exact h.elim
 case binOp op t x y u =>
  let⟨s,g,h⟩:=QI h;let⟨s',z,h⟩:=QI h;exact sR F B e g z h
 case unOp op t x =>
  let⟨s,g,h⟩:=QI h;unfold sA at h;split at h
  ·exact Y8 B _ h λr A w b=>by
    rw[C e];refine XS ?_
    rw[(QB b g).1];rfl
  ·exact Y8 B _ h λr A w b=>by
    rw[C e];refine XS ?_
    rw[(QB b g).1];rfl
  ·exact h.elim
 case convert a d x =>
  let⟨s,g,h⟩:=QI h;let⟨ta,z,h⟩:=Xz F h;let⟨td,D,h⟩:=Xz F h;split at h
  ·rename_i E;split at h
   case h_2=>exact h.elim
   refine Y8 B _ h λr A w b=>?_
   let⟨_,da,_,Q,_⟩:=Kc z;rw[C e];refine XS ?_
   rw[(QB b g).1];unfold Go.convert;rw[xQ,Yn Q,xT,xQ,Yn (re D E),xT];cases da<;>rfl
  ·exact h.elim
 case pick c x y =>
  let⟨s,g,h⟩:=QI h;split at h
  ·split at h
   ·let⟨u,z,h⟩:=QI h;refine Y8 B _ h λr A w b=>?_
    rw[C e,<- (QB b z).1];have D:=(QB b g).1;unfold execOp;simp only[D,SV.den,asBool];rfl
   ·let⟨u,z,h⟩:=QI h;refine Y8 B _ h λr A w b=>?_
    rw[C e,<- (QB b z).1];have D:=(QB b g).1;unfold execOp;simp only[D,SV.den,asBool];rfl
  ·exact h.elim
 case call c =>
  dsimp only[mT]at h;split at h
  ·rename_i R;split at h
   ·rename_i x t H ht;let⟨s,g,h⟩:=QI h;exact uq (_ty:=0) F B e R (by apply Array.ext';exact H) (by apply Array.ext';exact ht) g h
   ·exact h.elim
  ·exact h.elim
 case build t ps =>
  let⟨N,h,g⟩:=Mb (w0:=w0) h;let⟨ti,z,h⟩:=Xz F h;let⟨G,h⟩:=YG h;split at h
  ·rename_i E;let⟨hf,h⟩:=YG h;let⟨l,J,h⟩:=QH h;refine Y8 B _ h λr A w b=>?_
   let⟨Q,T⟩:=g r A w b;have O:=El b _ N _ l T (WK _ _ _) J;rw[BS]at O;rw[C e];refine XS (Pm F z (DE G) E hf ?_);rw[Array.toList_map,Q];exact O
  ·rename_i E;let⟨hs,h⟩:=YG h;let⟨l,J,h⟩:=QH h;refine Y8 B _ h λr A w b=>?_
   let⟨Q,T⟩:=g r A w b;have O:=El b _ N _ l T (WK _ _ _) J;rw[BS]at O;rw[C e];refine XS (TT F z (DE G) E (Df hs) ?_);rw[Array.toList_map,Q];exact O
  ·exact h.elim
 case buildSlice t n ps =>
  let⟨N,h,g⟩:=Mb (w0:=w0) h;let⟨ti,z,h⟩:=Xz F h;split at h
  ·rename_i E;let⟨te,D,h⟩:=Xz F h;let⟨I,h⟩:=YG h;let⟨I,b5⟩:=L5.1 I;let⟨I,b3⟩:=L5.1 I;let⟨b1,b2⟩:=L5.1 I;let⟨l,J,h⟩:=QH h;have U:=(L5.1 (B _ h)).2;refine pS _ _ _ h U λr A w b=>?_
   let⟨Q,T⟩:=g r A w b;have O:=El b _ N _ l T (WK _ _ _) J;rw[BS]at O;rw[C e];refine(XS (TU z E D (DE b1) (Ld b2) (Ld b3) (L8 b5) (l:=QO r l) ?_)).trans ?_
   ·rw[Array.toList_map,Q];exact O
   ·simp only[SV.den,Env.add',Env.add,XB]
  ·exact h.elim
 all_goals exact False.elim h
end
def e0:Env:=⟨λ_=>0,λ_=>undef,λ_ _=>False⟩
def SV.plain(s:SV):Bool:=s.ok (λ_=>false) (λ_=>false)
def JK(h:s.plain=true)(r:Env):s.den r=s.den e0:=Zi (λ_=>false) (λ_=>false) (λ_ h=>nomatch h) (λ_ h=>nomatch h) s h
variable{l:List SV}
theorem Y7(h:Dv (λ_=>false) (λ_=>false) l=true)(r:Env):QO r l=QO e0 l:=XH (λ_=>false) (λ_=>false) (λ_ h=>nomatch h) (λ_ h=>nomatch h) l h
def v1(σ:St)(x:x0h)(K:y9->Prop):Prop:=Vz σ x λs=>bif s.plain then K (s.den e0)else False
def vO(σ:St)(x:Option x0h)(K:Option y9->Prop):Prop:=match x with
 |none=>K none
 |some x=>v1 σ x λv=>K (some v)
def vL(σ:St)(l:List x0h)(K:o3->Prop):Prop:=lq σ l λm=>bif Dv (λ_=>false) (λ_=>false) m then K (QO e0 m)else False
def Qp(P:xO)(w0:xH)(m:Sem y9)(R:y9):Prop:=∀W,Below w0.heap.size w0 W->m.run P W=.ok R W
def wB(e:Sem y9->y9->Prop)(σ:St)(o:Oper)(R:y9):Prop:=match o.op with
 |.binOp op t x y _=>v1 σ x λa=>v1 σ y λb=>e (do eqGuard op t x y a b;binOp op t a b) R
 |.unOp op _ x=>v1 σ x λa=>e (Op.unary op a) R
 |.convert s d x=>v1 σ x λa=>e (Go.convert s d a) R
 |.index t x i=>v1 σ x λa=>v1 σ i λb=>e (Instr.index t a b) R
 |.indexAddr t x i=>v1 σ x λa=>v1 σ i λb=>e (Instr.indexAt t a b) R
 |.load t x=>v1 σ x λa=>e (Instr.loadAt t a) R
 |.slice t x g h j=>v1 σ x λa=>vO σ g λb=>vO σ h λc=>vO σ j λd=>e (Instr.sliceAt t a b c d) R
 |.makeInterface t x=>v1 σ x λa=>e (Instr.makeInterface t a) R
 |.field t x f=>v1 σ x λa=>e (Instr.field t a f) R
 |.fieldAddr t x f=>v1 σ x λa=>e (Instr.fieldAt t a f) R
 |.nilCheck x=>v1 σ x λa=>R=a/\(match a with | .pointer (some _)=>True | .func (.func _) _ _=>True | .slice _ _ _=>True|_=>False)
 |.typeAssert x t u ok=>v1 σ x λa=>e (Instr.typeAssert a t u ok) R
 |.call c=>match c.callee with
  |.builtin .min=>vL σ c.args.toList λl=>e (Builtin.min_ c.argTypes o.type l.toArray) R
  |.builtin .max=>vL σ c.args.toList λl=>e (Builtin.max_ c.argTypes o.type l.toArray) R
  |.builtin .cap=>vL σ c.args.toList λl=>e (Builtin.cap_ c.argTypes o.type l.toArray) R
  |.builtin .len=>vL σ c.args.toList λl=>e (Builtin.len_ c.argTypes o.type l.toArray) R
  |_=>False
 |_=>False
def Qd8(P:xO)(w0:xH)(σ:St)(o:Oper)(R:y9):Prop:=wB (Qp P w0) σ o R
def d8(σ:St):List Nat->(List Res->Prop)->Prop
 |[],K=>K []
 |i::l,K=>match Xq σ.rs i with
  |some ρ=>d8 σ l λm=>K (ρ::m)
  |none=>False
def kE(W:xH):List Res->Prop->Prop
 |[],p=>p
 |ρ::l,p=>∀x S,ρ.φ x S W->kE W l p
def GJ(P:xO)(w0:xH)(l:List Res)(m:Sem y9)(R:y9):Prop:=∀W,Below w0.heap.size w0 W->kE W l (m.run P W=.ok R W)
section
variable{P:xO}{w0:xH}{σ:St}{K:Out->Prop}
def Xr(w0:xH){x:x0h}{K:y9->Prop}(h:v1 σ x K):∃v,K v/\∀r a w,See w0 σ r a w->a.eval x=v:=by
 let⟨s,b,h⟩:=QI h;let⟨c,h⟩:=YG h;exact⟨_,h,λr a w d=>by rw[(QB d b).1,JK c]⟩
theorem Dl(w0:xH){x:Option x0h}{K:Option y9->Prop}(h:vO σ x K):∃v,K v/\∀r a w,See w0 σ r a w->x.map a.eval=v:=by
 cases x with
 |none=>exact⟨none,h,λ_ _ _ _=>rfl⟩
 |some x =>
  let⟨v,b,c⟩:=Xr w0 (show v1 σ x (λv=>K (some v))from h)
  grind
theorem Br(w0:xH){l:List x0h}{K:o3->Prop}(h:vL σ l K):∃v,K v/\∀r a w,See w0 σ r a w->l.map a.eval=v:=by
 let⟨m,h,b⟩:=Ju w0 h
 grind[Y7]
theorem iu{n:Sem y9->y9->Prop}(d:∀m R,n m R->∀r a w,See w0 σ r a w->m.run P w=.ok R w){R:y9}(h:wB n σ o R):∀r a w,See w0 σ r a w->(execOp a.eval o).run P w=.ok (.value R) w:=by
 have g:∀ {op:Op},o.op=op->∀k,execOp k o=execOp k { o with op:=op }:=λe k=>by rw[<- e]
 unfold wB at h;split at h
 case h_1 e =>
  let⟨_,h,f⟩:=Xr w0 h;let⟨_,h,i⟩:=Xr w0 h;intro r a w b;rw[g e];refine XS ?_
  rw[f r a w b,i r a w b];exact d _ _ h r a w b
 case h_2 e =>
  let⟨_,h,f⟩:=Xr w0 h;intro r a w b;rw[g e];refine XS ?_
  rw[f r a w b];exact d _ _ h r a w b
 case h_3 e =>
  let⟨_,h,f⟩:=Xr w0 h;intro r a w b;rw[g e];refine XS ?_
  rw[f r a w b];exact d _ _ h r a w b
 case h_4 e =>
  let⟨_,h,f⟩:=Xr w0 h;let⟨_,h,i⟩:=Xr w0 h;intro r a w b;rw[g e];refine XS ?_
  rw[f r a w b,i r a w b];exact d _ _ h r a w b
 case h_5 e =>
  let⟨_,h,f⟩:=Xr w0 h;let⟨_,h,i⟩:=Xr w0 h;intro r a w b;rw[g e];refine XS ?_
  rw[f r a w b,i r a w b];exact d _ _ h r a w b
 case h_6 e =>
  let⟨_,h,f⟩:=Xr w0 h;intro r a w b;rw[g e];refine XS ?_
  rw[f r a w b];exact d _ _ h r a w b
 case h_7 e =>
  let⟨_,h,f⟩:=Xr w0 h;let⟨_,h,i⟩:=Dl w0 h;let⟨_,h,p⟩:=Dl w0 h;let⟨_,h,q⟩:=Dl w0 h;intro r a w b;rw[g e];refine XS ?_
  rw[f r a w b,i r a w b,p r a w b,q r a w b];exact d _ _ h r a w b
 case h_8 e =>
  let⟨_,h,f⟩:=Xr w0 h;intro r a w b;rw[g e];refine XS ?_
  rw[f r a w b];exact d _ _ h r a w b
 case h_9 e =>
  let⟨_,h,f⟩:=Xr w0 h;intro r a w b;rw[g e];refine XS ?_
  rw[f r a w b];exact d _ _ h r a w b
 case h_10 e =>
  let⟨_,h,f⟩:=Xr w0 h;intro r a w b;rw[g e];refine XS ?_
  rw[f r a w b];exact d _ _ h r a w b
 case h_11 e =>
  obtain⟨v,⟨rfl,h⟩,f⟩:=Xr w0 h;intro r a w b;rw[g e];unfold execOp;simp only[f r a w b];split at h
  ·rfl
  ·rfl
  ·rfl
  ·exact h.elim
 case h_12 e =>
  let⟨_,h,f⟩:=Xr w0 h;intro r a w b;rw[g e];refine XS ?_
  rw[f r a w b];exact d _ _ h r a w b
 case h_13 c e =>
  split at h
  case h_1 j =>
   let⟨l,h,f⟩:=Br w0 h;intro r a w b;rw[g e];unfold execOp
   simp[resolve,j,invoke,builtin,Kg _ _ _ (f r a w b),d _ _ h r a w b]
  case h_2 j =>
   let⟨l,h,f⟩:=Br w0 h;intro r a w b;rw[g e];unfold execOp
   simp[resolve,j,invoke,builtin,Kg _ _ _ (f r a w b),d _ _ h r a w b]
  case h_3 j =>
   let⟨l,h,f⟩:=Br w0 h;intro r a w b;rw[g e];unfold execOp
   simp[resolve,j,invoke,builtin,Kg _ _ _ (f r a w b),d _ _ h r a w b]
  case h_4 j =>
   let⟨l,h,f⟩:=Br w0 h;intro r a w b;rw[g e];unfold execOp
   simp[resolve,j,invoke,builtin,Kg _ _ _ (f r a w b),d _ _ h r a w b]
  case h_5=>exact h.elim
 grind
def wC{R:y9}(h:Qd8 P w0 σ o R):∀r a w,See w0 σ r a w->(execOp a.eval o).run P w=.ok (.value R) w :=
 iu (λ_ _ h _ _ w b=>h w b.low) h
theorem DM(w0:xH):∀ {is:List Nat} {K:List Res->Prop},d8 σ is K->∃l,K l/\∀r a w p,See w0 σ r a w->kE w l p->p
 |[],_,h=>⟨[],h,λ_ _ _ _ _ h=>h⟩
 |i::is,K,h=>by
  unfold d8 at h;split at h
  ·rename_i ρ e;obtain⟨l,c,d⟩:=DM _ (is:=is) h;exact⟨ρ::l,c,λr a w p b f=>d r a w p b (f _ _ (b.rs i ρ e).1)⟩
  grind
end
def Xt(P:xO)(f:FuncId):Prop:=∀(args:x0g) (w:xH),(callFunc f args).run P w=.ok (.enter f args) w
def RetAt(P:xO)(w0:xH)(f:FuncId)(args:x0g)(R:y9):Prop:=Xt P f/\∀W,Below w0.heap.size w0 W->xP P f args W R
def Cv(P:xO)(w0:xH)(l:List Res)(f:FuncId)(args:x0g)(R:y9):Prop:=Xt P f/\∀W,Below w0.heap.size w0 W->kE W l (xP P f args W R)
def Zf(i:Nat):List Nat->Bool
 |[]=>false
 |j::l=>Nat.beq i j||Zf i l
theorem memB_mem{i:Nat}:∀ {l:List Nat},Zf i l=true↔i∈l
 |[]=>by simp[Zf]
 |j::l=>by
  rw[Lb,<- memB_mem (l:=l)];simp[Zf]
def cK(b:Bool)(p:Prop):Prop:=match b with
 |true=>p
 |false=>False
def GC(h:cK b p):b=true/\p:=by cases b<;>first|exact⟨rfl,h⟩|exact False.elim h
mutual
def SV.refs:SV->List Nat->List Nat
 |.val _,l=>l
 |.ptr b _,l=>bif Zf b l then l else b::l
 |.sli b _ _ _,l=>bif Zf b l then l else b::l
 |.clo _ m n,l=>Z7 n (Z7 m l)
 |.agg m,l=>Z7 m l
 |.tup m,l=>Z7 m l
 |.han _,l=>l
def Z7:List SV->List Nat->List Nat
 |[],l=>l
 |s::m,l=>Z7 m (s.refs l)
end
def TP(σ:St)(W:xH):List Nat->(Nat->Nat)->((Nat->Nat)->Prop)->Prop
 |[],β,K=>K β
 |b::l,β,K=>match Xq σ.bs b with
  |some (t,cs)=>bif Dv (λ_=>false) (λ_=>false) cs then ∀g,Bx W g t (QO e0 cs).toArray->TP σ W l (Zg β b g) K else False
  |none=>False
def NF(β:Nat->Nat):Env:=⟨β,λ_=>undef,λ_ _=>False⟩
def CallOk(P:xO)(w0:xH)(σ:St)(f:FuncId)(args:List SV)(R:SV):Prop:=Xt P f/\∀W,Below w0.heap.size w0 W->TP σ W (Z7 args []) (λ_=>0) λβ =>
 cK (Dv (λb=>Zf b (Z7 args [])) (λ_=>false) args&&R.ok (λb=>Zf b (Z7 args [])) (λ_=>false)) (Calls P f (QO (NF β) args).toArray W λe w'=>e=.returned (R.den (NF β))/\Below W.heap.size W w')
theorem Gz{σ:St}{w0:xH}{r:Env}{a:Act}{W:xH}(f:See w0 σ r a W):∀ {l:List Nat} {β:Nat->Nat} {K:(Nat->Nat)->Prop},TP σ W l β K->∃d,K d/\(∀b,b∈l->d b=r.b b)/\∀b,b ∉ l->d b=β b
 |[],β,K,h=>⟨β,h,λ_ h=>(nomatch h),λ_ _=>rfl⟩
 |c::l,β,K,h=>by
  unfold TP at h;split at h
  ·rename_i t cs e;let⟨i,h⟩:=YG h;have g:=(f.bs c t cs e).1;rw[Y7 i]at g;let⟨d,j,k,m⟩:=Gz f (h _ g)
   grind[XB,Yd]
  ·exact h.elim
variable{a:Act}{f:FuncId}{args:List SV}{W:xH}
theorem CallOk.use{R:SV}(h:CallOk P w0 σ f args R)(d:See w0 σ r a W):Calls P f (QO r args).toArray W λe w'=>e=.returned (R.den r)/\Below W.heap.size W w':=by
 let⟨β,i,g,_⟩:=Gz d (h.2 W d.low);let⟨j,m⟩:=GC i;let⟨k,l⟩:=L5.1 j;have n:QO (NF β) args=QO r args:=XH (λb=>Zf b (Z7 args [])) (λ_=>false) (λb c=>g b (memB_mem.1 c)) (λ_ h=>nomatch h) args k;have o:R.den (NF β)=R.den r:=Zi (λb=>Zf b (Z7 args [])) (λ_=>false) (λb c=>g b (memB_mem.1 c)) (λ_ h=>nomatch h) R l
 grind
def Ki(σ:St)(c:Call)(K:FuncId->List SV->Prop):Prop:=match c.callee with
 |.value f=>Vz σ f λs=>match s with
  |.clo (.func g) l m=>lq σ c.args.toList λn=>K g (l++n++m)
  |.val (.func (.func g) l m)=>lq σ c.args.toList λn=>K g (l.toList.map SV.val++n++m.toList.map SV.val)
  |_=>False
 |_=>False
def NewIn(P:xO)(w0:xH)(l:List Res)(f:FuncId)(args:x0g)(val:β->y9)(R:β->Res):Prop:=Xt P f/\∀W,Below w0.heap.size w0 W->kE W l (Calls P f args W λe w'=>∃y x S,e=.returned (val y)/\(R y).φ x S w'/\(∀b,S b->W.heap.size<=b/\b<w'.heap.size)/\Below W.heap.size W w')
def HW(val:β->y9)(R:β->Res):Res where
 φ x S w:=x.oneCell'=true/\∃y a,x=val y/\(R y).φ a S w
 one _ _ _ h:=h.1
 loc x S w w' h hφ:=by
  let⟨b,y,a,c,d⟩:=hφ;exact⟨b,y,a,c,(R y).loc a S w w' h d⟩
def ce(v:y9):Env:=⟨λ_=>0,λ_=>v,λ_ _=>False⟩
theorem Aw{val:β->y9}{R a:β->Res}(h:∀y x b S w,b.oneCell'=true->(R y).φ x S w->(a y).φ b S w):∀x S w,(HW val R).φ x S w->∃y,x=val y/\(a y).φ x S w:=λx S w c=>by
 let⟨d,y,e,f,g⟩:=(show _/\_ from c)
 grind
def Zo(b:Builtin)(ts:Array o0)(t:o0)(l:o3):Sem y9:=match b with
 |.append=>Builtin.append_ ts t l.toArray
 |.clear=>Builtin.clear_ ts t l.toArray
 |.copy=>Builtin.copy_ ts t l.toArray
 |_=>stuck ""
def Pf(P:xO)(W:xH)(val:β->y9)(R:β->Res)(m:Sem y9):Prop:=∃y x S w',m.run P W=.ok (val y) w'/\Below W.heap.size W w'/\(R y).φ x S w'/\∀b,S b->W.heap.size<=b/\b<w'.heap.size
def NewB(P:xO)(w0:xH)(σ:St)(l:List SV)(m:o3->Sem y9)(val:β->y9)(R:β->Res):Prop:=∀W,Below w0.heap.size w0 W->TP σ W (Z7 l []) (λ_=>0) λa =>
 cK (Dv (λb=>Zf b (Z7 l [])) (λ_=>false) l) (Pf P W val R (m (QO (NF a) l)))
theorem NewB.use{m:o3->Sem y9}{val:β->y9}{R:β->Res}(h:NewB P w0 σ l m val R)(c:See w0 σ r a w):Pf P w val R (m (QO r l)):=by
 let⟨d,e,f,_⟩:=Gz c (h w c.low);let⟨g,j⟩:=GC e;have k:QO (NF d) l=QO r l:=XH (λb=>Zf b (Z7 l [])) (λ_=>false) (λb i=>f b (memB_mem.1 i)) (λ_ h=>nomatch h) l g
 grind
def Oi(β:Nat->Nat)(ξ:Nat->y9):Env:=⟨β,ξ,λ_ _=>False⟩
def nn(σ:St)(W:xH):List Nat->(Nat->y9)->((Nat->y9)->Prop)->Prop
 |[],ξ,K=>K ξ
 |i::l,ξ,K=>match Xq σ.rs i with
  |some ρ=>∀x S,ρ.φ x S W->nn σ W l (Zg ξ i x) K
  |none=>False
theorem Ft{σ:St}{w0:xH}{r:Env}{a:Act}{W:xH}(d:See w0 σ r a W):∀ {l:List Nat} {ξ:Nat->y9} {K:(Nat->y9)->Prop},nn σ W l ξ K->∃b,K b/\(∀i,i∈l->b i=r.x i)/\∀i,i ∉ l->b i=ξ i
 |[],ξ,K,h=>⟨ξ,h,λ_ h=>(nomatch h),λ_ _=>rfl⟩
 |c::l,ξ,K,h=>by
  unfold nn at h;split at h
  ·rename_i ρ e;let⟨b,f,g,j⟩:=Ft d (h _ _ (d.rs c ρ e).1)
   grind[XB,Yd]
  ·exact h.elim
def RetH(P:xO)(w0:xH)(σ:St)(a:List Nat)(f:FuncId)(args:List SV)(R:y9):Prop:=Xt P f/\∀W,Below w0.heap.size w0 W->TP σ W (Z7 args []) (λ_=>0) λβ=>nn σ W a (λ_=>undef) λξ =>
 cK (Dv (λb=>Zf b (Z7 args [])) (λi=>Zf i a) args) (Calls P f (QO (Oi β ξ) args).toArray W λe w'=>e=.returned R/\Below W.heap.size W w')
variable{d:List Nat}
theorem RetH.use{R:y9}(h:RetH P w0 σ d f args R)(c:See w0 σ r a W):Calls P f (QO r args).toArray W λe w'=>e=.returned R/\Below W.heap.size W w':=by
 let⟨β,g,j,_⟩:=Gz c (h.2 W c.low);let⟨ξ,k,l,_⟩:=Ft c g;let⟨m,p⟩:=GC k;have q:QO (Oi β ξ) args=QO r args:=XH (λb=>Zf b (Z7 args [])) (λi=>Zf i d) (λb n=>j b (memB_mem.1 n)) (λi o=>l i (memB_mem.1 o)) args m
 grind
def NewH(P:xO)(w0:xH)(σ:St)(a:List Nat)(f:FuncId)(args:List SV)(val:β->y9)(R:β->Res):Prop:=Xt P f/\∀W,Below w0.heap.size w0 W->TP σ W (Z7 args []) (λ_=>0) λc=>nn σ W a (λ_=>undef) λξ =>
 cK (Dv (λb=>Zf b (Z7 args [])) (λi=>Zf i a) args) (Calls P f (QO (Oi c ξ) args).toArray W λe w'=>∃y x S,e=.returned (val y)/\(R y).φ x S w'/\(∀b,S b->W.heap.size<=b/\b<w'.heap.size)/\Below W.heap.size W w')
theorem NewH.use{val:β->y9}{R:β->Res}(h:NewH P w0 σ d f args val R)(c:See w0 σ r a W):Calls P f (QO r args).toArray W λe w'=>∃y x S,e=.returned (val y)/\(R y).φ x S w'/\(∀b,S b->W.heap.size<=b/\b<w'.heap.size)/\Below W.heap.size W w':=by
 let⟨g,j,k,_⟩:=Gz c (h.2 W c.low);let⟨ξ,l,m,_⟩:=Ft c j;let⟨n,q⟩:=GC l;have s:QO (Oi g ξ) args=QO r args:=XH (λb=>Zf b (Z7 args [])) (λi=>Zf i d) (λb o=>k b (memB_mem.1 o)) (λi p=>m i (memB_mem.1 p)) args n
 grind
inductive DOp:Type 1 where
 |eq (R:SV)
 |set (R:Value)
 |ret (R:SV)
 |pk (b:Bool)
 |byt (l:List UInt8)
 |rd (is:List Nat) (R:Value)
 |retr (is:List Nat) (R:Value)
 |nw {β:Type} (R:SV) (is:List Nat) (val:β->Value) (ρ:β->Res)
 |nb {β:Type} (R:SV) (val:β->Value) (ρ:β->Res)
def Z6(b:Bool)(p:Prop):Prop:=match b with
 |true=>p
 |false=>False
theorem Qq(h:Z6 b p):b=true/\p:=by cases b<;>first|exact⟨rfl,h⟩|exact False.elim h
def iq(s R:SV)(p:Prop):Prop:=match s with
 |.val (.int k a)=>(match R with
  |.val (.int c b)=>Z6 (gi k c) (a=b/\p)
  |_=>False)
 |.val (.bool a)=>(match R with
  |.val (.bool b)=>a=b/\p
  |_=>False)
 |.val a=>(match R with
  |.val b=>a=b/\p
  |_=>False)
 |_=>False
theorem M9{R:SV}(h:iq s R p):p/\∃a,s=.val a/\R=.val a:=by
 unfold iq at h
 grind[Qq,Mv]
def I7(v:y9)(c:UInt8)(p:Prop):Prop:=match v with
 |.int .u8 z=>z=(c.toNat:Int)/\p
 |_=>False
def Pq:List SV->List UInt8->Prop->Prop
 |[],[],p=>p
 |.val v::m,c::l,p=>I7 v c (Pq m l p)
 |_,_,_=>False
theorem BR(r:Env):∀ {m:List SV} {l:List UInt8} {p:Prop},Pq m l p->p/\m.length=l.length/\∀(j:Nat) (a:j<l.length),(QO r m)[j]?=some (.int .u8 (l[j].toNat:Int))
 |[],[],_,h=>⟨h,rfl,λj a=>absurd a (R4 _)⟩
 |[],_::_,_,h=>False.elim h
 |.val v::m,[],_,h=>False.elim h
 |.val v::m,c::l,p,h=>by
  have b:I7 v c (Pq m l p):=h;unfold I7 at b;split at b
  ·obtain⟨rfl,d⟩:=b;let⟨e,f,g⟩:=BR r d;refine⟨e,Lu Nat.succ f,λj a=>?_⟩;cases j with
   |zero=>rfl
   |succ j=>exact g j (Nat.lt_of_succ_lt_succ a)
  grind
 |.ptr _ _::_,[],_,h=>False.elim h
 |.ptr _ _::_,_::_,_,h=>False.elim h
 |.sli _ _ _ _::_,[],_,h=>False.elim h
 |.sli _ _ _ _::_,_::_,_,h=>False.elim h
 |.clo _ _ _::_,[],_,h=>False.elim h
 |.clo _ _ _::_,_::_,_,h=>False.elim h
 |.agg _::_,[],_,h=>False.elim h
 |.agg _::_,_::_,_,h=>False.elim h
 |.tup _::_,[],_,h=>False.elim h
 |.tup _::_,_::_,_,h=>False.elim h
 |.han _::_,[],_,h=>False.elim h
 |.han _::_,_::_,_,h=>False.elim h
def QcP(tt:List (Nat×TI))(a b:o0)(p:Prop):Prop:=Hn tt a λti=>Hn tt b λc=>match ti.k with
 |.slice e _ _=>(match c.k with
  |.str=>Hn tt e λd=>(match d.k with
   |.int .u8=>p
   |_=>False)
  |_=>False)
 |_=>False
theorem jm{tt:List (Nat×TI)}(c:YF P tt){a b:o0}(h:QcP tt a b p):p/\∃e,P.underlying a=some (.slice e)/\P.underlying e=some (.int .u8)/\P.underlying b=some .string:=by
 let⟨ti,g,h⟩:=Xz c h;let⟨l,i,h⟩:=Xz c h;split at h
 ·rename_i e m n j;split at h
  ·rename_i d;let⟨o,k,h⟩:=Xz c h;split at h
   ·rename_i f;exact⟨h,e,(VN g j).1,re k f,rh i d⟩
   grind
  ·exact h.elim
 ·exact h.elim
def Qe5(tt:List (Nat×TI))(σ:St)(a c:o0)(x:x0h)(l:List UInt8)(p:Prop):Prop:=QcP tt a c (Vz σ x λs=>match s with
 |.sli b o n _=>ZO (Xq σ.bs b) λq=>Z6 (Nat.beq n l.length) (Pq ((q.2.drop o).take n) l p)
 |_=>False)
def qi(P:xO)(tt:List (Nat×TI))(w0:xH)(σ:St)(o:Oper)(x:DOp)(K:Out->Prop):Prop:=match x with
 |.eq R=>mT tt σ o.op λout=>iq out.s R (K ⟨R,out.b,out.r⟩)
 |.set R=>Qd8 P w0 σ o R/\K (one (.val R))
 |.ret R=>(match o.op with
  |.call c=>Ki σ c λf l=>bif Dv (λ_=>false) (λ_=>false) l&&R.plain then RetAt P w0 f (QO e0 l).toArray (R.den e0)/\K (one R)else CallOk P w0 σ f l R/\K (one R)
  |_=>False)
 |.pk b=>(match o.op with
  |.pick c x y=>Vz σ c λs=>match s with
   |.val (.bool v)=>v=b/\(match b with
    |true=>Vz σ x λs=>K (one s)
    |false=>Vz σ y λs=>K (one s))
   |_=>False
  |_=>False)
 |.byt l=>(match o.op with
  |.convert d e x=>Qe5 tt σ d e x l (K (one (.val (.string ⟨l.toArray⟩))))
  |_=>False)
 |.rd a R=>d8 σ a λm=>wB (GJ P w0 m) σ o R/\K (one (.val R))
 |.nw R a val ρ=>(match o.op with
  |.call c=>Ki σ c λf l=>Z6 (Dv (λ_=>false) (λ_=>false) l&&R.ok (λ_=>false) (λi=>Nat.beq i σ.rs.length)) (d8 σ a λm=>NewIn P w0 m f (QO e0 l).toArray (λy=>R.den (ce (val y))) ρ/\(∀y,(val y).oneCell'=true)/\K ⟨R,none,some (HW val ρ)⟩)
  |_=>False)
 |.nb R val ρ=>(match o.op with
  |.call c=>(match c.callee with
   |.builtin b=>lq σ c.args.toList λl=>Z6 (R.ok (λ_=>false) (λi=>Nat.beq i σ.rs.length)) (NewB P w0 σ l (Zo b c.argTypes o.type) (λy=>R.den (ce (val y))) ρ/\(∀y,(val y).oneCell'=true)/\K ⟨R,none,some (HW val ρ)⟩)
   |_=>False)
  |_=>False)
 |.retr a R=>(match o.op with
  |.call c=>Ki σ c λf l=>Z6 (Dv (λ_=>false) (λ_=>false) l) (d8 σ a λm=>Cv P w0 m f (QO e0 l).toArray R/\K (one (.val R)))
  |_=>False)
section
variable{P:xO}{tt:List (Nat×TI)}{w0:xH}{σ:St}{K:Out->Prop}
def YC(P:xO)(w0:xH){c:Call}{K:FuncId->List SV->Prop}(h:Ki σ c K):∃f l,K f l/\σ.ltL l=σ.ltL l/\∀(o:Oper),o.op=.call c->Xt P f->∀r a w,See w0 σ r a w->(execOp a.eval o).run P w=.ok (.enter f (QO r l).toArray) w:=by
 unfold Ki at h;split at h
 ·rename_i f p;let⟨s,q,h⟩:=QI h;split at h
  ·rename_i g l m;let⟨n,h,d⟩:=Ju w0 h;refine⟨g,_,h,rfl,λo e i r a w b=>?_⟩;have j:=(QB b q).1;unfold execOp;rw[e];simp only[resolve,p,j,SV.den,Deferred.ofValue,xQ,Sem.run_pure,xT,invoke];rw[Kg _ _ _ (d r a w b).1];have k:(QO r l).toArray++(QO r n).toArray++(QO r m).toArray=(QO r (l++n++m)).toArray:=by simp[XI]
   rw[k,i]
  ·rename_i g l m;let⟨n,h,d⟩:=Ju w0 h;refine⟨g,_,h,rfl,λo e i r a w b=>?_⟩;have j:=(QB b q).1;unfold execOp;rw[e];simp only[resolve,p,j,SV.den,Deferred.ofValue,xQ,Sem.run_pure,xT,invoke];rw[Kg _ _ _ (d r a w b).1];have k:l++(QO r n).toArray++m=(QO r (l.toList.map SV.val++n++m.toList.map SV.val)).toArray:=by
    have t:∀x:x0g,(QO r (x.toList.map SV.val))=x.toList:=λx=>BS r x.toList
    rw[XI r (_++_++_),Rv,Rv,<- XI,<- XI,<- XI,t,t];simp
   rw[k,i]
  ·exact h.elim
 ·exact h.elim
theorem dY{l:List SV}{R:SV}(h:K (one R))(hs:σ.lt R=true)(c:∀r a w,See w0 σ r a w->(execOp a.eval o).run P w=.ok (.enter f (QO r l).toArray) w)(d:∀r a W,See w0 σ r a W->Calls P f (QO r l).toArray W λe w'=>e=.returned (R.den r)/\Below W.heap.size W w'):bh P w0 o σ K :=
 ⟨_,h,λr a w b Q next g=>by
  unfold Oper.wp;rw[c r a w b];show Calls P f _ w _;refine(d r a w b).mono ?_
  rintro e w' ⟨rfl,i⟩;have j:=g _ Gh.no w' rfl i (by exact⟨rfl,(λ_ _ h=>nomatch h),(λ_ h=>nomatch h),(λ_ _ h=>nomatch h)⟩)
  grind[one,PB]⟩
theorem Qa0(hT:YF P tt)(B:∀out,K out->σ.fits out=true){x:DOp}(h:qi P tt w0 σ o x K):bh P w0 o σ K:=by
 unfold qi at h;split at h
 ·rename_i R;let⟨out,p,k⟩:=dM (w0:=w0) hT (K:=λout=>iq out.s R (K ⟨R,out.b,out.r⟩)) (λout t=>by
   obtain⟨p,a,e1,rfl⟩:=M9 t;have k:=B _ p;rw[<- e1]at k;exact k) h
  obtain⟨C,a,e1,rfl⟩:=M9 p;refine⟨_,C,λr A w d Q next D=>k r A w d Q next ?_⟩;rintro u γ w' rfl G E;have h4:=D _ γ w' rfl G ⟨E.one,E.b,E.r,E.apart⟩
  grind
 ·exact Y8 B _ h.2 λr a w d=>wC h.1 r a w d
 ·rename_i R;split at h
  ·rename_i c t;let⟨f,l,h,_,I⟩:=YC P w0 h;cases J:Dv (λ_=>false) (λ_=>false) l&&R.plain with
   |true =>
    rw[J]at h;let⟨⟨L,z⟩,h⟩:=h;let⟨M,N⟩:=L5.1 J;refine dY h (gv B h) (I o t L) λr a W d=>?_
    rw[Y7 M,JK N];exact z W d.low
   |false =>
    rw[J]at h;let⟨z,h⟩:=h;exact dY h (gv B h) (I o t z.1) λr a W d=>z.use d
  ·exact h.elim
 ·split at h
  ·rename_i b c x y e;let⟨s,p,h⟩:=QI h;have U:∀H,execOp H o=execOp H { o with op:=.pick c x y }:=λH=>by rw[<- e]
   split at h
   ·rename_i v;let⟨V,h⟩:=h;subst V;cases v with
    |true =>
     let⟨u,k,h⟩:=QI h;refine Y8 B _ h λr A w d=>?_
     rw[U,<- (QB d k).1];have C:=(QB d p).1;unfold execOp;simp only[C,SV.den,asBool];rfl
    |false =>
     let⟨u,k,h⟩:=QI h;refine Y8 B _ h λr A w d=>?_
     rw[U,<- (QB d k).1];have C:=(QB d p).1;unfold execOp;simp only[C,SV.den,asBool];rfl
   ·exact h.elim
  ·exact h.elim
 ·rename_i l;split at h
  ·rename_i O T x e;let⟨h,X,Y,Z,ad⟩:=jm hT h;let⟨s,p,h⟩:=QI h;split at h
   ·rename_i b off n c;let⟨q,k,h⟩:=QH h;let⟨D,h⟩:=Qq h;have D:=Ld D;have hk:=(BR e0 h).1;refine Y8 B _ hk λr A w d=>?_
    let⟨_,ao,ag⟩:=BR r h;have U:∀H,execOp H o=execOp H { o with op:=.convert O T x }:=λH=>by rw[<- e]
    have V:=(QB d p).1;have G:=(d.bs b q.1 q.2 k).1;have F:=run_convert_bytes_back (P:=P) w O T X ⟨r.b b,off,none⟩ c l Y Z ad (λj hj=>by
     rw[add_plain,G.cel];have C:=ag j hj;rw[Ib]at C;rw[b9 x3,List.getElem?_drop]at C;simpa using C)
    rw[U];rw[<- D]at F;unfold execOp;simp only[V,SV.den,xQ,F];rfl
   ·exact h.elim
  ·exact h.elim
 ·let⟨l,h,hl⟩:=DM w0 h;exact Y8 B _ h.2 λr a w d=>iu (λ_ _ h r a w d=>hl r a w _ d (h w d.low)) h.1 r a w d
 ·rename_i β R is val ρ;split at h
  ·rename_i c t;let⟨f,l,h,_,I⟩:=YC P w0 h;let⟨J,h⟩:=Qq h;let⟨M,N⟩:=L5.1 J;let⟨m,⟨⟨L,z⟩,g,h⟩,E⟩:=DM w0 h;refine⟨_,h,λr a w d Q next D=>?_⟩;unfold Oper.wp;rw[I o t L r a w d,Y7 M];show Calls P f _ w _;refine(E r a w _ d (z w d.low)).mono ?_
   rintro e w' ⟨y,x0,S,rfl,hφ,hS,G⟩;have e2:R.den (ce (val y))=R.den (r.add' σ ⟨0,val y,S⟩):=Zi (λ_=>false) (λi=>Nat.beq i σ.rs.length) (λ_ h=>nomatch h) (λi hi=>by rw[Ld hi];exact(XB _ _ _).symm) R N;dsimp only;rw[e2];exact D _ ⟨0,val y,S⟩ w' rfl G ⟨g y,(λ_ _ h=>nomatch h),(λR' h=>by obtain rfl:=o7 h;exact⟨⟨g y,y,x0,rfl,hφ⟩,hS⟩),(λ_ _ h=>nomatch h)⟩
  ·exact h.elim
 ·rename_i β R val ρ;split at h
  ·rename_i c t;split at h
   ·rename_i b z;let⟨l,h,p⟩:=Ju w0 h;let⟨N,h,g,hk⟩:=Qq h;refine⟨_,hk,λr a w d Q next D=>?_⟩;let⟨y,x0,S,w',k,G,hφ,hS⟩:=h.use d;have h5:(execOp a.eval o).run P w=.ok (.value (R.den (ce (val y)))) w':=by
     rw[show execOp a.eval o=execOp a.eval { o with op:=.call c } by rw[<- t]];unfold execOp;unfold Zo at k;split at k;all_goals first|(simp[resolve,z,invoke,builtin,Kg _ _ _ (p r a w d).1,k];done)|(cases k;done)
    have e2:R.den (ce (val y))=R.den (r.add' σ ⟨0,val y,S⟩):=Zi (λ_=>false) (λi=>Nat.beq i σ.rs.length) (λ_ h=>nomatch h) (λi hi=>by rw[Ld hi];exact(XB _ _ _).symm) R N;unfold Oper.wp;rw[h5,e2];exact D _ ⟨0,val y,S⟩ w' rfl G ⟨g y,(λ_ _ h=>nomatch h),(λR' h=>by obtain rfl:=o7 h;exact⟨⟨g y,y,x0,rfl,hφ⟩,hS⟩),(λ_ _ h=>nomatch h)⟩
   ·exact h.elim
  ·exact h.elim
 ·rename_i is R;split at h
  ·rename_i c t;let⟨f,l,h,_,I⟩:=YC P w0 h;let⟨M,h⟩:=Qq h;let⟨m,⟨⟨L,z⟩,h⟩,E⟩:=DM w0 h;refine dY h (gv B h) (I o t L) λr a W d=>?_
   rw[Y7 M];exact E r a W _ d (z W d.low)
  ·exact h.elim
end
abbrev Hp:Type:=xN×Nat
def Ag(σ:St)(r a:Env):Prop:=(∀i,i<σ.bs.length->a.b i=r.b i)/\∀i,i<σ.rs.length->a.x i=r.x i
def St.le(σ σ':St):Prop:=σ.bs.length<=σ'.bs.length/\σ.rs.length<=σ'.rs.length
def po(σ a:St):Bool:=Nat.ble σ.bs.length a.bs.length&&Nat.ble σ.rs.length a.rs.length
structure Trn (S:Nat->Prop) (w w':World):Prop where
 os:w'.os=w.os
 tape:w'.tape=w.tape
 output:w'.output=w.output
 size:w.heap.size<=w'.heap.size
 block:∀k,k<w.heap.size->¬ S k->w'.heap[k]?=w.heap[k]?
variable{S:Nat->Prop}
def Trn.of_grown{row:Option Nat}(h:w.grownBy w' row)(a:∀k,row=some k->S k):Trn S w w' :=
 ⟨h.os,h.tape,h.output,h.size,λk b c=>h.block k b λe=>c (a k e.symm)⟩
def Trn.refl(S:Nat->Prop)(w:xH):Trn S w w:=⟨rfl,rfl,rfl,L4 _,λ_ _ _=>rfl⟩
def Trn.trans{a b c:xH}(h:Trn S a b)(k:Trn S b c):Trn S a c :=
 ⟨k.os.trans h.os,k.tape.trans h.tape,k.output.trans h.output,L6 h.size k.size,λi d e=>(k.block i (L9 d h.size) e).trans (h.block i d e)⟩
def Trn.setCell{p:Addr}(a:S p.block)(u:y9):Trn S w (w.setCell p u) :=
 ⟨rfl,rfl,rfl,by simp[World.setCell],λk _ b=>Sr w p u k λe=>b (e▸a)⟩
def XL(i:Nat)(R:Res)(σ:St):St:={ σ with rs:=GX σ.rs i R }
def Vk(R:Res)(σ:St):St:={ σ with rs:=Gt σ.rs (some R) }
def QfH(e:o0)(k:Nat)(v:y9)(n:Nat)(i:o3):Res where
 φ x S w:=x.oneCell'=true/\w.ownsRow 0 e k v n i/\∀b,S b↔v.ownBlock=some b
 one _ _ _ h:=h.1
 loc x S w w' h hφ:=by
  let⟨j,c,d⟩:=hφ;refine⟨j,⟨c.1,?_⟩,d⟩;rcases c.2 with l|⟨g,cap,a,f,m,o,rest⟩
  ·exact .inl l
  ·exact .inr ⟨g,cap,a,f,m,(h g ((d g).2 (by rw[f];rfl))).trans o,rest⟩
def Qc(e:o0)(k:Nat)(c:α->o3)(l:List α)(A:xN)(a:Nat):Res:=QfH e k (.slice A l.length a) l.length (l.flatMap c)
variable{k:Nat}
theorem XY{e:o0}{c:α->o3}{b:β->o3}{l:List α}{a:List β}{A:xN}{d:Nat}(f:l.length=a.length)(h:l.flatMap c=a.flatMap b){x:y9}(g:(Qc e k c l A d).φ x S w):(Qc e k b a A d).φ x S w:=by
 grind[Qc]
def QT{α:Type}{c:α->o3}{k:Nat}(a:∀x,(c x).length=k):∀l:List α,(l.flatMap c).length=l.length*k
 |[]=>x6
 |x::l=>by rw[Sn,La,QT a l,a,Li,Ru,T8]
theorem Jv{α:Type}{c:α->o3}{k:Nat}(a:∀x,(c x).length=k):∀ {l:List α} {j i:Nat} (d:j<l.length),i<k->(l.flatMap c)[j*k+i]?=(c l[j])[i]?
 |x::l,0,i,_,e=>by
  grind
 |x::l,j+1,i,d,e=>by
  have b:j<l.length:=Nat.lt_of_succ_lt_succ d;rw[Sn,sT (by rw[a,Ru];omega),a,show(j+1)*k+i-k=j*k+i by rw[Ru];omega];exact Jv a b e
variable{S':Nat->Prop}
section
variable{w0:xH}{σ:St}
def Ag.refl(σ:St)(r:Env):Ag σ r r:=⟨λ_ _=>rfl,λ_ _=>rfl⟩
def Ag.trans{σ σ':St}{c a:Env}(h:Ag σ r c)(d:σ.le σ')(k:Ag σ' c a):Ag σ r a :=
 ⟨λi b=>(k.1 i (L9 b d.1)).trans (h.1 i b),λi b=>(k.2 i (L9 b d.2)).trans (h.2 i b)⟩
def Ag.le{σ σ':St}{a:Env}(h:Ag σ' r a)(b:σ.le σ'):Ag σ r a:=(Ag.refl σ r).trans b h
def Ag.add(σ:St)(r:Env)(γ:Gh):Ag σ r (r.add' σ γ):=⟨λ_ a=>Yd _ _ (Sc a),λ_ a=>Yd _ _ (Sc a)⟩
def St.le.refl(σ:St):σ.le σ:=⟨L4 _,L4 _⟩
def St.le.trans{σ σ' a:St}(h:σ.le σ')(k:σ'.le a):σ.le a:=⟨L6 h.1 k.1,L6 h.2 k.2⟩
def uo(σ:St)(o:Out):σ.le (σ.grow o):=⟨PT,PU⟩
def YK(σ:St)(d:Option Tmp)(s:SV):σ.le (σ.push d s):=by cases d<;>exact St.le.refl σ
def nV{σ a:St}(h:po σ a=true):σ.le a:=by
 let⟨b,c⟩:=L5.1 h;exact⟨L8 b,L8 c⟩
def Ag.den{σ:St}{b:Env}(h:Ag σ r b)(hs:σ.lt s=true):s.den b=s.den r:=Zi _ _ (λi a=>h.1 i (Xa a)) (λi a=>h.2 i (Xa a)) s hs
def Hm{α:Type}:∀ {l:List (Option α)} {i:Nat} {p y:α},Xq l i=some p->Xq (GX l i y) i=some y
 |[],_,_,_,h=>by cases h
 |_::_,0,_,_,_=>rfl
 |_::l,n+1,_,_,h=>Hm (l:=l) (i:=n) h
def Bm{α:Type}:∀ {l:List (Option α)} {i j:Nat} {y:α},j≠i->Xq (GX l i y) j=Xq l j
 |[],_,_,_,_=>rfl
 |_::_,0,0,_,h=>absurd rfl h
 |_::_,0,_+1,_,_=>rfl
 |_::_,_+1,0,_,_=>rfl
 |_::l,i+1,j+1,_,h=>Bm (l:=l) (i:=i) (j:=j) (λe=>h (by rw[e]))
theorem Vy(r:Env)(S:Nat->Nat->Prop)(s:SV):s.den ⟨r.b,r.x,S⟩=s.den r :=
 Zi (λ_=>true) (λ_=>true) (λ_ _=>rfl) (λ_ _=>rfl) (r:=⟨r.b,r.x,S⟩) (r':=r) s (by
  exact SV.rec (motive_1:=λs=>s.ok (λ_=>true) (λ_=>true)=true) (motive_2:=λl=>Dv (λ_=>true) (λ_=>true) l=true) (λ_=>rfl) (λ_ _=>rfl) (λ_ _ _ _=>rfl) (λ_ _ _ a c=>L5.2 ⟨a,c⟩) (λ_ h=>h) (λ_ h=>h) (λ_=>rfl) rfl (λ_ _ a c=>L5.2 ⟨a,c⟩) s)
theorem Vh(r:Env)(S:Nat->Nat->Prop)(l:List SV):QO ⟨r.b,r.x,S⟩ l=QO r l:=by
 simp[XI,Vy]
structure Trm (w0:World) (S:Nat->Prop) (w w':World):Prop where
 low:Below w0.heap.size w0 w'
 block:∀k,k<w.heap.size->¬ S k->w'.heap[k]?=w.heap[k]?
theorem Sat.turm{w w':xH}{R':Res}(h:Sat w0 σ r a w)(y:Xq σ.rs i=some R)(D:Trm w0 (r.S i) w w')(O:R'.φ (r.x i) S' w')(A:∀b,S' b->(r.S i b\/w.heap.size<=b)/\b<w'.heap.size):
  Sat w0 (XL i R' σ) ⟨r.b,r.x,Zg r.S i S'⟩ a w':=by
 have q:(XL i R' σ).rs.length=σ.rs.length:=XZ _ _ _;have G:∀s,(XL i R' σ).lt s=σ.lt s:=λs=>by simp only[St.lt,q];rfl
 have B:∀s,(XL i R' σ).ltL s=σ.ltL s:=λs=>by simp only[St.ltL,q];rfl
 have C:=h.see.low;have H:∀k,k<w.heap.size->¬ r.S i k->k<w'.heap.size:=λk I P=>by
  have f:=D.block k I P
  grind
 have u:∀j d,Xq (XL i R' σ).rs j=some d->(j=i/\d=R'/\Zg r.S i S' j=S')\/(j≠i/\Xq σ.rs j=some d/\Zg r.S i S' j=r.S j):=λj d l=>by
  rcases A7 l with⟨z,J⟩|⟨z,J⟩
  ·subst z;exact .inl ⟨rfl,J,XB _ _ _⟩
  ·exact .inr ⟨z,J,Yd _ _ z⟩
 refine⟨⟨D.low,h.see.size,λk s I=>?_,λj t cs l=>?_,λj d l=>?_,λj l=>h.see.one j (by rwa [q]at l)⟩,⟨h.sep.own,h.sep.inj,λj d l b c=>?_,λj m d E l K n b c o=>?_,λj m p d l K c=>?_⟩,h.defers⟩
 ·let⟨f,g⟩:=h.see.ts k s I;exact⟨by rw[Vy];exact f,by rw[G];exact g⟩
 ·let⟨f,g⟩:=h.see.bs j t cs l;refine⟨?_,by rw[B];exact g⟩;rw[Vh];exact(D.block _ f.lt (h.sep.apart j i _ _ l y)).trans f
 ·rcases u j d l with⟨rfl,rfl,e⟩|⟨n,f,e⟩
  ·rw[show(⟨r.b,r.x,Zg r.S j S'⟩:Env).S j=S' from e];exact⟨O,λb c=>(A b c).2⟩
  ·rw[show(⟨r.b,r.x,Zg r.S i S'⟩:Env).S j=r.S j from e];let⟨g,v⟩:=h.see.rs j d f;exact⟨d.loc _ _ _ _ (λb c=>D.block b (v b c) λhs=>h.sep.disj j i d R f y n b c hs) g,λb c=>H b (v b c) λhs=>h.sep.disj j i d R f y n b c hs⟩
 ·rcases u j d l with⟨rfl,rfl,e⟩|⟨n,f,e⟩
  ·rw[show(⟨r.b,r.x,Zg r.S j S'⟩:Env).S j=S' from e]at c;rcases(A b c).1 with g|g
   ·exact h.sep.ownS j R y b g
   ·exact L6 C.size g
  ·rw[show(⟨r.b,r.x,Zg r.S i S'⟩:Env).S j=r.S j from e]at c;exact h.sep.ownS j d f b c
 ·rcases u j d l with⟨z,_,e⟩|⟨L,f,e⟩<;>rcases u m E K with⟨Q,_,F⟩|⟨M,g,F⟩
  ·exact n (z.trans Q.symm)
  ·rw[show(⟨r.b,r.x,Zg r.S i S'⟩:Env).S j=S' from e]at c;rw[show(⟨r.b,r.x,Zg r.S i S'⟩:Env).S m=r.S m from F]at o;rcases(A b c).1 with v|v
   ·exact h.sep.disj i m R E y g (Ne.symm M) b v o
   ·exact absurd ((h.see.rs m E g).2 b o) x3
  ·rw[show(⟨r.b,r.x,Zg r.S i S'⟩:Env).S j=r.S j from e]at c;rw[show(⟨r.b,r.x,Zg r.S i S'⟩:Env).S m=S' from F]at o;rcases(A b o).1 with v|v
   ·exact h.sep.disj j i d R f y L b c v
   ·exact absurd ((h.see.rs j d f).2 b c) x3
  ·rw[show(⟨r.b,r.x,Zg r.S i S'⟩:Env).S j=r.S j from e]at c;rw[show(⟨r.b,r.x,Zg r.S i S'⟩:Env).S m=r.S m from F]at o;exact h.sep.disj j m d E f g n b c o
 ·rcases u m d K with⟨z,_,e⟩|⟨n,f,e⟩
  ·rw[show(⟨r.b,r.x,Zg r.S i S'⟩:Env).S m=S' from e]at c;have N:=(h.see.bs j p.1 p.2 l).1.lt;rcases(A _ c).1 with g|g
   ·exact h.sep.apart j i p R l y g
   ·have:r.b j<w.heap.size:=N;have v:w.heap.size<=r.b j:=g;omega
  ·rw[show(⟨r.b,r.x,Zg r.S i S'⟩:Env).S m=r.S m from e]at c;exact h.sep.apart j m p d l f c
def Sat.turn{w w':xH}{R':Res}(h:Sat w0 σ r a w)(d:Xq σ.rs i=some R)(c:Trn (r.S i) w w')(f:R'.φ (r.x i) S' w')(g:∀b,S' b->(r.S i b\/w.heap.size<=b)/\b<w'.heap.size):
  Sat w0 (XL i R' σ) ⟨r.b,r.x,Zg r.S i S'⟩ a w' :=
 h.turm d ⟨⟨c.os.trans h.see.low.os,c.tape.trans h.see.low.tape,c.output.trans h.see.low.output,L6 h.see.low.size c.size,λk e=>(c.block k (L9 e h.see.low.size) λhs=>absurd (h.sep.ownS i R d k hs) x3).trans (h.see.low.block k e)⟩,c.block⟩ f g
def AA(r:Env)(S:Nat->Nat->Prop):Ag σ r ⟨r.b,r.x,S⟩:=⟨λ_ _=>rfl,λ_ _=>rfl⟩
def Dd(j:Nat)(R:Res):σ.le (XL j R σ):=⟨L4 _,by simp[XL,XZ]⟩
def Sat.fresh{w w':xH}{x:y9}(h:Sat w0 σ r a w)(c:Below w.heap.size w w')(d:R.φ x S w')(g:∀b,S b->w.heap.size<=b/\b<w'.heap.size):
  Sat w0 (Vk R σ) (r.add' σ ⟨0,x,S⟩) a w':=by
 have f:Made (r.add' σ ⟨0,x,S⟩) ⟨.val undef,none,some R⟩ ⟨0,x,S⟩ w w':=⟨R.one x S w' d,(λ_ _ h=>nomatch h),(λj e=>by obtain rfl:=o7 e;exact⟨d,g⟩),(λ_ _ h=>nomatch h)⟩
 have i:σ.fits ⟨.val undef,none,some R⟩=true:=rfl;exact⟨h.see.grow c i f,h.sep.grow h.see c f,h.defers⟩
def P1(R:Res):σ.le (Vk R σ):=⟨L4 _,by simp[Vk,Yj]⟩
end
variable{b j:Nat}{ds:List Nat}{M:Res}
section
variable{w0:xH}{σ:St}
def TD(w0:xH)(σ:St)(out:β->St):Prop:=∀r a w,Sat w0 σ r a w->∃b c,Sat w0 (out b) c a w/\Ag σ r c
def vh(e k:Nat)(c:α->o3):TD w0 σ (λ_:Unit=>Vk (Qc e k c ([]:List α) none 0) σ):=λr a w d =>
 ⟨(),_,d.fresh (x:=.bool false) (S:=λ_=>False) (p5 _ _) (show _/\_/\_ from⟨rfl,World.ownsRow_nil w 0 e k,λb=>⟨λh=>h.elim,λh=>by simp[Value.ownBlock]at h⟩⟩) (λ_ h=>h.elim),Ag.add _ _ _⟩
def JX{α:Type}:List (Option α)->Nat->List (Option α)
 |[],_=>[]
 |_::l,0=>none::l
 |x::l,n+1=>x::JX l n
def Q0{α:Type}:∀(l:List (Option α)) (i:Nat),(JX l i).length=l.length
 |[],_=>rfl
 |_::_,0=>rfl
 |_::l,n+1=>Lu Nat.succ (Q0 l n)
theorem Gr{α:Type}:∀ {l:List (Option α)} {i j:Nat} {z:α},Xq (JX l i) j=some z->j≠i/\Xq l j=some z
 |[],_,_,_,h=>by cases h
 |_::_,0,0,_,h=>by cases h
 |_::_,0,_+1,_,h=>⟨x6,h⟩
 |_::_,_+1,0,_,h=>⟨x6,h⟩
 |_::l,i+1,j+1,_,h=>(Gr (l:=l) (i:=i) (j:=j) h).imp (λe=>l3 e) id
def pK(ds:List Nat)(s:SV)(l:List (Nat×SV)):List (Nat×SV):=match ds with
 |[]=>l
 |d::ds=>(d,s)::pK ds s l
def uf(σ:St)(b m:Nat):List Nat->Bool
 |[]=>true
 |d::ds=>(match Yv d σ.ts with
  |some (.sli a o n c)=>Nat.beq a b&&Nat.beq o 0&&Nat.beq n m&&Nat.beq c m
  |_=>false)&&uf σ b m ds
def FF{s u:SV}{k:Nat}{l:List (Nat×SV)}:∀ {ds:List Nat},Yv k (pK ds s l)=some u->(k∈ds/\u=s)\/Yv k l=some u
 |[],h=>.inr h
 |d::ds,h=>by
  simp only[pK,Yv]at h;cases e:Nat.beq d k with
  |true=>rw[e]at h;exact .inl ⟨by rw[<- Ld e];simp,(o7 h).symm⟩
  |false=>rw[e]at h;exact(FF (ds:=ds) h).imp (λh=>⟨T6 _ h.1,h.2⟩) id
theorem Ou{b m:Nat}:∀ {ds:List Nat},uf σ b m ds=true->∀d,d∈ds->Yv d σ.ts=some (.sli b 0 m m)
 |[],_,_,h=>by cases h
 |d::ds,h,c,a=>by
  let⟨e,f⟩:=L5.1 h;rcases Lb.1 a with rfl|a
  ·split at e;all_goals simp_all
  ·exact Ou f c a
def MZ(b:Nat)(ds:List Nat)(e k:Nat)(c:α->o3)(l:List α)(y:Hp)(σ:St):St:=⟨σ.n,pK ds (.val (.slice y.1 l.length y.2)) σ.ts,JX σ.bs b,Gt σ.rs (some (Qc e k c l y.1 y.2))⟩
def vf{m:Nat}{c:α->o3}{l:List α}{cs:List SV}(I:Xq σ.bs b=some (e,cs))(Q:Dv (λ_=>false) (λ_=>false) cs=true)(T:QO e0 cs=l.flatMap c)(U:m=l.length)(M:∀x,(c x).length=k)(J:l.length<=maxLen)(N:uf σ b m ds=true):TD w0 σ (λy:Hp=>MZ b ds e k c l y σ):=λr a w o=>by
 subst U;have O:=(o.see.bs b e cs I).1;rw[Y7 Q,T]at O;have C:∀j p,Xq (JX σ.bs b) j=some p->j≠b/\Xq σ.bs j=some p:=λj p h=>Gr h
 have V:w.heap[r.b b]?=some (.cells (l.flatMap c).toArray e):=O;have K:w.ownsRow 0 e k (.slice (some ⟨r.b b,0,none⟩) l.length l.length) l.length (l.flatMap c):=⟨QT M l,.inr ⟨r.b b,l.length,(l.flatMap c).toArray,rfl,L7 _,V,L4 _,J,by simpa using QT M l,by simp[QT M l,Rh]⟩⟩
 let γ:Gh:=⟨0,.bool false,λg=>g=r.b b⟩
 have D:Ag σ r (r.add' σ γ):=Ag.add σ r γ;have E:∀j R,Xq (Gt σ.rs (some (Qc e k c l (some ⟨r.b b,0,none⟩) l.length))) j=some R->(Xq σ.rs j=some R/\(r.add' σ γ).x j=r.x j/\(r.add' σ γ).S j=r.S j)\/(R=Qc e k c l (some ⟨r.b b,0,none⟩) l.length/\j=σ.rs.length/\(r.add' σ γ).x j=.bool false/\(r.add' σ γ).S j=λg=>g=r.b b):=λj R f=>by
  rw[Yj]at f;rcases EH f with d|⟨rfl,d⟩
  ·exact .inl ⟨d,D.2 j (XK d),Yd _ _ (Sc (XK d))⟩
  ·exact .inr ⟨(o7 d).symm,rfl,XB _ _ _,XB _ _ _⟩
 have G:=o.sep.own b _ I;refine⟨(some ⟨r.b b,0,none⟩,l.length),r.add' σ γ,⟨⟨o.see.low,o.see.size,λj s f=>?_,λj t H f=>?_,λj R f=>?_,λj f=>?_⟩,⟨λj p f=>?_,λi j p q v f z=>?_,λj R f g n=>?_,λi j R P v f z g n A=>?_,λi j p R v f n=>?_⟩,o.defers⟩,D⟩
 ·rcases FF f with⟨d,rfl⟩|d
  ·let⟨B,_⟩:=o.see.ts j _ (Ou N j d);exact⟨B,rfl⟩
  ·let⟨B,u⟩:=o.see.ts j s d;refine⟨by rw[D.den u];exact B,KW (λi v=>?_) (λi v=>?_) s u⟩
   ·show Nat.blt i (JX σ.bs b).length=true;rw[Q0];exact v
   ·show Nat.blt i (Gt σ.rs _).length=true;exact YQ (by rw[Yj,La];have:=Xa v;simp;omega)
 ·let⟨z,d⟩:=C j _ f;let⟨B,u⟩:=o.see.bs j t H d;refine⟨?_,Jz (λi v=>?_) (λi v=>?_) H u⟩
  ·rw[D.1 j (XK d),XH (λi=>Nat.blt i σ.bs.length) (λi=>Nat.blt i σ.rs.length) (λi v=>D.1 i (Xa v)) (λi v=>D.2 i (Xa v)) (r:=r.add' σ γ) (r':=r) H u];exact B
  ·show Nat.blt i (JX σ.bs b).length=true;rw[Q0];exact v
  ·show Nat.blt i (Gt σ.rs _).length=true;exact YQ (by rw[Yj,La];have:=Xa v;simp;omega)
 ·rcases E j R f with⟨d,B,u⟩|⟨rfl,_,B,u⟩
  ·rw[B,u];exact o.see.rs j R d
  ·rw[B,u];exact⟨(show _/\_/\_ from⟨rfl,K,λg=>⟨λh=>by rw[h];rfl,λh=>by simpa [Value.ownBlock,eq_comm]using h⟩⟩),λg n=>by rw[n];exact O.lt⟩
 ·have W:j<σ.rs.length+1:=by
   have d:j<(Gt σ.rs (some (Qc e k c l (some ⟨r.b b,0,none⟩) l.length))).length:=f;rw[Yj]at d;simpa using d
  rcases R5 j σ.rs.length with d|d
  ·rw[D.2 j d];exact o.see.one j d
  ·have:j=σ.rs.length:=x3;subst this;rw[show(r.add' σ γ).x σ.rs.length=.bool false from XB _ _ _];rfl
 ·let⟨_,d⟩:=C j p f;rw[D.1 j (XK d)];exact o.sep.own j p d
 ·let⟨_,d⟩:=C i p v;let⟨_,B⟩:=C j q f;rw[D.1 i (XK d),D.1 j (XK B)];exact o.sep.inj i j p q d B z
 ·rcases E j R f with⟨d,_,u⟩|⟨rfl,_,_,u⟩
  ·rw[u]at n;exact o.sep.ownS j R d g n
  ·rw[u]at n;rw[n];exact G
 ·rcases E i R v with⟨d,_,u⟩|⟨rfl,X,_,u⟩<;>rcases E j P f with⟨L,_,F⟩|⟨rfl,Y,_,F⟩
  ·rw[u]at n;rw[F]at A
   exact o.sep.disj i j R P d L z g n A
  ·rw[u]at n;rw[F]at A
   subst A;exact o.sep.apart b i _ R I d n
  ·rw[u]at n;rw[F]at A
   subst n;exact o.sep.apart b j _ P I L A
  ·exact z (X.trans Y.symm)
 ·let⟨z,d⟩:=C i p v;rw[D.1 i (XK d)]at n;rcases E j R f with⟨L,_,F⟩|⟨rfl,_,_,F⟩
  ·rw[F]at n;exact o.sep.apart i j p R d L n
  ·rw[F]at n;exact o.sep.inj i b p _ d I z n
def Qd6(σ:St)(b:Nat)(ds:List Nat)(e k:Nat)(c:α->o3)(l:List α)(K:(Hp->St)->Prop):Prop:=ZO (Xq σ.bs b) λp=>Z6 (Nat.beq p.1 e&&Dv (λ_=>false) (λ_=>false) p.2&&uf σ b l.length ds) (QO e0 p.2=l.flatMap c/\((∀x,(c x).length=k)/\l.length<=maxLen)/\K λy=>MZ b ds e k c l y σ)
theorem kF{c:α->o3}{l:List α}{K:(Hp->St)->Prop}(h:Qd6 σ b ds e k c l K):TD w0 σ (λy:Hp=>MZ b ds e k c l y σ)/\K λy=>MZ b ds e k c l y σ:=by
 let⟨⟨t,cs⟩,a,h⟩:=QH h;let⟨d,f,⟨g,i⟩,j⟩:=Qq h;simp_all[vf]
theorem Qap(b:Nat)(ds:List Nat)(e k:Nat)(c:α->o3)(l:List α)(y:Hp):σ.le (MZ b ds e k c l y σ):=⟨by simp[MZ,Q0],by simp[MZ,Yj]⟩
def Qh(g:Nat)(t:o0)(cs:o3)(M:Res):Res where
 φ x S w:=x=.bool false/\Bx w g t cs.toArray/\∃a d,M.φ d a w/\¬ a g/\(∀b,a b->b<w.heap.size)/\∀b,S b↔b=g\/a b
 one _ _ _ h:=by rw[h.1];rfl
 loc x S w w' h hφ:=by
  let⟨j,k,a,d,l,m,n,e⟩:=hφ;have hs:∀b,a b->w'.heap[b]?=w.heap[b]?:=λb c=>h b ((e b).2 (.inr c))
  refine⟨j,(h g ((e g).2 (.inl rfl))).trans k,a,d,M.loc _ _ _ _ hs l,m,λb c=>?_,e⟩;have f:=hs b c;rw[Array.getElem?_eq_getElem (n b c)]at f;rcases R5 b w'.heap.size with i|i
  ·exact i
  ·rw[p7 i]at f;cases f
def ug(σ:St)(b:Nat):List Nat->Bool
 |[]=>true
 |d::ds=>(match Yv d σ.ts with
  |some (.ptr a o)=>Nat.beq a b&&Nat.beq o 0
  |_=>false)&&ug σ b ds
theorem Ov{b:Nat}:∀ {ds:List Nat},ug σ b ds=true->∀d,d∈ds->Yv d σ.ts=some (.ptr b 0)
 |[],_,_,h=>by cases h
 |d::ds,h,c,a=>by
  let⟨e,f⟩:=L5.1 h;rcases Lb.1 a with rfl|a
  ·split at e;all_goals simp_all
  ·exact Ov f c a
def PR(b j:Nat)(ds:List Nat)(t:o0)(cs:List SV)(M:Res)(σ:St)(g:Nat):St:=⟨σ.n,pK ds (.val (.pointer (some ⟨g,0,none⟩))) σ.ts,JX σ.bs b,Gt (JX σ.rs j) (some (Qh g t (QO e0 cs) M))⟩
def vg{t:Nat}{cs:List SV}(A:Xq σ.bs b=some (t,cs))(B:Xq σ.rs j=some M)(P:Dv (λ_=>false) (λ_=>false) cs=true)(I:ug σ b ds=true):TD w0 σ (PR b j ds t cs M σ):=λr a w f=>by
 have J:=(f.see.bs b t cs A).1;rw[Y7 P]at J;let⟨Q,C⟩:=f.see.rs j M B;have T:=f.sep.apart b j _ M A B;let γ:Gh:=⟨0,.bool false,λg=>g=r.b b\/r.S j g⟩
 have o:Ag σ r (r.add' σ γ):=Ag.add σ r γ;have O:(PR b j ds t cs M σ (r.b b)).rs.length=σ.rs.length+1:=by simp[PR,Yj,Q0]
 have K:(PR b j ds t cs M σ (r.b b)).bs.length=σ.bs.length:=Q0 _ _;have D:∀i R,Xq (PR b j ds t cs M σ (r.b b)).rs i=some R->(i≠j/\Xq σ.rs i=some R/\(r.add' σ γ).x i=r.x i/\(r.add' σ γ).S i=r.S i)\/(R=Qh (r.b b) t (QO e0 cs) M/\i=σ.rs.length/\(r.add' σ γ).x i=.bool false/\(r.add' σ γ).S i=λg=>g=r.b b\/r.S j g):=λi R d=>by
  have L:Xq (JX σ.rs j++[some (Qh (r.b b) t (QO e0 cs) M)]) i=some R:=Yj _ _▸d;rcases EH L with c|⟨e,c⟩
  ·let⟨n,l⟩:=Gr c;exact .inl ⟨n,l,o.2 i (XK l),Yd _ _ (Sc (XK l))⟩
  ·rw[Q0]at e;subst e;exact .inr ⟨(o7 c).symm,rfl,XB _ _ _,XB _ _ _⟩
 have y:∀s,σ.lt s=true->(PR b j ds t cs M σ (r.b b)).lt s=true:=λs h=>KW (λi d=>by rw[K];exact d) (λi d=>YQ (by rw[O];have:=Xa d;omega)) s h
 refine⟨r.b b,r.add' σ γ,⟨⟨f.see.low,f.see.size,λk s z=>?_,λi U E d=>?_,λi R d=>?_,λi d=>?_⟩,⟨λi p d=>?_,λi k p q d z v=>?_,λi R d g m=>?_,λi k R H d z v g m u=>?_,λi k p R d z m=>?_⟩,f.defers⟩,o⟩
 ·rcases FF z with⟨c,rfl⟩|c
  ·exact⟨(f.see.ts k _ (Ov I k c)).1,rfl⟩
  ·let⟨n,l⟩:=f.see.ts k s c;exact⟨by rw[o.den l];exact n,y s l⟩
 ·let⟨_,c⟩:=Gr (show Xq (JX σ.bs b) i=_ from d);let⟨n,l⟩:=f.see.bs i U E c;refine⟨?_,okL_all.2 λs hs=>y s (okL_all.1 l s hs)⟩;rw[o.1 i (XK c),XH (λi=>Nat.blt i σ.bs.length) (λi=>Nat.blt i σ.rs.length) (λi d=>o.1 i (Xa d)) (λi d=>o.2 i (Xa d)) (r:=r.add' σ γ) (r':=r) E l];exact n
 ·rcases D i R d with⟨_,c,n,l⟩|⟨rfl,_,n,l⟩
  ·rw[n,l];exact f.see.rs i R c
  ·rw[n,l];exact⟨⟨rfl,J,r.S j,_,Q,T,C,λ_=>Iff.rfl⟩,λg m=>m.elim (λe=>e▸J.lt) (C g)⟩
 ·rw[O]at d;rcases R5 i σ.rs.length with c|c
  ·rw[o.2 i c];exact f.see.one i c
  ·have:i=σ.rs.length:=x3;subst this;rw[show(r.add' σ γ).x σ.rs.length=.bool false from XB _ _ _];rfl
 ·let⟨_,c⟩:=Gr (show Xq (JX σ.bs b) i=_ from d);rw[o.1 i (XK c)];exact f.sep.own i p c
 ·let⟨_,c⟩:=Gr (show Xq (JX σ.bs b) i=_ from d);let⟨_,n⟩:=Gr (show Xq (JX σ.bs b) k=_ from z);rw[o.1 i (XK c),o.1 k (XK n)];exact f.sep.inj i k p q c n v
 ·rcases D i R d with⟨_,c,_,l⟩|⟨rfl,_,_,l⟩<;>rw[l]at m
  ·exact f.sep.ownS i R c g m
  ·exact m.elim (λe=>e▸f.sep.own b _ A) (f.sep.ownS j M B g)
 ·rcases D i R d with⟨N,c,_,l⟩|⟨rfl,V,_,l⟩<;>rcases D k H z with⟨W,F,_,G⟩|⟨rfl,X,_,G⟩<;>rw[l]at m<;>rw[G]at u
  ·exact f.sep.disj i k R H c F v g m u
  ·exact u.elim (λe=>f.sep.apart b i _ R A c (e▸m)) (f.sep.disj i j R M c B N g m)
  ·exact m.elim (λe=>f.sep.apart b k _ H A F (e▸u)) λh=>f.sep.disj k j H M F B W g u h
  ·exact v (V.trans X.symm)
 ·let⟨N,c⟩:=Gr (show Xq (JX σ.bs b) i=_ from d);rw[o.1 i (XK c)]at m;rcases D k R z with⟨_,F,_,G⟩|⟨rfl,_,_,G⟩<;>rw[G]at m
  ·exact f.sep.apart i k p R c F m
  ·exact m.elim (f.sep.inj i b p _ c A N) (f.sep.apart i j p M c B)
def Qc9(σ:St)(b j:Nat)(ds:List Nat)(K:(Nat->St)->Prop):Prop:=ZO (Xq σ.bs b) λp=>ZO (Xq σ.rs j) λM=>Z6 (Dv (λ_=>false) (λ_=>false) p.2&&ug σ b ds) (K (PR b j ds p.1 p.2 M σ))
def jX{K:(Nat->St)->Prop}(h:Qc9 σ b j ds K):∃out,K out/\TD w0 σ out/\∀g,σ.le (out g):=by
 let⟨⟨t,cs⟩,a,h⟩:=QH h;let⟨M,c,h⟩:=QH h;let⟨d,h⟩:=Qq h;let⟨e,f⟩:=L5.1 d;exact⟨_,h,vg a c e f,λg=>⟨by simp[PR,Q0],by simp[PR,Yj,Q0]⟩⟩
def Qj(d j:Res):Res where
 φ x S w:=∃a c e,d.φ x a w/\j.φ e c w/\(∀b,a b->¬ c b)/\∀b,S b↔a b\/c b
 one x S w h:=by
  let⟨a,_,_,f,_⟩:=h;exact d.one x a w f
 loc x S w w' h hφ:=by
  let⟨a,c,e,f,k,l,g⟩:=hφ;exact⟨a,c,e,d.loc _ _ _ _ (λb i=>h b ((g b).2 (.inl i))) f,j.loc _ _ _ _ (λb i=>h b ((g b).2 (.inr i))) k,l,g⟩
def Hc(x y:Nat)(a b:Res)(σ:St):St:={ σ with rs:=GX (JX σ.rs y) x (Qj a b) }
theorem ul{x y:Nat}{h i:Res}(v:Xq σ.rs x=some h)(z:Xq σ.rs y=some i)(D:x≠y){w:xH}(c:Sat w0 σ r a w):∃J,Sat w0 (Hc x y h i σ) J a w/\Ag σ r J:=by
 let S:Nat->Prop:=λb=>r.S x b\/r.S y b
 have l:(Hc x y h i σ).rs.length=σ.rs.length:=by simp[Hc,XZ,Q0]
 have E:∀s,(Hc x y h i σ).lt s=σ.lt s:=λs=>by simp only[St.lt,l];rfl
 have A:∀s,(Hc x y h i σ).ltL s=σ.ltL s:=λs=>by simp only[St.ltL,l];rfl
 have n:∀j R,Xq (Hc x y h i σ).rs j=some R->(j=x/\R=Qj h i/\Zg r.S x S j=S)\/(j≠x/\j≠y/\Xq σ.rs j=some R/\Zg r.S x S j=r.S j):=λj R f=>by
  rcases A7 f with⟨B,F⟩|⟨B,F⟩
  all_goals grind[XB,Gr,Yd]
 let⟨M,N⟩:=c.see.rs x h v;let⟨O,P⟩:=c.see.rs y i z;have G:=c.sep.disj x y h i v z D;have far:∀j R,Xq σ.rs j=some R->j≠x->j≠y->∀b,r.S j b->¬ S b:=λj R f o q b d hs=>by
  rcases hs with hs|hs
  ·exact c.sep.disj j x R h f v o b d hs
  ·exact c.sep.disj j y R i f z q b d hs
 refine⟨⟨r.b,r.x,Zg r.S x S⟩,⟨⟨c.see.low,c.see.size,λk s Q=>?_,λj t cs f=>?_,λj R f=>?_,λj f=>c.see.one j (by rwa [l]at f)⟩,⟨c.sep.own,c.sep.inj,λj R f b d=>?_,λj m R H f I K b d g=>?_,λj m p R f I d=>?_⟩,c.defers⟩,AA r _⟩
 ·let⟨o,q⟩:=c.see.ts k s Q;exact⟨by rw[Vy];exact o,by rw[E];exact q⟩
 ·let⟨o,q⟩:=c.see.bs j t cs f;exact⟨by rw[Vh];exact o,by rw[A];exact q⟩
 ·rcases n j R f with⟨rfl,rfl,e⟩|⟨o,q,u,e⟩
  ·rw[show(⟨r.b,r.x,Zg r.S j S⟩:Env).S j=S from e];exact⟨(show ∃V W X,_ from⟨_,_,_,M,O,G,λ_=>Iff.rfl⟩),λb d=>d.elim (N b) (P b)⟩
  ·rw[show(⟨r.b,r.x,Zg r.S x S⟩:Env).S j=r.S j from e];exact c.see.rs j R u
 ·rcases n j R f with⟨rfl,rfl,e⟩|⟨o,q,u,e⟩
  ·rw[show(⟨r.b,r.x,Zg r.S j S⟩:Env).S j=S from e]at d;exact d.elim (c.sep.ownS j h v b) (c.sep.ownS y i z b)
  ·rw[show(⟨r.b,r.x,Zg r.S x S⟩:Env).S j=r.S j from e]at d;exact c.sep.ownS j R u b d
 ·rcases n j R f with⟨B,_,e⟩|⟨o,q,u,e⟩<;>rcases n m H I with⟨F,_,C⟩|⟨T,U,L,C⟩
  ·exact K (B.trans F.symm)
  ·rw[show(⟨r.b,r.x,Zg r.S x S⟩:Env).S j=S from e]at d;rw[show(⟨r.b,r.x,Zg r.S x S⟩:Env).S m=r.S m from C]at g;exact far m H L T U b g d
  ·rw[show(⟨r.b,r.x,Zg r.S x S⟩:Env).S j=r.S j from e]at d;rw[show(⟨r.b,r.x,Zg r.S x S⟩:Env).S m=S from C]at g;exact far j R u o q b d g
  ·rw[show(⟨r.b,r.x,Zg r.S x S⟩:Env).S j=r.S j from e]at d;rw[show(⟨r.b,r.x,Zg r.S x S⟩:Env).S m=r.S m from C]at g;exact c.sep.disj j m R H u L K b d g
 ·rcases n m R I with⟨B,_,e⟩|⟨o,q,u,e⟩
  ·rw[show(⟨r.b,r.x,Zg r.S x S⟩:Env).S m=S from e]at d;exact d.elim (c.sep.apart j x p h f v) (c.sep.apart j y p i f z)
  ·rw[show(⟨r.b,r.x,Zg r.S x S⟩:Env).S m=r.S m from e]at d;exact c.sep.apart j m p R f u d
def yj(σ:St)(x y:Nat)(K:St->Prop):Prop:=ZO (Xq σ.rs x) λa=>ZO (Xq σ.rs y) λb=>Z6 (!Nat.beq x y) (K (Hc x y a b σ))
def QcU(σ:St)(x:Nat)(R:Res)(K:St->Prop):Prop:=ZO (Xq σ.rs x) λa=>(∀u S w,a.φ u S w->R.φ u S w)/\K (XL x R σ)
def cY{x y:Nat}{K:St->Prop}(h:yj σ x y K){w:xH}(g:Sat w0 σ r a w):∃c b,K c/\Sat w0 c b a w/\Ag σ r b/\σ.le c:=by
 let⟨m,i,h⟩:=QH h;let⟨n,j,h⟩:=QH h;let⟨f,h⟩:=Qq h;have d:x≠y:=λe=>by subst e;rw[Nat.beq_refl]at f;cases f
 let⟨b,k,l⟩:=ul i j d g;exact⟨_,b,h,k,l,⟨L4 _,by simp[Hc,XZ,Q0]⟩⟩
def ju{x:Nat}{K:St->Prop}(h:QcU σ x R K){w:xH}(d:Sat w0 σ r a w):∃c e,K c/\Sat w0 c e a w/\Ag σ r e/\σ.le c:=by
 let⟨i,f,j,h⟩:=QH h;let⟨k,l⟩:=d.see.rs x i f;exact⟨_,_,h,d.turn f (Trn.refl _ _) (j _ _ _ k) (λb g=>⟨.inl g,l b g⟩),AA r _,Dd x R⟩
end
mutual
def SV.sub(j:Nat)(v:y9):SV->SV
 |.val x=>.val x
 |.ptr b o=>.ptr b o
 |.sli b o n c=>.sli b o n c
 |.clo f l m=>.clo f (Bz j v l) (Bz j v m)
 |.agg l=>.agg (Bz j v l)
 |.tup l=>.tup (Bz j v l)
 |.han i=>match Nat.beq i j with
  |true=>.val v
  |false=>.han i
def Bz(j:Nat)(v:y9):List SV->List SV
 |[]=>[]
 |s::l=>s.sub j v::Bz j v l
end
mutual
theorem iD{r:Env}{j:Nat}{v:y9}(h:r.x j=v):∀s:SV,(s.sub j v).den r=s.den r
 |.val _=>rfl
 |.ptr _ _=>rfl
 |.sli _ _ _ _=>rfl
 |.clo f l m=>by simp only[SV.sub,SV.den,GG h l,GG h m]
 |.agg l=>by simp only[SV.sub,SV.den,GG h l]
 |.tup l=>by simp only[SV.sub,SV.den,GG h l]
 |.han i=>by
  simp only[SV.sub];split
  ·rename_i e;rw[Ld e];exact h.symm
  ·rfl
theorem GG{r:Env}{j:Nat}{v:y9}(h:r.x j=v):∀l:List SV,QO r (Bz j v l)=QO r l
 |[]=>rfl
 |s::l=>by simp only[Bz,QO,iD h s,GG h l]
end
mutual
def fY{β ξ:Nat->Bool}{j:Nat}{v:y9}:∀s:SV,s.ok β ξ=true->(s.sub j v).ok β ξ=true
 |.val _,h=>h
 |.ptr _ _,h=>h
 |.sli _ _ _ _,h=>h
 |.clo f l m,h=>by
  let⟨a,b⟩:=L5.1 h;exact L5.2 ⟨DP l a,DP m b⟩
 |.agg l,h=>DP l h
 |.tup l,h=>DP l h
 |.han i,h=>by
  simp only[SV.sub];split
  ·rfl
  ·exact h
def DP{β ξ:Nat->Bool}{j:Nat}{v:y9}:∀l:List SV,Dv β ξ l=true->Dv β ξ (Bz j v l)=true
 |[],_=>rfl
 |s::l,h=>by
  let⟨a,b⟩:=L5.1 h;exact L5.2 ⟨fY s a,DP l b⟩
end
def Bn(j:Nat)(v:y9)(σ:St):St:={ σ with ts:=σ.ts.map λp=>(p.1,p.2.sub j v),bs:=σ.bs.map λo=>o.map λp=>(p.1,Bz j v p.2) }
theorem Wo{j:Nat}{v:y9}:∀ {l:List (Nat×SV)} {k:Nat} {s:SV},Yv k (l.map λp=>(p.1,p.2.sub j v))=some s->∃a,Yv k l=some a/\s=a.sub j v
 |[],_,_,h=>by cases h
 |(i,u)::l,k,s,h=>by
  simp only[List.map_cons,Yv]at h ⊢;cases e:Nat.beq i k with
  |true =>
   grind
  |false =>
   rw[e]at h;exact Wo (l:=l) h
def RD{j:Nat}{v:y9}:∀ {l:List (Option (o0×List SV))} {i:Nat} {t:o0} {cs:List SV},Xq (l.map λo=>o.map λp=>(p.1,Bz j v p.2)) i=some (t,cs)->∃a,Xq l i=some (t,a)/\cs=Bz j v a
 |[],_,_,_,h=>by cases h
 |x::_,0,t,cs,h=>by
  cases x with
  |none=>cases h
  |some p =>
   let⟨d,a⟩:=p;have b:=o7 h;injection b with b c
   subst b;exact⟨a,rfl,c.symm⟩
 |_::l,i+1,t,cs,h=>RD (l:=l) (i:=i) h
section
variable{w0:xH}{σ:St}
theorem Sat.subst{w:xH}(h:Sat w0 σ r a w)(B:r.x j=v):Sat w0 (Bn j v σ) r a w:=by
 have m:(Bn j v σ).bs.length=σ.bs.length:=by simp[Bn]
 have o:∀s,σ.lt s=true->(Bn j v σ).lt (s.sub j v)=true:=λs hs=>by
  unfold St.lt at hs ⊢;rw[m];exact fY s hs
 have n:∀l,σ.ltL l=true->(Bn j v σ).ltL (Bz j v l)=true:=λl hs=>by
  unfold St.ltL at hs ⊢;rw[m];exact DP l hs
 have f:∀i p,Xq (Bn j v σ).bs i=some p->∃q,Xq σ.bs i=some q:=λi p c=>by
  let⟨d,b,_⟩:=RD (t:=p.1) (cs:=p.2) c
  grind
 refine⟨⟨h.see.low,h.see.size,λk s e=>?_,λi t cs c=>?_,h.see.rs,h.see.one⟩,⟨λi p c=>?_,λi k p q c e=>?_,h.sep.ownS,h.sep.disj,λi k p R c e=>?_⟩,h.defers⟩
 ·obtain⟨u,b,rfl⟩:=Wo e;let⟨g,y⟩:=h.see.ts k u b
  grind[iD]
 ·obtain⟨d,b,rfl⟩:=RD c;let⟨g,y⟩:=h.see.bs i t d b
  grind[GG]
 ·let⟨q,b⟩:=f i p c;exact h.sep.own i q b
 ·let⟨z,b⟩:=f i p c;let⟨A,g⟩:=f k q e;exact h.sep.inj i k z A b g
 ·let⟨z,b⟩:=f i p c;exact h.sep.apart i k z R b e
def nW(j:Nat)(v:y9)(σ:St):σ.le (Bn j v σ):=⟨by simp[Bn],L4 _⟩
def QdK(σ:St)(j:Nat)(val:β->y9)(R:β->Res)(K:(β->St)->Prop):Prop:=ZO (Xq σ.rs j) λρ=>(∀x S w,ρ.φ x S w->∃y,x=val y/\(R y).φ x S w)/\K λy=>Bn j (val y) (XL j (R y) σ)
def kn{val:β->y9}{R:β->Res}{K:(β->St)->Prop}(h:QdK σ j val R K){w:xH}(c:Sat w0 σ r a w):∃out y d,K out/\Sat w0 (out y) d a w/\Ag σ r d/\σ.le (out y):=by
 let⟨g,e,i,h⟩:=QH h;let⟨k,l⟩:=c.see.rs j g e;let⟨y,m,n⟩:=i _ _ _ k;refine⟨_,y,_,h,(c.turn e (Trn.refl _ _) n (λb f=>⟨.inl f,l b f⟩)).subst m,AA r _,((Dd j (R y)).trans (nW _ _ _))⟩
end
inductive Dir:Type 1 where
 |o (rid i:Nat) (x:DOp)
 |g (rid i:Nat) (b:Bool)
 |gb (rid i:Nat) (x y:List Dir)
 |reg (n:Nat) (late:List Nat)
 |br (b:Bool)
 |both (x y:List Dir)
 |loop {α:Type} (I:α->St) (C:α->Prop) (μ:α->Nat) (a0:α) (nx:α->Nat->α) (bd:α->List Dir)
 |next (k:Nat)
 |seq (rid i:Nat) (σ':St)
 |eff {β:Type} (rid i j:Nat) (val:β->Value) (R:β->Res) (bd:β->List Dir)
 |mk {β:Type} (rid i:Nat) (is:List Nat) (val:β->Value) (R:β->Res) (bd:β->List Dir)
 |inl (rid i:Nat) (fn:Func)
 |lop {α:Type} (I:α->St) (C:α->Prop) (μ:α->Nat) (a0:α) (nx:α->List Hp->α) (bd:α->List Dir)
 |nxt (u:List Hp)
 |row {α:Type} (rid i b:Nat) (ds:List Nat) (e k:Nat) (c:α->List Value) (l:List α) (bd:Hp->List Dir)
 |nil {α:Type} (rid i e k:Nat) (c:α->List Value)
 |join (rid i x y:Nat)
 |cnv (rid i x:Nat) (R:Res)
 |esc (at_:Nat)
 |opn {β:Type} (rid i j:Nat) (val:β->Value) (R:β->Res) (bd:β->List Dir)
 |unr (n:Nat)
 |fx {β:Type} (rid i j:Nat) (val:β->Value) (R:β->Res) (pn:Value->Prop) (bd:β->List Dir)
 |ord
 |pur (k:Nat)
 |orh (m:Nat) (l:List (Nat×TypeId×Nat×Value))
 |lod (k:Nat)
 |cut {α:Type} (rid:Nat) (I:α->St) (C:α->Prop) (nx:Nat->List Hp->α) (bd:α->List Dir)
 |nxc (k:Nat) (u:List Hp)
 |cas (rid i:Nat) (b:Bool) (x y:List Dir)
 |giv (rid i b j:Nat) (ds:List Nat) (bd:Nat->List Dir)
abbrev x03(r i:Nat)(v:Value):Dir:=.o r i (.set v)
abbrev x04(r i:Nat)(v:SV):Dir:=.o r i (.ret v)
abbrev x05(r i:Nat)(v:SV):Dir:=.o r i (.eq v)
abbrev x06(r i:Nat)(l:List Nat)(v:Value):Dir:=.o r i (.rd l v)
abbrev x07{β:Type}(r i j:Nat)(p:Value->Prop)(f:β->Value×Res×List Dir):Dir:=.fx r i j (λy=>(f y).1) (λy=>(f y).2.1) p λy=>(f y).2.2
abbrev x08{β:Type}(r i j:Nat)(f:β->Value×Res×List Dir):Dir:=.eff r i j (λy=>(f y).1) (λy=>(f y).2.1) λy=>(f y).2.2
abbrev x09{β:Type}(r i:Nat)(l:List Nat)(f:β->Value×Res×List Dir):Dir:=.mk r i l (λy=>(f y).1) (λy=>(f y).2.1) λy=>(f y).2.2
abbrev x0a{α:Type}(a:α)(n:α->List Hp->α)(f:α->St×Prop×Nat×List Dir):Dir:=.lop (λy=>(f y).1) (λy=>(f y).2.1) (λy=>(f y).2.2.1) a n λy=>(f y).2.2.2
def Gj(r j a i:Nat):Bool:=Nat.beq r a&&Nat.beq j i
def RP(P:xO)(tt:List (Nat×TI))(w0:xH)(a i:Nat)(o:Oper)(σ:St)(d:List Dir)(K:Out->List Dir->Prop):Prop:=match d with
 |.o r j x::d'=>bif Gj r j a i then qi P tt w0 σ o x (λout=>K out d')else mT tt σ o.op (λout=>K out d)
 |d=>mT tt σ o.op (λout=>K out d)
def fi(σ:St)(ops:Array Oper)(g:Nat):Option Bool:=match ops[g]? with
 |some a=>(match a.dst with
  |some t=>(match Yv t σ.ts with
   |some (.val (.bool x))=>some x
   |_=>none)
  |none=>none)
 |none=>none
def eM(σ:St)(ops:Array Oper)(g:Nat):Bool:=match ops[g]? with
 |some a=>(match a.dst with
  |some t=>(match Yv t σ.ts with
   |some (.val (.tuple _))=>true
   |_=>false)
  |none=>false)
 |none=>false
def uA(x c:Bool)(K:Bool->Prop):Prop:=match x with
 |true=>K c
 |false=>K (!c)
def Mi(ops:Array Oper)(o:Oper)(a i:Nat)(σ:St)(d:List Dir)(K:Bool->List Dir->Prop):Prop:=match o.guard with
 |none=>K true d
 |some (g,c)=>(match fi σ ops g with
  |some x=>(match d with
   |.g r j b::d'=>bif Gj r j a i then x=(bif b then c else !c)/\K b d' else uA x c λb=>K b d
   |.gb r j e dy::_=>bif Gj r j a i then(x=c->K true e)/\(x=(!c)->K false dy)else uA x c λb=>K b d
   |d=>uA x c λb=>K b d)
  |none=>Z6 (eM σ ops g) (K false d))
def rX(t:Nat)(c:Bool):List (Nat×SV)->List (Nat×SV)
 |[]=>[]
 |(k,v)::l=>bif Nat.beq k t then(match v with | .val (.bool _)=>(k,.val (.bool c))::l|v=>(k,v)::l)else(k,v)::rX t c l
def uz(ops:Array Oper)(o:Oper)(b:Bool)(σ:St):St:=match o.guard with
 |none=>σ
 |some (g,c)=>(match ops[g]? with
  |some a=>(match a.dst with
   |some t=>{ σ with ts:=rX t (bif b then c else !c) σ.ts }
   |none=>σ)
  |none=>σ)
def BF(d:Option Tmp)(n:Nat):Bool:=match d with
 |none=>true
 |some k=>Nat.blt k n
def fX(tt:List (Nat×TI))(σ:St)(t:o0)(x y:x0h)(K:St->Prop):Prop:=Vz σ x λs=>match s with
 |.ptr b o=>ZO (Xq σ.bs b) λp=>Vz σ y λu=>Hn tt t λti=>Z6 (Nat.beq u.cells.length ti.size&&Nat.ble (o+ti.size) p.2.length&&u.cells.all SV.okCell) (K { σ with bs:=GX σ.bs b (p.1,CD p.2 o u.cells) })
 |_=>False
def xR(P:xO)(w0:xH)(o:Oper)(σ d:St):Prop:=∀r a w,Sat w0 σ r a w->∀(Q:Exit->Act->xH->Prop) (next:Act->xH->Prop),(∀b c w',Sat w0 d b c w'->Ag σ r b->next c w')->o.wp P a w next Q
def GZ(t:o0)(l:o3):Sem y9:=match l with
 |[p,v]=>do Instr.storeAt t p v;pure undef
 |_=>stuck ""
def Gc(P:xO)(W:xH)(val:β->y9)(R:β->Res)(x:y9)(S:Nat->Prop)(m:Sem y9):Prop:=∃y a w',m.run P W=.ok (val y) w'/\Trn S W w'/\(R y).φ x a w'/\∀b,a b->(S b\/W.heap.size<=b)/\b<w'.heap.size
def EffP(P:xO)(w0:xH)(σ:St)(a:Res)(l:List SV)(m:o3->Sem y9)(val:β->y9)(R:β->Res):Prop:=∀W,Below w0.heap.size w0 W->TP σ W (Z7 l []) (λ_=>0) λβ =>
 cK (Dv (λb=>Zf b (Z7 l [])) (λ_=>false) l) (∀x S,a.φ x S W->Gc P W val R x S (m (QO (NF β) l)))
def II(P:xO)(w0:xH)(l:List Res)(val:β->y9)(R:β->Res)(m:Sem y9):Prop:=∀W,Below w0.heap.size w0 W->kE W l (Pf P W val R m)
def Kk(w0:xH)(val:β->y9)(R:β->Res)(c:y9->Prop)(x:y9)(S:Nat->Prop)(W:xH)(e:Ending)(w':xH):Prop:=(∃y a,e=.returned (val y)/\Trm w0 S W w'/\(R y).φ x a w'/\∀b,a b->(S b\/W.heap.size<=b)/\b<w'.heap.size)\/∃v,c v/\e=.panicked [{ v:=v,recovered:=false }]/\Trm w0 S W w'
def B8(P:xO)(w0:xH)(a:Res)(f:FuncId)(args:x0g)(val:β->y9)(R:β->Res)(c:y9->Prop):Prop:=Xt P f/\∀W,Below w0.heap.size w0 W->∀x S,(∀b,S b->w0.heap.size<=b/\b<W.heap.size)->a.φ x S W->Calls P f args W (Kk w0 val R c x S W)
def sU(σ:St)(w0 W:xH)(S:Nat->Prop):List Nat->(Nat->Nat)->((Nat->Nat)->Prop)->Prop
 |[],β,K=>K β
 |b::l,β,K=>match Xq σ.bs b with
  |some (t,cs)=>bif Dv (λ_=>false) (λ_=>false) cs then ∀g,Bx W g t (QO e0 cs).toArray->w0.heap.size<=g->¬ S g->sU σ w0 W S l (Zg β b g) K else False
  |none=>False
theorem N6{σ:St}{w0:xH}{r:Env}{a:Act}{W:xH}(d:Sat w0 σ r a W){j:Nat}{k:Res}(g:Xq σ.rs j=some k):∀ {l:List Nat} {β:Nat->Nat} {K:(Nat->Nat)->Prop},sU σ w0 W (r.S j) l β K->∃f,K f/\(∀b,b∈l->f b=r.b b)/\∀b,b ∉ l->f b=β b
 |[],β,K,h=>⟨β,h,λ_ h=>(nomatch h),λ_ _=>rfl⟩
 |c::l,β,K,h=>by
  unfold sU at h;split at h
  ·rename_i t cs e;let⟨m,h⟩:=YG h;have i:=(d.see.bs c t cs e).1;rw[Y7 m]at i;let⟨f,n,o,p⟩:=N6 d g (h _ i (d.sep.own c _ e) (d.sep.apart c j _ _ e g))
   grind[XB,Yd]
  ·exact h.elim
def sG(P:xO)(w0:xH)(σ:St)(a:Res)(f:FuncId)(l:List SV)(val:β->y9)(R:β->Res)(c:y9->Prop):Prop:=Xt P f/\∀W,Below w0.heap.size w0 W->∀x S,(∀b,S b->w0.heap.size<=b/\b<W.heap.size)->a.φ x S W ->
 sU σ w0 W S (Z7 l []) (λ_=>0) λγ=>cK (Dv (λb=>Zf b (Z7 l [])) (λ_=>false) l) (Calls P f (QO (NF γ) l).toArray W (Kk w0 val R c x S W))
def ZI:Res:=⟨λx _ _=>x.oneCell'=true,λ_ _ _ h=>h,λ_ _ _ _ _ h=>h⟩
abbrev pf:Type 1:=Func->List SV->St->List Dir->(SV->St->List Dir->Prop)->(SV->St->List Dir->Prop)->Prop
structure Cx:Type 1 where
 inl:pf
 pan:SV->St->List Dir->Prop
def Qfx(σ:St)(x:x0h)(K:SV->Prop):Prop:=Vz σ x λs=>match s with
 |.val (.iface _ _)=>K s
 |_=>False
def Qej(a i:Nat):List Dir->Bool
 |.seq r j _::_=>Gj r j a i
 |.eff r j _ _ _ _::_=>Gj r j a i
 |.mk r j _ _ _ _::_=>Gj r j a i
 |.inl r j _::_=>Gj r j a i
 |.fx r j _ _ _ _ _::_=>Gj r j a i
 |_=>false
def yO(P:xO)(H:Cx)(w0:xH)(o:Oper)(σ:St)(d:List Dir)(K:St->List Dir->Prop):Prop:=match d with
 |.seq _ _ g::d'=>xR P w0 o σ g/\Z6 (po σ g) (K g d')
 |.eff _ _ j val R e::_=>ZO (Xq σ.rs j) λi=>Z6 (BF o.dst σ.n) (match o.op with
  |.call c=>(match c.callee with
   |.builtin b=>lq σ c.args.toList λl=>EffP P w0 σ i l (Zo b c.argTypes o.type) val R/\∀y,K ((XL j (R y) σ).push o.dst (.val (val y))) (e y)
   |_=>False)
  |.store t x y=>lq σ [x,y] λl=>EffP P w0 σ i l (GZ t) (λ_=>undef) R/\∀y,K ((XL j (R y) σ).push o.dst (.val undef)) (e y)
  |.slice t x q r u=>lq σ [x] λl=>vO σ q λa=>vO σ r λb=>vO σ u λc=>EffP P w0 σ i l (λl=>Instr.sliceAt t (l.headD undef) a b c) val R/\∀y,K ((XL j (R y) σ).push o.dst (.val (val y))) (e y)
  |.next w k=>lq σ [w] λl=>EffP P w0 σ i l (λl=>Instr.next (l.headD undef) k o.type) val R/\∀y,K ((XL j (R y) σ).push o.dst (.val (val y))) (e y)
  |_=>False)
 |.mk _ _ z val R e::_=>Z6 (BF o.dst σ.n) (d8 σ z λm=>match o.op with
  |.call c=>(match c.callee with
   |.builtin b=>vL σ c.args.toList λl=>II P w0 m val R (Zo b c.argTypes o.type l)/\∀y,K ((Vk (R y) σ).push o.dst (.val (val y))) (e y)
   |_=>Ki σ c λf l=>Z6 (Dv (λ_=>false) (λ_=>false) l) (NewIn P w0 m f (QO e0 l).toArray val R/\∀y,K ((Vk (R y) σ).push o.dst (.val (val y))) (e y)))
  |.makeSlice t x y=>v1 σ x λa=>v1 σ y λb=>II P w0 m val R (Instr.makeSlice t a b)/\∀y,K ((Vk (R y) σ).push o.dst (.val (val y))) (e y)
  |.convert s t x=>v1 σ x λa=>II P w0 m val R (Go.convert s t a)/\∀y,K ((Vk (R y) σ).push o.dst (.val (val y))) (e y)
  |.range t x=>v1 σ x λa=>II P w0 m val R (Instr.range t a)/\∀y,K ((Vk (R y) σ).push o.dst (.val (val y))) (e y)
  |_=>False)
 |.inl _ _ fn::d'=>(match o.op with
  |.call c=>Ki σ c λf l=>P.funcs[f]?=some fn/\Xt P f/\Z6 (σ.ltL l&&BF o.dst σ.n) (H.inl fn l σ d' (λs g h=>K (({ σ with bs:=g.bs,rs:=g.rs }:St).push o.dst s) h) λs g h=>H.pan s { σ with bs:=g.bs,rs:=g.rs } h)
  |_=>False)
 |.fx _ _ j val R p e::_=>ZO (Xq σ.rs j) λi=>Z6 (BF o.dst σ.n) (match o.op with
  |.call c=>Ki σ c λf l=>sG P w0 σ i f l val R p/\(∀y,K ((XL j (R y) σ).push o.dst (.val (val y))) (e y))/\∀v,p v->H.pan (.val v) (XL j ZI σ) []
  |_=>False)
 |_=>False
def JU(a i:Nat):Nat->St->List Dir->(St->List Dir->Prop)->Prop
 |0,σ,d,K=>K σ d
 |n+1,σ,d,K=>match d with
  |.row r j b ds e k c l f::d'=>(match Gj r j a i with
   |true=>Qd6 σ b ds e k c l λout=>∀y,JU a i n (out y) (f y) K
   |false=>K σ (.row r j b ds e k c l f::d'))
  |.nil r j e k c::d'=>(match Gj r j a i with
   |true=>JU a i n (Vk (Qc e k c [] none 0) σ) d' K
   |false=>K σ (.nil r j e k c::d'))
  |.join r j x y::d'=>(match Gj r j a i with
   |true=>yj σ x y λm=>JU a i n m d' K
   |false=>K σ (.join r j x y::d'))
  |.cnv r j x R::d'=>(match Gj r j a i with
   |true=>QcU σ x R λm=>JU a i n m d' K
   |false=>K σ (.cnv r j x R::d'))
  |.opn r h j val R f::d'=>(match Gj r h a i with
   |true=>QdK σ j val R λout=>∀y,JU a i n (out y) (f y) K
   |false=>K σ (.opn r h j val R f::d'))
  |.giv r h b j ds f::d'=>(match Gj r h a i with
   |true=>Qc9 σ b j ds λout=>∀g,JU a i n (out g) (f g) K
   |false=>K σ (.giv r h b j ds f::d'))
  |.cas r j b x y::d'=>(match Gj r j a i with
   |true=>(b=true->JU a i n σ x K)/\(b=false->JU a i n σ y K)
   |false=>K σ (.cas r j b x y::d'))
  |d=>K σ d
def iA(P:xO)(tt:List (Nat×TI))(H:Cx)(w0:xH)(a i:Nat)(o:Oper)(σ:St)(d:List Dir)(K:St->List Dir->Prop):Prop:=match Qej a i d with
 |true=>yO P H w0 o σ d K
 |false=>(match o.op with
  |.store t x y=>Z6 (BF o.dst σ.n) (fX tt σ t x y λb=>K (b.push o.dst (.val undef)) d)
  |.panic x=>Qfx σ x λs=>H.pan s σ d
  |_=>Z6 (BF o.dst σ.n) (RP P tt w0 a i o σ d λout c=>Z6 (σ.fits out) (K ((σ.grow out).push o.dst out.s) c)))
def KC(P:xO)(tt:List (Nat×TI))(H:Cx)(w0:xH)(a:Nat)(ops:Array Oper):List Oper->Nat->St->List Dir->(St->List Dir->Prop)->Prop
 |[],_,σ,d,K=>K σ d
 |o::l,i,σ,d,K=>Mi ops o a i σ d λb d=>(λσ=>match b with
  |true=>JU a i 4 σ d λσ d=>iA P tt H w0 a i o σ d λσ d=>KC P tt H w0 a ops l (i+1) σ d K
  |false=>Z6 (BF o.dst σ.n) (KC P tt H w0 a ops l (i+1) (σ.push o.dst (.val undef)) d K)) (uz ops o b σ)
variable{d:Option Tmp}{H:Cx}
section
variable{P:xO}{tt:List (Nat×TI)}{w0:xH}{σ:St}
def OS(c:YF P tt){a i:Nat}{d:List Dir}{K:Out->List Dir->Prop}(e:∀out d,K out d->σ.fits out=true)(h:RP P tt w0 a i o σ d K):∃b,bh P w0 o σ λout=>K out b:=by
 unfold RP at h;split at h
 ·rename_i r j x b;cases f:Gj r j a i with
  |true=>rw[f]at h;exact⟨b,Qa0 c (λout=>e out b) h⟩
  |false=>rw[f]at h;exact⟨_,dM c (λout=>e out _) h⟩
 ·exact⟨_,dM c (λout=>e out _) h⟩
theorem IM{g:Nat}{x:Bool}(h:fi σ ops g=some x){w:xH}(b:See w0 σ r a w):yielded ops a.tmps g=some x:=by
 unfold fi at h;split at h
 ·rename_i j c;split at h
  ·rename_i t d;split at h
   ·rename_i y e;obtain rfl:=o7 h;have k:=(b.ts _ _ e).1;unfold yielded;rw[c,Ti,d,Ti];have f:a.tmps[t]?=some (.bool y):=by
     rcases R5 t a.tmps.size with i|i
     all_goals simp_all[SV.den,undef]
    rw[f]
   ·cases h
  ·cases h
 ·cases h
theorem aM{g:Nat}(h:eM σ ops g=true){w:xH}(d:See w0 σ r a w):yielded ops a.tmps g=none:=by
 unfold eM at h;split at h
 ·rename_i k e;split at h
  ·rename_i t f;split at h
   ·rename_i y i;have b:=(d.ts _ _ i).1;unfold yielded;rw[e,Ti,f,Ti];rcases R5 t a.tmps.size with c|c
    ·have j:a.tmps[t]?=some (.tuple y):=by simp[c]at b ⊢;exact b
     rw[j]
    grind
   ·cases h
  ·cases h
 ·cases h
theorem BW{l i:Nat}{d:List Dir}{K:Bool->List Dir->Prop}(h:Mi ops o l i σ d K):∃b m,K b m/\∀r a w,See w0 σ r a w->Region.wanted o (yielded ops a.tmps)=b:=by
 unfold Mi at h;split at h
 ·rename_i q
  grind[Region.wanted]
 ·rename_i g c q;split at h
  ·rename_i x t;have key:∀r a w,See w0 σ r a w->Region.wanted o (yielded ops a.tmps)=(x==c):=λr a w k=>by
    grind[IM,Region.wanted]
   have f:∀d,uA x c (λb=>K b d)->∃b m,K b m/\∀r a w,See w0 σ r a w->Region.wanted o (yielded ops a.tmps)=b:=λd h=>by
    cases x with
    |true=>exact⟨c,d,h,λr a w k=>by rw[key r a w k];cases c<;>rfl⟩
    |false=>exact⟨!c,d,h,λr a w k=>by rw[key r a w k];cases c<;>rfl⟩
   split at h
   ·rename_i p j b m;cases n:Gj p j l i with
    |true =>
     grind
    |false=>rw[n]at h;exact f _ h
   ·rename_i p j s dy _;cases n:Gj p j l i with
    |true =>
     rw[n]at h;by_cases e:x=c
     ·exact⟨true,s,h.1 e,λr a w k=>by rw[key r a w k,e];simp⟩
     ·exact⟨false,dy,h.2 (by cases x<;>cases c<;>simp_all),λr a w k=>by rw[key r a w k];simpa using e⟩
    |false=>rw[n]at h;exact f _ h
   ·exact f _ h
  grind[Qq,Region.wanted,aM]
theorem iT{t:Nat}{c:Bool}:∀ {l:List (Nat×SV)},(∀x,Yv t l=some (.val (.bool x))->x=c)->rX t c l=l
 |[],_=>rfl
 |(k,v)::l,h=>by
  unfold rX;cases a:Nat.beq k t with
  |true =>
   grind[Yv]
  |false =>
   show(k,v)::rX t c l=_;rw[iT λx b=>h x (by unfold Yv;rw[a];exact b)]
def gt{b:Bool}{w:xH}(h:See w0 σ r a w)(d:Region.wanted o (yielded ops a.tmps)=b):uz ops o b σ=σ:=by
 unfold uz;split
 ·rfl
 ·rename_i g c e;split
  ·rename_i i j;split
   ·rename_i t k;rw[iT];intro x l;have m:=IM (ops:=ops) (g:=g) (x:=x) (by unfold fi;rw[j];show(match i.dst with|some t=>_|none=>_)=_;rw[k];show(match Yv t σ.ts with|some (.val (.bool x))=>some x|_=>none)=_;rw[l]) h;unfold Region.wanted at d;rw[e]at d;have f:(yielded ops a.tmps g==some c)=b:=d;rw[m]at f;cases x<;>cases c<;>cases b<;>first|rfl|exact absurd f x4
   ·rfl
  ·rfl
def tM{n:Nat}(h:BF d n=true):∀k,d=some k->k<n:=by
 rintro k rfl;exact Xa h
def Sat.put{w:xH}(h:Sat w0 σ r a w)(b:BF d σ.n=true)(hs:σ.lt s=true):Sat w0 (σ.push d s) r (a.put d (s.den r)) w:=by
 refine⟨h.see.push (tM b) hs,?_,?_⟩
 ·let⟨c,e,f,g,i⟩:=h.sep;cases d<;>exact⟨c,e,f,g,i⟩
 ·have:=h.defers;cases d<;>exact this
def Sat.yield{w w':xH}(h:Sat w0 σ r a w){o:Out}{γ:Gh}(b:Below w.heap.size w w')(c:σ.fits o=true)(f:BF d σ.n=true)(e:Made (r.add' σ γ) o γ w w'):
  Sat w0 ((σ.grow o).push d o.s) (r.add' σ γ) (a.put d (o.s.den (r.add' σ γ))) w':=by
 have g:=h.see.grow b c e;have i:=h.sep.grow h.see b e;exact Sat.put ⟨g,i,h.defers⟩ f (tU c)
def Cu(w0:xH)(σ:St)(r:Env)(w:xH):Prop:=Sat w0 ⟨0,[],σ.bs,σ.rs⟩ r ⟨#[],[]⟩ w
def Sat.mem{w:xH}(h:Sat w0 σ r a w):Cu w0 σ r w :=
 ⟨⟨h.see.low,rfl,(λ_ _ h=>nomatch h),h.see.bs,h.see.rs,h.see.one⟩,⟨h.sep.own,h.sep.inj,h.sep.ownS,h.sep.disj,h.sep.apart⟩,rfl⟩
def Sat.back{σ':St}{c:Env}{w w':xH}(h:Sat w0 σ r a w)(b:Cu w0 σ' c w')(e:σ.le σ')(g:Ag σ r c):Sat w0 { σ with bs:=σ'.bs,rs:=σ'.rs } c a w':=by
 refine⟨⟨b.see.low,h.see.size,λk s j=>?_,b.see.bs,b.see.rs,b.see.one⟩,⟨b.sep.own,b.sep.inj,b.sep.ownS,b.sep.disj,b.sep.apart⟩,h.defers⟩;let⟨l,f⟩:=h.see.ts k s j;exact⟨by rw[g.den f];exact l,KW (λi d=>YQ (L9 (Xa d) e.1)) (λi d=>YQ (L9 (Xa d) e.2)) s f⟩
def NC(P:xO)(w0:xH)(H:pf):Prop:=∀fn l σ d K Kp,H fn l σ d K Kp->∀f,P.funcs[f]?=some fn->σ.ltL l=true->∀r w,Cu w0 σ r w->∀R:Ending->xH->Prop,
 (∀s a c b w',K s a c->Cu w0 a b w'->Ag σ r b->σ.le a->a.lt s=true->R (.returned (s.den b)) w') ->
 (∀s a c b w',Kp s a c->Cu w0 a b w'->Ag σ r b->σ.le a->a.lt s=true->R (.panicked [{ v:=s.den b,recovered:=false }]) w')->Calls P f (QO r l).toArray w R
def PanTo(w0:xH)(H:Cx)(σ:St)(r:Env)(Q:Exit->Act->xH->Prop):Prop:=∀s a d b c w',H.pan s a d->Sat w0 a b c w'->Ag σ r b->σ.le a->a.lt s=true->Q (.panic [{ v:=s.den b,recovered:=false }]) c w'
def PanTo.later{c:St}{d:Env}{Q:Exit->Act->xH->Prop}(h:PanTo w0 H σ r Q)(f:Ag σ r d)(e:σ.le c):PanTo w0 H c d Q :=
 λs g i j k l m n a b hs=>h s g i j k l m n (f.trans e a) (e.trans b) hs
def EffP.use{d:Res}{l:List SV}{m:o3->Sem y9}{val:β->y9}{R:β->Res}(h:EffP P w0 σ d l m val R){w:xH}{j:Nat}(c:Sat w0 σ r a w)(e:Xq σ.rs j=some d):
  ∃y w' f,(m (QO r l)).run P w=.ok (val y) w'/\Sat w0 (XL j (R y) σ) f a w'/\Ag σ r f:=by
 let⟨i,k,n,_⟩:=Gz c.see (h w c.see.low);let⟨o,g⟩:=GC k;have p:QO (NF i) l=QO r l:=XH (λb=>Zf b (Z7 l [])) (λ_=>false) (λb q=>n b (memB_mem.1 q)) (λ_ h=>nomatch h) l o;rw[p]at g;let⟨y,x,w',s,t,u,v⟩:=g _ _ (c.see.rs j d e).1;exact⟨y,w',_,s,c.turn e t u v,AA r _⟩
theorem kR{t:o0}{p u:y9}{w w':xH}(h:(GZ t [p,v]).run P w=.ok u w'):(Instr.storeAt t p v).run P w=.ok () w':=by
 unfold GZ at h;rw[xQ]at h;cases e:(Instr.storeAt t p v).run P w with
 |ok x a =>
  simp_all
 |halt x a=>rw[e]at h;cases h
theorem JC:∀(a:o3) (k:Nat) (w:xH) (g b:Nat),b≠g->(Dr w g k a).heap[b]?=w.heap[b]?
 |[],_,_,_,_,_=>rfl
 |v::a,k,w,g,b,h=>(JC a (k+1) (w.setCell ⟨g,k,none⟩ v) g b h).trans (Sr w ⟨g,k,none⟩ v b h)
def kO(Z:YF P tt){t:o0}{x:x0h}(ho:o.op=.store t x y){K:St->Prop}(h:fX tt σ t x y K)(hd:BF o.dst σ.n=true):
  ∃H,K H/\σ.le H/\xR P w0 o σ (H.push o.dst (.val undef)):=by
 let⟨s,h1,h⟩:=QI h;split at h
 case h_2=>exact h.elim
 rename_i b p;let⟨⟨bt,cs⟩,C,h⟩:=QH h;let⟨u,h3,h⟩:=QI h;let⟨ti,h4,h⟩:=Xz Z h;let⟨I,h⟩:=Qq h;let⟨I,c3⟩:=L5.1 I;let⟨J,L⟩:=L5.1 I;have J:=Ld J;have L:=L8 L;refine⟨_,h,⟨by simp[XZ],L4 _⟩,λr a w f Q next hn=>?_⟩;let⟨e1,l1⟩:=QB f.see h1;let⟨e3,M⟩:=QB f.see h3;let⟨V,N⟩:=f.see.bs b bt cs C;have d:=Fd f.see M;have O:(u.den r).cells.size=ti.size:=by rw[<- Si,<- d,KO,J]
 have D:=Vo P t p _ h4 V O (by rw[KO];exact L) (λv W=>by
  rw[<- d,XI]at W;obtain⟨z,X,rfl⟩:=Lv.1 W;exact dK f.see (okL_all.1 (IS M) z X) (Lg.1 c3 z X))
 unfold Oper.wp;have g:(execOp a.eval o).run P w=.ok .skip (Dr w (r.b b) p (u.den r).cells.toList):=by
  unfold execOp;rw[ho];simp only[e1,e3,SV.den,xQ,D,xT];rfl
 rw[g];refine hn r _ _ (Sat.put (s:=.val undef) ⟨?_,?_,f.defers⟩ hd rfl) (Ag.refl _ _)
 ·have E:=f.sep.own b _ C;have A:∀i q,Xq σ.bs i=some q->i≠b->r.b i≠r.b b:=λi q c A=>f.sep.inj i b _ _ c C A
  refine⟨sq E _ _ f.see.low,f.see.size,λk s hk=>(by have m:=f.see.ts k s hk;simp only[St.lt,XZ]at m ⊢;exact m),λi t' S c=>?_,λi R c=>?_,f.see.one⟩
  ·have T:∀l,({ σ with bs:=GX σ.bs b (bt,CD cs p u.cells) }:St).ltL l=σ.ltL l:=λl=>by simp only[St.ltL,XZ]
   rw[T];by_cases e:i=b
   ·subst e;rw[Hm C]at c;simp only[Option.some.injEq,Prod.mk.injEq]at c;obtain⟨rfl,rfl⟩:=c;have m:=Bx.stores (u.den r).cells.toList p V;have hs:QO r (CD cs p u.cells)=CD (QO r cs) p (QO r u.cells):=by simp only[XI,IA]
    rw[WX,<- d,<- hs]at m;rw[<- d];exact⟨m,Iu N (IS M)⟩
   ·rw[Bm e]at c;let⟨m,U⟩:=f.see.bs i t' S c;exact⟨Bx.farN (A i _ c e) _ _ m,U⟩
  ·let⟨m,U⟩:=f.see.rs i R c;refine⟨R.loc _ _ _ _ (λY B=>JC _ _ _ _ _ λe=>f.sep.apart b i _ _ C c (e▸B)) m,λY B=>?_⟩;rw[Jd];exact U Y B
 ·have g:∀i q,Xq (GX σ.bs b (bt,CD cs p u.cells)) i=some q->∃F,Xq σ.bs i=some F:=λi q c=>by
   by_cases e:i=b
   ·subst e;exact⟨_,C⟩
   ·rw[Bm e]at c;exact⟨_,c⟩
  let⟨s1,s2,s3,s4,s5⟩:=f.sep;refine⟨λi q c=>?_,λi j q F c G=>?_,s3,s4,λi j q R c G=>?_⟩
  ·let⟨F,c⟩:=g i q c;exact s1 i F c
  ·let⟨z,c⟩:=g i q c;let⟨z',G⟩:=g j F G;exact s2 i j z z' c G
  ·let⟨z,c⟩:=g i q c;exact s5 i j z R c G
def au(hT:YF P tt)(hH:NC P w0 H.inl){ad i:Nat}{d:List Dir}{K:St->List Dir->Prop}(h:iA P tt H w0 ad i o σ d K):
  ∀r a w,Sat w0 σ r a w->∀(Q:Exit->Act->World->Prop) (next:Act->World->Prop),PanTo w0 H σ r Q->(∀F U A T w',K F U->Sat w0 F A T w'->Ag σ r A->σ.le F->next T w')->o.wp P a w next Q:=by
 unfold iA at h;split at h
 ·unfold yO at h;split at h
  ·rename_i F U;intro r a w hS Q next L q
   let⟨V,n⟩:=Qq h.2;exact h.1 r a w hS Q next λA T w' g k=>q _ _ A T w' n g k (nV V)
  ·rename_i _ _ j val R bd _ _;intro r a w hS Q next L q
   let⟨R0,D,h⟩:=QH h;let⟨hd,h⟩:=Qq h;have E:∀ {op:Op},o.op=op->∀N,execOp N o=execOp N { o with op:=op }:=λe N=>by rw[<- e]
   split at h
   ·rename_i c e;split at h
    ·rename_i b G;let⟨l,⟨h,n⟩,g⟩:=Ju w0 h;let⟨y,w',A,k,p,B⟩:=h.use hS D;have C:(execOp a.eval o).run P w=.ok (.value (val y)) w':=by
      rw[E e];unfold execOp
      unfold Zo at k;split at k;all_goals first|(simp[resolve,G,invoke,builtin,Kg _ _ _ (g r a w hS.see).1,k];done)|(cases k;done)
     unfold Oper.wp;rw[C];exact q _ _ A _ w' (n y) (Sat.put (s:=.val _) p hd rfl) B ((Dd j _).trans (YK _ _ _))
    ·exact h.elim
   ·rename_i t x y0 e;let⟨l,⟨h,n⟩,g⟩:=Ju w0 h;let⟨y,w',A,k,p,B⟩:=h.use hS D;rw[<- (g r a w hS.see).1]at k;have I:=kR k;have C:(execOp a.eval o).run P w=.ok .skip w':=by
     rw[E e];unfold execOp
     simp only[xQ,I,xT];rfl
    unfold Oper.wp;rw[C];exact q _ _ A _ w' (n y) (Sat.put (s:=.val undef) p hd rfl) B ((Dd j _).trans (YK _ _ _))
   ·rename_i t x lo hi mx e;let⟨l,h,g⟩:=Ju w0 h;let⟨va,h,ha⟩:=Dl w0 h;let⟨vb,h,M⟩:=Dl w0 h;let⟨vc,⟨h,n⟩,G⟩:=Dl w0 h;let⟨y,w',A,k,p,B⟩:=h.use hS D;rw[<- (g r a w hS.see).1,<- ha r a w hS.see,<- M r a w hS.see,<- G r a w hS.see]at k;unfold Oper.wp;rw[show execOp a.eval o=(do pure (.value (<- Instr.sliceAt t (([x].map a.eval).headD undef) (lo.map a.eval) (hi.map a.eval) (mx.map a.eval))):Sem Next)by rw[E e];rfl,XS k];exact q _ _ A _ w' (n y) (Sat.put (s:=.val _) p hd rfl) B ((Dd j _).trans (YK _ _ _))
   ·rename_i it ag e;let⟨l,⟨h,n⟩,g⟩:=Ju w0 h;let⟨y,w',A,k,p,B⟩:=h.use hS D;rw[<- (g r a w hS.see).1]at k;unfold Oper.wp;rw[show execOp a.eval o=(do pure (.value (<- Instr.next (([it].map a.eval).headD undef) ag o.type)):Sem Next)by rw[E e];rfl,XS k];exact q _ _ A _ w' (n y) (Sat.put (s:=.val _) p hd rfl) B ((Dd j _).trans (YK _ _ _))
   ·exact h.elim
  ·rename_i _ _ is val R bd _ _;intro r a w hS Q next L q
   let⟨hd,h⟩:=Qq h;let⟨m,h,J⟩:=DM w0 h;have E:∀ {op:Op},o.op=op->∀N,execOp N o=execOp N { o with op:=op }:=λe N=>by rw[<- e]
   have O:∀ {s:Sem Value},II P w0 m val R s->execOp a.eval o=(do pure (.value (<- s)):Sem Next)->(∀y,K ((Vk (R y) σ).push o.dst (.val (val y))) (bd y))->o.wp P a w next Q:=λ{s} g k n=>by
    let⟨y,x,S,w',p,B,C,I⟩:=J r a w _ hS.see (g w hS.see.low);unfold Oper.wp;rw[k,XS p];exact q _ _ _ _ w' (n y) (Sat.put (s:=.val _) (hS.fresh B C I) hd rfl) (Ag.add _ _ _) ((P1 _).trans (YK _ _ _))
   split at h
   ·rename_i c e;split at h
    ·rename_i b G;let⟨l,⟨h,n⟩,g⟩:=Br w0 h;let⟨y,x,S,w',p,B,C,I⟩:=J r a w _ hS.see (h w hS.see.low);have h7:(execOp a.eval o).run P w=.ok (.value (val y)) w':=by
      rw[E e];unfold execOp
      unfold Zo at p;split at p;all_goals first|(simp[resolve,G,invoke,builtin,Kg _ _ _ (g r a w hS.see),p];done)|(cases p;done)
     unfold Oper.wp;rw[h7];exact q _ _ _ _ w' (n y) (Sat.put (s:=.val _) (hS.fresh B C I) hd rfl) (Ag.add _ _ _) ((P1 _).trans (YK _ _ _))
    ·let⟨f,l,h,_,W⟩:=YC P w0 h;let⟨p1,⟨X,G⟩,n⟩:=Qq h;unfold Oper.wp;rw[W o e X r a w hS.see,Y7 p1];show Calls P f _ w _;refine(J r a w _ hS.see (G w hS.see.low)).mono ?_
     rintro e w' ⟨y,x,S,rfl,C,I,B⟩;exact q _ _ _ _ w' (n y) (Sat.put (s:=.val _) (hS.fresh B C I) hd rfl) (Ag.add _ _ _) ((P1 _).trans (YK _ _ _))
   ·rename_i t x y e;let⟨v,h,g⟩:=Xr w0 h;let⟨u,h,k⟩:=Xr w0 h;exact O h.1 (by rw[E e];unfold execOp;simp only[g r a w hS.see,k r a w hS.see]) h.2
   ·rename_i s t x e;let⟨v,h,g⟩:=Xr w0 h;exact O h.1 (by rw[E e];unfold execOp;simp only[g r a w hS.see]) h.2
   ·rename_i t x e;let⟨v,h,g⟩:=Xr w0 h;exact O h.1 (by rw[E e];unfold execOp;simp only[g r a w hS.see]) h.2
   ·exact h.elim
  ·rename_i fn U _;split at h
   ·rename_i c e;let⟨f,l,h,_,W⟩:=YC P w0 h;let⟨hf,X,h⟩:=h;let⟨V,h⟩:=Qq h;let⟨V,hd⟩:=L5.1 V;intro r a w hS Q next L q
    unfold Oper.wp;rw[W o e X r a w hS.see];show Calls P f _ w _;refine hH fn l σ U _ _ h f hf V r w hS.mem _ (λs F Y A w' n J Z z hs=>?_) λs F Y A w' n J Z z hs=>L s _ Y A a w' n (hS.back J z Z) Z ⟨z.1,z.2⟩ hs
    exact q _ _ A _ w' n ((hS.back J z Z).put hd hs) Z (St.le.trans (σ':={ σ with bs:=F.bs,rs:=F.rs }) ⟨z.1,z.2⟩ (YK _ _ _))
   ·exact h.elim
  ·rename_i _ _ j val R pn bd _ _;intro r a w hS Q next L q
   let⟨R0,D,h⟩:=QH h;let⟨hd,h⟩:=Qq h;split at h
   ·rename_i c e;let⟨f,l,h,_,W⟩:=YC P w0 h;let⟨⟨X,G⟩,n,hp⟩:=h;have hR:=hS.see.rs j R0 D;let⟨γ,g,k,_⟩:=N6 hS D (G w hS.see.low _ _ (λb M=>⟨hS.sep.ownS j R0 D b M,hR.2 b M⟩) hR.1);let⟨c1,p⟩:=GC g;have e1:QO (NF γ) l=QO r l:=XH (λb=>Zf b (Z7 l [])) (λ_=>false) (λb M=>k b (memB_mem.1 M)) (λ_ h=>nomatch h) l c1;rw[e1]at p;unfold Oper.wp;rw[W o e X r a w hS.see];show Calls P f _ w _;refine p.mono ?_
    rintro e w' (⟨y,S',rfl,C,I,h7⟩|⟨v,hv,rfl,C⟩)
    ·exact q _ _ _ _ w' (n y) (Sat.put (s:=.val _) (hS.turm D C I h7) hd rfl) (AA r _) ((Dd j _).trans (YK _ _ _))
    ·exact L (.val v) _ _ _ a w' (hp v hv) (hS.turm (R':=ZI) (S':=λ_=>False) D C (hS.see.one j (XK D)) (λ_ h=>h.elim)) (AA r _) (Dd j _) rfl
   ·exact h.elim
  ·exact h.elim
 ·split at h
  ·rename_i t x y ho;let⟨hd,h⟩:=Qq h;let⟨F,g,z,k⟩:=kO (w0:=w0) hT ho h hd;exact λr a w hS Q next _ q=>k r a w hS Q next λA T w' p B=>q _ _ A T w' g p B (z.trans (YK _ _ _))
  ·rename_i x e;let⟨s,g,h⟩:=QI h;split at h
   ·rename_i t v;intro r a w hS Q next L q
    have k:(execOp a.eval o).run P w=.halt (.panic (.iface t v)) w:=by
     have E:execOp a.eval o=execOp a.eval { o with op:=.panic x }:=by rw[<- e]
     rw[E];unfold execOp
     simp only[(QB hS.see g).1,SV.den,xQ];simp[Instr.panic,goPanic,go_sem]
    unfold Oper.wp;rw[k];exact L _ _ _ r a w h hS (Ag.refl _ _) (St.le.refl _) rfl
   ·exact h.elim
  ·let⟨hd,h⟩:=Qq h;let⟨U,out,g,k⟩:=OS hT (λout d h=>(Qq h).1) h;let⟨hf,p⟩:=Qq g;exact λr a w hw Q next _ q=>k r a w hw.see Q next λu γ w' hu M J=>by
    subst hu;exact q _ _ _ _ _ p (hw.yield M hf hd J) (Ag.add _ _ _) ((uo _ _).trans (YK _ _ _))
theorem DF{p i:Nat}{K:St->List Dir->Prop}:∀(n:Nat) {σ:St} {d:List Dir},JU p i n σ d K->∀r a w,Sat w0 σ r a w->∃k q l,K k q/\Sat w0 k l a w/\Ag σ r l/\σ.le k
 |0,σ,d,h,r,a,w,m=>⟨σ,d,r,h,m,Ag.refl _ _,St.le.refl _⟩
 |n+1,σ,d,h,r,a,w,m=>by
  have step:∀ {s:St} {t:List Dir} {r1:Env},JU p i n s t K->Sat w0 s r1 a w->Ag σ r r1->σ.le s->∃k q l,K k q/\Sat w0 k l a w/\Ag σ r l/\σ.le k:=λe o j f=>by
   obtain⟨u,v,z,k1,A,B,C⟩:=DF n e _ a w o;exact⟨u,v,z,k1,A,j.trans f B,f.trans C⟩
  have c:∀ {t:List Dir},K σ t->∃k q l,K k q/\Sat w0 k l a w/\Ag σ r l/\σ.le k:=λe=>⟨σ,_,r,e,m,Ag.refl _ _,St.le.refl _⟩
  unfold JU at h;split at h
  ·split at h
   ·obtain⟨e,o⟩:=kF (w0:=w0) h;obtain⟨y,l,j,f⟩:=e r a w m
    grind[Qap]
   grind
  ·split at h
   ·obtain⟨_,l,j,f⟩:=vh _ _ _ r a w m;exact step h j f (P1 _)
   ·exact c h
  ·split at h
   ·obtain⟨s,r1,e,o,j,f⟩:=cY h m;exact step e o j f
   ·exact c h
  ·split at h
   ·obtain⟨s,r1,e,o,j,f⟩:=ju h m;exact step e o j f
   ·exact c h
  ·split at h
   ·obtain⟨out,y,r1,e,o,j,f⟩:=kn h m;exact step (e y) o j f
   ·exact c h
  ·split at h
   ·obtain⟨out,e,o,j⟩:=jX (w0:=w0) h;obtain⟨g,l,f,D⟩:=o r a w m;exact step (e g) f D (j g)
   ·exact c h
  ·split at h
   ·rename_i b x y _ _ _;cases b with
    |true=>exact step (h.1 rfl) m (Ag.refl _ _) (St.le.refl _)
    |false=>exact step (h.2 rfl) m (Ag.refl _ _) (St.le.refl _)
   ·exact c h
  ·exact c h
def VA(q:YF P tt){H:Cx}(t:NC P w0 H.inl){u:Nat}{ops:Array Oper}:∀(l:List Oper) (i:Nat) (σ:St) (d:List Dir) (K:St->List Dir->Prop),KC P tt H w0 u ops l i σ d K ->
  ∀r a w,Sat w0 σ r a w->∀(Q:Exit->Act->xH->Prop),PanTo w0 H σ r Q->(∀v O k n w',K v O->Sat w0 v k n w'->Ag σ r k->σ.le v->Q .normal n w')->wpList P ops Q l a w
 |[],i,σ,d,K,h=>λr a w c Q _ p=>p σ d r a w h c (Ag.refl _ _) (St.le.refl _)
 |o::l,i,σ,d,K,h=>by
  let⟨b,R,x,y⟩:=BW (w0:=w0) h;intro r a w c Q z p;rw[gt c.see (y r a w c.see)]at x;cases b with
  |true =>
   unfold wpList;rw[if_pos (y r a w c.see)];let⟨W,S,r1,k1,T,M,A⟩:=DF 4 x r a w c;exact .inl (au q t k1 r1 a w T Q _ (z.later M A) λN U k n w' B C D E=>(λ(m:Ag σ r k) (e:σ.le N)=>VA q t l (i+1) N U K B k n w' C Q (z.later m e) λF d3 G I J L f g j=>p F d3 G I J L f (m.trans e g) (e.trans j)) (M.trans A D) (A.trans E))
  |false =>
   let⟨V,B⟩:=Qq x;unfold wpList;rw[if_neg (by rw[y r a w c.see];simp)];exact VA q t l (i+1) _ R K B r _ w (c.put (s:=.val undef) V rfl) Q (z.later (Ag.refl _ _) (YK _ _ _)) λF d3 G I J L f g j=>p F d3 G I J L f (g.le (YK _ _ _)) ((YK _ _ _).trans j)
end
structure Hd where
 d:Nat
 out:Out
 cl:List Nat
def Bv(ds:List Nat):List (Nat×SV)->List (Nat×SV)
 |[]=>[]
 |(k,s)::l=>bif Zf k ds then Bv ds l else(k,s)::Bv ds l
def sc(cl:List Nat):List Hd->Nat->List (Nat×SV)->List (Nat×SV)
 |[],_,t=>t
 |h::l,j,t=>bif Zf j cl then(h.d,h.out.s)::sc cl l (j+1) t else sc cl l (j+1) t
def xw(cl:List Nat):List Hd->Nat->List (Option (o0×List SV))
 |[],_=>[]
 |h::l,j=>(bif Zf j cl then h.out.b else none)::xw cl l (j+1)
def xy(cl:List Nat):List Hd->Nat->List (Option Res)
 |[],_=>[]
 |h::l,j=>(bif Zf j cl then h.out.r else none)::xy cl l (j+1)
def zg{α:Type}:List α->List α->List α
 |[],m=>m
 |x::l,m=>x::zg l m
def IL{α:Type}:∀l m:List α,zg l m=l++m
 |[],_=>rfl
 |x::l,m=>Lu (x::·) (IL l m)
def JS(σ:St)(base:List (Nat×SV))(hs:List Hd)(cl:List Nat):St:=⟨σ.n,sc cl hs 0 base,zg σ.bs (xw cl hs 0),zg σ.rs (xy cl hs 0)⟩
def iJ:List Hd->List (Nat×SV)->List (Nat×SV)
 |[],t=>t
 |h::l,t=>(h.d,h.out.s)::iJ l t
def iH:List Hd->List (Option (o0×List SV))
 |[]=>[]
 |h::l=>h.out.b::iH l
def iI:List Hd->List (Option Res)
 |[]=>[]
 |h::l=>h.out.r::iI l
def K1(σ:St)(hs:List Hd):St:=⟨σ.n,iJ hs σ.ts,zg σ.bs (iH hs),zg σ.rs (iI hs)⟩
def fw:List Hd->Nat->List Nat
 |[],_=>[]
 |h::_,0=>h.cl
 |_::l,n+1=>fw l n
def Uh:List Nat->List Nat->List Nat
 |[],m=>m
 |j::l,m=>bif Zf j m then Uh l m else Uh l (j::m)
theorem SU{x:Nat}:∀ {l m:List Nat},x∈Uh l m->x∈l\/x∈m
 |[],_,h=>.inr h
 |j::l,m,h=>by
  unfold Uh at h;cases e:Zf j m with
  |true=>rw[e]at h;exact(SU h).imp (T6 _) id
  |false =>
   rw[e]at h;rcases SU h with h|h
   all_goals grind
def jr(hs:List Hd):List Nat->List Nat
 |[]=>[]
 |j::l=>Uh (j::fw hs j) (jr hs l)
def dZ(n:Nat)(cl:List Nat)(b:Nat):Bool:=Nat.blt b n||(Nat.ble n b&&Zf (b-n) cl)
def p8(σ:St)(i:Nat)(cl:List Nat)(o:Out):Bool :=
 o.s.ok (dZ σ.bs.length (i::cl)) (dZ σ.rs.length (i::cl))&&(match o.b with|some (_,cs)=>Dv (dZ σ.bs.length cl) (dZ σ.rs.length cl) cs|none=>true)
def nQ(P:xO)(e j:Nat)(σ:St)(o:Op)(d:List Dir)(K:Out->List Dir->Prop):Prop:=match o with
 |.extract x i=>Vz σ x λs=>rJ s λl=>ZO (Gq l i) λc=>K (one c) d
 |.move x=>Vz σ x λs=>K (one s) d
 |.slice t x f none none=>(match d with
  |.o r i (.set v)::d'=>Z6 (Gj r i e j) (v1 σ x λa=>vO σ f λb=>(∀w,(Instr.sliceAt t a b none none).run P w=.ok v w)/\K (one (.val v)) d')
  |_=>False)
 |_=>False
def CQ(P:xO)(tt:List (Nat×TI))(w0:xH)(a:Nat)(ops:Array Oper)(late:List Nat)(σ:St)(base:List (Nat×SV)):List Oper->Nat->Nat->List Hd->List Dir->(List Hd->List Dir->Prop)->Prop
 |_,0,_,hs,d,K=>K hs d
 |[],_+1,_,_,_,_=>False
 |o::l,n+1,i,hs,d,K=>(λcl=>(λc=>Mi ops o a i c d λb d=>ZO o.dst λk=>match b with
  |true=>(match Zf i late with
   |true=>nQ P a i c o.op d λout d=>Z6 (c.fits out&&p8 σ i cl out) (CQ P tt w0 a ops late σ base l n (i+1) (Gt hs ⟨k,out,cl⟩) d K)
   |false=>RP P tt w0 a i o c d λout d=>Z6 (c.fits out&&p8 σ i cl out) (CQ P tt w0 a ops late σ base l n (i+1) (Gt hs ⟨k,out,cl⟩) d K))
  |false=>Z6 (!Zf i late) (CQ P tt w0 a ops late σ base l n (i+1) (Gt hs ⟨k,one (.val undef),cl⟩) d K)) (JS σ base hs cl)) (jr hs (eR o))
def DC:List Oper->Nat->List Nat
 |_,0=>[]
 |[],_+1=>[]
 |o::l,n+1=>(match o.dst with|some d=>d|none=>0)::DC l n
def Qbl(P:xO)(tt:List (Nat×TI))(e k:Nat)(o:Oper)(σ:St)(d:List Dir)(K:SV->List Dir->Prop):Prop:=match o.op with
 |.move x=>Vz σ x λs=>K s d
 |.nilCheck x=>Vz σ x λs=>match s with
  |.ptr b n=>K (.ptr b n) d
  |.val (.pointer (some p))=>K (.val (.pointer (some p))) d
  |_=>False
 |.fieldAddr t x f=>Vz σ x λs=>match s with
  |.ptr b n=>Hn tt t λti=>match ti.k with
   |.struct g=>ZO (Gq g f) λq=>Z6 (NO q.2.1) (K (.ptr b (n+q.1)) d)
   |_=>False
  |.val a=>(match d with
   |.o r i (.set v)::d'=>Z6 (Gj r i e k) ((∀w,(Instr.fieldAt t a f).run P w=.ok v w)/\K (.val v) d')
   |_=>False)
  |_=>False
 |.extract x i=>Vz σ x λs=>rJ s λl=>ZO (Gq l i) λc=>Z6 c.plain (K (.val (c.den e0)) d)
 |.indexAddr t x y=>v1 σ x λa=>v1 σ y λb=>match d with
  |.o r i (.set v)::d'=>Z6 (Gj r i e k) ((∀w,(Instr.indexAt t a b).run P w=.ok v w)/\K (.val v) d')
  |_=>False
 |.binOp f t x y _=>v1 σ x λa=>v1 σ y λb=>match d with
  |.o r i (.set v)::d'=>Z6 (Gj r i e k) ((∀w,(do eqGuard f t x y a b;binOp f t a b:Sem y9).run P w=.ok v w)/\K (.val v) d')
  |_=>False
 |.slice t x h none none=>v1 σ x λa=>vO σ h λb=>match d with
  |.o r i (.set v)::d'=>Z6 (Gj r i e k) ((∀w,(Instr.sliceAt t a b none none).run P w=.ok v w)/\K (.val v) d')
  |_=>False
 |_=>False
def tW(f:Nat->List Dir->Prop):List Nat->List Dir->Prop
 |[],_=>False
 |[i],d=>f i d
 |i::j::l,d=>match d with
  |.both x y::_=>f i x/\tW f (j::l) y
  |_=>False
def jw(p:Option (o0×List SV))(o:Nat):Option (o0×SV):=match p with
 |some (t,cs)=>(match Gq cs o with
  |some s=>some (t,s)
  |none=>none)
 |none=>none
def mR(σ:St):List (Nat×o0×Nat×y9)->Prop->Prop
 |[],p=>p
 |(i,t,n,v)::l,p=>jw (Xq σ.bs i) n=some (t,.val v)/\mR σ l p
def Qav(tt:List (Nat×TI))(l:List (Nat×o0×Nat×y9))(σ:St)(o:Op)(K:y9->Prop):Prop:=match o with
 |.load t x=>Vz σ x λs=>match s with
  |.ptr b n=>ZO (Yv b l) λc=>Hn tt t λti=>Z6 (!ti.k.agg&&Nat.beq c.2.1 n) (K c.2.2)
  |_=>False
 |_=>False
def NR(P:xO)(tt:List (Nat×TI))(H:Cx)(w0:xH)(a:Nat)(ops:Array Oper)(m:Nat)(c:List (Nat×o0×Nat×y9)):Nat->Array Bool->St->List Dir->(St->List Dir->Prop)->Prop
 |0,listed,σ,d,K=>match Region.ready .any ops listed with
  |[]=>K σ d
  |_=>False
 |n+1,listed,σ,d,K=>match Region.ready .any ops listed with
  |[]=>K σ d
  |i::l=>match d with
   |.pur k::d=>ZO ops[k]? λo=>ZO o.dst λt=>Z6 ((i::l).contains k&&Region.free .any ops listed k&&(match o.guard with|none=>true|_=>false)&&Nat.blt t σ.n&&!Nat.beq k m) (Qbl P tt a k o σ d λs d=>NR P tt H w0 a ops m c n (listed.setIfInBounds k true) (σ.push (some t) s) d K)
   |.lod k::d=>ZO ops[k]? λo=>ZO o.dst λt=>Z6 ((i::l).contains k&&Region.free .any ops listed k&&(match o.guard with|none=>true|_=>false)&&Nat.blt t σ.n&&!Nat.beq k m&&(Nat.ble ops.size m||RS ops 9 m k)) (Qav tt c σ o.op λv=>NR P tt H w0 a ops m c n (listed.setIfInBounds k true) (σ.push (some t) (.val v)) d K)
   |d=>tW (λi d=>ZO ops[i]? λo=>Mi ops o a i σ d λb d=>(λσ=>match b with
    |true=>JU a i 4 σ d λσ d=>iA P tt H w0 a i o σ d λσ d=>(λp=>bif Nat.beq i m then p else mR σ c p) (NR P tt H w0 a ops m c n (listed.setIfInBounds i true) σ d K)
    |false=>Z6 (BF o.dst σ.n) (NR P tt H w0 a ops m c n (listed.setIfInBounds i true) (σ.push o.dst (.val undef)) d K)) (uz ops o b σ)) (i::l) d
def Ix(P:xO)(tt:List (Nat×TI))(H:Cx)(w0:xH)(id:Nat)(ops:Array Oper)(σ:St)(d:List Dir)(K:St->List Dir->Prop):Prop:=match d with
 |.reg n late::d=>Z6 (oV ops.toList (DC ops.toList n) late σ.n) (CQ P tt w0 id ops late σ (Bv (DC ops.toList n) σ.ts) ops.toList n 0 [] d λhs d =>
  KC P tt H w0 id ops (ops.toList.drop n) n (K1 σ hs) d K)
 |.ord::d=>Z6 (Region.noSelect ops) (NR P tt H w0 id ops ops.size [] ops.size (Array.replicate ops.size false) σ d K)
 |.orh m l::d=>Z6 (Region.noSelect ops) (mR σ l (NR P tt H w0 id ops m l ops.size (Array.replicate ops.size false) σ d K))
 |_=>False
def uH(P:xO)(w0:xH)(ops:Array Oper)(late:List Nat)(σ:St)(base:List (Nat×SV))(hs:List Hd)(i:Nat)(h:Hd)(o:Oper):Prop :=
 o.dst=some h.d/\(∀j,j∈h.cl->Rch ops i j)/\(JS σ base (hs.take i) h.cl).fits h.out=true/\p8 σ i h.cl h.out=true /\
 (((∀r a w,See w0 (JS σ base (hs.take i) h.cl) r a w->Region.wanted o (yielded ops a.tmps)=true) /\
   ((Zf i late=false/\lz P w0 o (JS σ base (hs.take i) h.cl) λu=>u=h.out) \/
    (Zf i late=true/\h.out.b=none/\h.out.r=none/\∀r a w,See w0 (JS σ base (hs.take i) h.cl) r a w->∀w',(execOp a.eval o).run P w'=.ok (.value (h.out.s.den r)) w'))) \/
  ((∀r a w,See w0 (JS σ base (hs.take i) h.cl) r a w->Region.wanted o (yielded ops a.tmps)=false)/\Zf i late=false/\h.out=one (.val undef)))
section
variable{P:xO}{tt:List (Nat×TI)}{w0:xH}{σ:St}
theorem js{hs:List Hd}(a:∀k h,hs[k]?=some h->∀j,j∈h.cl->Rch ops k j):∀ {k j:Nat},j∈fw hs k->Rch ops k j:=by
 have key:∀(l:List Hd) (k j:Nat),j∈fw l k->∃h,l[k]?=some h/\j∈h.cl:=by
  intro l;induction l with
  |nil=>intro k j h;cases h
  |cons x l b =>
   intro k j h;cases k with
   |zero=>exact⟨x,rfl,h⟩
   |succ k=>simpa using b k j h
 grind
def UF{ops:Array Oper}{hs:List Hd}(a:∀k h,hs[k]?=some h->∀j,j∈h.cl->Rch ops k j){i:Nat}:∀ {l:List Nat},(∀j,j∈l->j∈KG ops i)->∀j,j∈jr hs l->Rch ops i j
 |[],_,_,h=>by cases h
 |k::l,b,j,h=>by
  unfold jr at h;rcases SU h with h|h
  ·rcases Lb.1 h with rfl|h
   ·exact .one (b j x6)
   ·exact .more (b k x6) (js a h)
  ·exact UF a (λm c=>b m (by simp[c])) j h
def nT{m j:Nat}{d:List Dir}{K:Out->List Dir->Prop}(h:nQ P m j σ o.op d K):∃out p,K out p/\out.b=none/\out.r=none/\∀r a w,See w0 σ r a w->∀w',(execOp a.eval o).run P w'=.ok (.value (out.s.den r)) w':=by
 unfold nQ at h;split at h
 ·rename_i x i e;let⟨s,g,h⟩:=QI h;let⟨l,h,q⟩:=F2 h;let⟨c,u,h⟩:=QH h;refine⟨_,_,h,rfl,rfl,λr A w f w'=>?_⟩;have k:execOp A.eval o=execOp A.eval { o with op:=.extract x i }:=by rw[<- e]
  rw[k];refine XS ?_
  rw[(QB f g).1,q];simp[Instr.extract,DL u,one]
 ·rename_i x e;let⟨s,g,h⟩:=QI h;refine⟨_,_,h,rfl,rfl,λr A w f w'=>?_⟩;have k:execOp A.eval o=execOp A.eval { o with op:=.move x }:=by rw[<- e]
  rw[k];show(pure (.value (A.eval x)):Sem Next).run P w'=_;rw[(QB f g).1];rfl
 ·rename_i t x n e;split at h
  ·let⟨_,h⟩:=Qq h;let⟨z,h,v⟩:=Xr w0 h;let⟨B,⟨g,h⟩,y⟩:=Dl w0 h;refine⟨_,_,h,rfl,rfl,λr A w f w'=>?_⟩;have k:execOp A.eval o=execOp A.eval { o with op:=.slice t x n none none }:=by rw[<- e]
   rw[k];show(do pure (.value (<- Instr.sliceAt t (A.eval x) (n.map A.eval) none none)):Sem Next).run P w'=_;refine XS ?_
   rw[v r A w f,y r A w f,g];rfl
  ·exact h.elim
 ·exact h.elim
def Ow(I:YF P tt){t:Nat}{ops:Array Oper}{late:List Nat}{base:List (Nat×SV)}{K:List Hd->List Dir->Prop}:∀(n:Nat) (l:List Oper) (i:Nat) (a:List Hd) (d:List Dir),
  (∀j,l[j]?=ops[i+j]?)->a.length=i->(∀k h,a[k]?=some h->∀j,j∈h.cl->Rch ops k j)->CQ P tt w0 t ops late σ base l n i a d K ->
  ∃hs u,K hs u/\hs.length=i+n/\hs.take i=a/\∀j,i<=j->j<i+n->∃h o,hs[j]?=some h/\ops[j]?=some o/\uH P w0 ops late σ base hs j h o
 |0,l,i,a,d,_,m,_,h=>by
  refine⟨a,d,(by cases l<;>exact h),m,by rw[<- m];exact List.take_length,λj f v=>x3⟩
 |n+1,[],i,a,d,_,_,_,h=>False.elim h
 |n+1,o::l,i,a,d,J,m,w,h=>by
  have L:ops[i]?=some o:=by have:=J 0;simpa using this.symm
  have B:∀j,l[j]?=ops[i+1+j]?:=λj=>by have:=J (j+1);rw[show i+1+j=i+(j+1)by omega];simpa using this
  have A:∀j,j∈jr a (eR o)->Rch ops i j:=UF w λj z=>by unfold KG;rw[L];exact z
  have c:∀x:Hd,x.cl=jr a (eR o)->∀d,CQ P tt w0 t ops late σ base l n (i+1) (Gt a x) d K ->
    (∀hs:List Hd,hs.take i=a->uH P w0 ops late σ base hs i x o)->∃hs u,K hs u/\hs.length=i+(n+1)/\hs.take i=a/\∀j,i<=j->j<i+(n+1)->∃h o,hs[j]?=some h/\ops[j]?=some o/\uH P w0 ops late σ base hs j h o:=λx O d h C=>by
   rw[Yj]at h;let⟨hs,u,f,v,s,D⟩:=Ow I n l (i+1) (a++[x]) d B (by simp[m]) (λk y g j z=>by
    rcases R5 k a.length with r|r
    ·rw[List.getElem?_append_left r]at g;exact w k y g j z
    ·have p:k=i:=by
      have M:=(xU.1 g).1;simp at M;omega
     subst p;rw[<- m]at g;simp at g;subst g;rw[O]at z;exact A j z) h
   have r:hs.take i=a:=by
    have:=Lu (List.take i) s;rw[List.take_take,Tg x3,List.take_append_of_le_length x3,<- m,List.take_length]at this;rw[<- m];exact this
   refine⟨hs,u,f,x3,r,λj p M=>?_⟩;by_cases e:j=i
   ·subst e;refine⟨x,o,?_,L,C hs r⟩;have N:(hs.take (j+1))[j]?=(a++[x])[j]?:=by rw[s]
    rw[b9 x3]at N;rw[N,<- m];simp
   ·exact D j x3 x3
  simp only[CQ]at h;let⟨b,R,f,E⟩:=BW (w0:=w0) h;let⟨k,g,f⟩:=QH f;cases b with
  |true =>
   cases q:Zf i late with
   |true =>
    rw[q]at f;let⟨out,Q,v,s,D,r⟩:=nT (P:=P) (w0:=w0) f;let⟨F,p⟩:=Qq v;let⟨G,H⟩:=L5.1 F;exact c _ rfl _ p λhs e=>⟨g,A,by rw[e];exact G,H,.inl ⟨by rw[e];exact E,.inr ⟨q,s,D,by rw[e];exact r⟩⟩⟩
   |false =>
    rw[q]at f;let⟨Q,out,v,s⟩:=OS (w0:=w0) I (λout d h=>(L5.1 (Qq h).1).1) f;let⟨F,p⟩:=Qq v;let⟨G,H⟩:=L5.1 F;exact c _ rfl _ p λhs e=>⟨g,A,by rw[e];exact G,H,.inl ⟨by rw[e];exact E,.inl ⟨q,by rw[e];exact s⟩⟩⟩
  |false =>
   let⟨q,p⟩:=Qq f;have q:Zf i late=false:=l3 q;exact c _ rfl _ p λhs e=>⟨g,A,rfl,rfl,.inr ⟨by rw[e];exact E,q,rfl⟩⟩
end
def NQ(v:y9):y9:=if v.oneCell' then v else .bool false
def WM(v:y9):(NQ v).oneCell'=true:=by
 unfold NQ;split
 ·assumption
 ·rfl
theorem RF(h:v.oneCell'=true):NQ v=v:=if_pos h
def rg(σ:St)(r:Env)(γ:Nat->Gh):Env :=
 ⟨λk=>if k<σ.bs.length then r.b k else(γ (k-σ.bs.length)).b,λk=>if k<σ.rs.length then r.x k else NQ (γ (k-σ.rs.length)).x,λk=>if k<σ.rs.length then r.S k else(γ (k-σ.rs.length)).S⟩
variable{γ:Nat->Gh}
theorem Qbx{g:Gh}(a:g.x.oneCell'=true)(i:Nat):rg σ r (Zg γ i g)=(rg σ r γ).add (σ.bs.length+i) (σ.rs.length+i) g:=by
 unfold rg Env.add Zg
 grind[RF]
def qe(h:σ.lt s=true):s.den (rg σ r γ)=s.den r :=
 Zi _ _ (λ_ a=>if_pos (Xa a)) (λ_ a=>if_pos (Xa a)) s h
def ij(h:σ.ltL l=true):QO (rg σ r γ) l=QO r l :=
 XH _ _ (λ_ a=>if_pos (Xa a)) (λ_ a=>if_pos (Xa a)) l h
variable{cl:List Nat}
theorem OT{n:Nat}(h:dZ n cl b=true):b<n\/(n<=b/\b-n∈cl):=by
 rcases Bool.or_eq_true_iff.1 h with h|h
 all_goals grind[Xa,memB_mem]
theorem Qd4{a:Nat->Gh}(h:∀j,j∈cl->γ j=a j)(c:dZ σ.bs.length cl i=true):(rg σ r γ).b i=(rg σ r a).b i:=by
 grind[rg,OT]
theorem Qd5{a:Nat->Gh}(h:∀j,j∈cl->γ j=a j)(b:dZ σ.rs.length cl i=true):(rg σ r γ).x i=(rg σ r a).x i:=by
 grind[rg,OT]
theorem FG{cl:List Nat}{k:Nat}{s:SV}:∀ {hs:List Hd} {a:Nat} {t:List (Nat×SV)},Yv k (sc cl hs a t)=some s->(∃j,∃h:Hd,hs[j]?=some h/\(a+j)∈cl/\h.d=k/\s=h.out.s)\/Yv k t=some s
 |[],_,_,h=>.inr h
 |x::hs,a,t,h=>by
  unfold sc at h;cases e:Zf a cl with
  |true =>
   rw[e]at h;simp only[cond_true,Yv]at h;cases c:Nat.beq x.d k with
   |true =>
    rw[c]at h;obtain rfl:=o7 h;exact .inl ⟨0,x,rfl,memB_mem.1 e,Ld c,rfl⟩
   |false =>
    rw[c]at h;rcases FG (hs:=hs) h with⟨j,y,b,f,g⟩|b
    ·exact .inl ⟨j+1,y,l3 b,by rw[show a+(j+1)=a+1+j by omega];exact f,g⟩
    grind
  |false =>
   rw[e]at h;rcases FG (hs:=hs) h with⟨j,y,b,f,g⟩|b
   ·exact .inl ⟨j+1,y,l3 b,by rw[show a+(j+1)=a+1+j by omega];exact f,g⟩
   ·exact .inr b
theorem FE{ds:List Nat}{k:Nat}{s:SV}:∀ {t:List (Nat×SV)},Yv k (Bv ds t)=some s->k ∉ ds/\Yv k t=some s
 |[],h=>by cases h
 |(j,u)::t,h=>by
  unfold Bv at h;cases e:Zf j ds with
  |true =>
   rw[e]at h;let⟨b,c⟩:=FE (t:=t) h;refine⟨b,?_⟩;unfold Yv;cases a:Nat.beq j k with
   |true=>exact absurd (memB_mem.1 e) (Ld a▸b)
   |false=>exact c
  |false =>
   rw[e]at h;simp only[cond_false,Yv]at h;unfold Yv;cases a:Nat.beq j k with
   |true =>
    grind[Ld,memB_mem]
   |false=>rw[a]at h;exact FE (t:=t) h
theorem OE{k:Nat}{s:SV}:∀ {hs:List Hd} {t:List (Nat×SV)},Yv k (iJ hs t)=some s->(∃(j:Nat) (h:Hd),hs[j]?=some h/\h.d=k/\s=h.out.s)\/((∀(j:Nat) (h:Hd),hs[j]?=some h->h.d≠k)/\Yv k t=some s)
 |[],_,h=>.inr ⟨λ_ _ h=>by simp at h,h⟩
 |x::hs,t,h=>by
  simp only[iJ,Yv]at h;cases a:Nat.beq x.d k with
  |true =>
   rw[a]at h;obtain rfl:=o7 h;exact .inl ⟨0,x,rfl,Ld a,rfl⟩
  |false =>
   rw[a]at h;rcases OE (hs:=hs) h with⟨j,y,b,c⟩|⟨b,c⟩
   ·exact .inl ⟨j+1,y,l3 b,c⟩
   grind[Nat.ne_of_beq_eq_false]
def Ae{α:Type}:∀ {l m:List (Option α)} {i:Nat} {y:α},Xq (zg l m) i=some y->Xq l i=some y\/(l.length<=i/\Xq m (i-l.length)=some y)
 |[],_,_,_,h=>.inr ⟨L7 _,h⟩
 |_::_,_,0,_,h=>.inl h
 |_::l,m,i+1,_,h=>(Ae (l:=l) (m:=m) (i:=i) h).imp id λ⟨a,b⟩=>⟨T3 a,by rw[Li,Nat.add_sub_add_right];exact b⟩
theorem WG{cl:List Nat}{y:o0×List SV}:∀ {hs:List Hd} {j0 j:Nat},Xq (xw cl hs j0) j=some y->∃h,hs[j]?=some h/\(j0+j)∈cl/\h.out.b=some y
 |[],_,_,h=>by cases h
 |x::hs,j0,0,h=>by
  change (bif Zf j0 cl then x.out.b else none)=some y at h;cases e:Zf j0 cl with
  |true=>rw[e]at h;exact⟨x,rfl,memB_mem.1 e,h⟩
  |false=>rw[e]at h;cases h
 |x::hs,j0,j+1,h=>by
  let⟨z,a,c,d⟩:=WG (hs:=hs) (j0:=j0+1) (j:=j) h
  grind
theorem WH{cl:List Nat}{y:Res}:∀ {hs:List Hd} {j0 j:Nat},Xq (xy cl hs j0) j=some y->∃h,hs[j]?=some h/\(j0+j)∈cl/\h.out.r=some y
 |[],_,_,h=>by cases h
 |x::hs,j0,0,h=>by
  change (bif Zf j0 cl then x.out.r else none)=some y at h;cases e:Zf j0 cl with
  |true=>rw[e]at h;exact⟨x,rfl,memB_mem.1 e,h⟩
  |false=>rw[e]at h;cases h
 |x::hs,j0,j+1,h=>by
  let⟨z,a,b,c⟩:=WH (hs:=hs) (j0:=j0+1) (j:=j) h
  grind
theorem OM{y:o0×List SV}:∀ {hs:List Hd} {j:Nat},Xq (iH hs) j=some y->∃h,hs[j]?=some h/\h.out.b=some y
 |[],_,h=>by cases h
 |x::hs,0,h=>⟨x,rfl,h⟩
 |x::hs,j+1,h=>by
  let⟨z,a,c⟩:=OM (hs:=hs) (j:=j) h
  grind
theorem ON{y:Res}:∀ {hs:List Hd} {j:Nat},Xq (iI hs) j=some y->∃h,hs[j]?=some h/\h.out.r=some y
 |[],_,h=>by cases h
 |x::hs,0,h=>⟨x,rfl,h⟩
 |x::hs,j+1,h=>by
  let⟨z,a,b⟩:=ON (hs:=hs) (j:=j) h
  grind
def aR(cl:List Nat):∀(hs:List Hd) (j:Nat),(xw cl hs j).length=hs.length
 |[],_=>rfl
 |_::hs,j=>Lu Nat.succ (aR cl hs (j+1))
def aS(cl:List Nat):∀(hs:List Hd) (j:Nat),(xy cl hs j).length=hs.length
 |[],_=>rfl
 |_::hs,j=>Lu Nat.succ (aS cl hs (j+1))
def O4:∀(hs:List Hd),(iH hs).length=hs.length
 |[]=>rfl
 |_::hs=>Lu Nat.succ (O4 hs)
def O5:∀(hs:List Hd),(iI hs).length=hs.length
 |[]=>rfl
 |_::hs=>Lu Nat.succ (O5 hs)
def SX(σ:St)(base:List (Nat×SV))(hs:List Hd)(cl:List Nat):(JS σ base hs cl).bs.length=σ.bs.length+hs.length:=by simp[JS,IL,aR]
def SY(σ:St)(base:List (Nat×SV))(hs:List Hd)(cl:List Nat):(JS σ base hs cl).rs.length=σ.rs.length+hs.length:=by simp[JS,IL,aS]
def iK(σ:St)(hs:List Hd):(K1 σ hs).bs.length=σ.bs.length+hs.length:=by simp[K1,IL,O4]
def iL(σ:St)(hs:List Hd):(K1 σ hs).rs.length=σ.rs.length+hs.length:=by simp[K1,IL,O5]
def fI:∀ {l:List Oper} {n:Nat},(∀j,j<n->∃o d,l[j]?=some o/\o.dst=some d)->(DC l n).length=n/\∀j o d,j<n->l[j]?=some o->o.dst=some d->(DC l n)[j]?=some d
 |l,0,_=>⟨by cases l<;>rfl,λ_ _ _ h=>x3⟩
 |[],n+1,h=>by let⟨o,d,a,_⟩:=h 0 x3;simp at a
 |x::l,n+1,h=>by
  let⟨a,e⟩:=fI (l:=l) (n:=n) λj f=>by simpa using h (j+1) x3
  refine⟨by simp[DC,a],λj o d f b c=>?_⟩;cases j with
  |zero=>simp at b;subst b;simp[DC,c]
  |succ j=>simpa [DC]using e j o d x3 (l3 b) c
def Mn{k:Nat}:∀ {ds:List Nat} {i:Nat},k ∉ ds->ga k ds i=none
 |[],_,_=>rfl
 |d::ds,i,h=>by
  unfold ga;rw[if_neg λe=>h (by simp[e])];exact Mn λa=>h (by simp[a])
def sJ(σ:St)(r:Env)(hs:List Hd)(j:Nat)(u:Nat->y9)(γ:Nat->Gh)(W:xH):Prop:=∀h,hs[j]?=some h ->
 u j=h.out.s.den (rg σ r γ)/\(∀t cs,h.out.b=some (t,cs)->Bx W (γ j).b t (QO (rg σ r γ) cs).toArray)/\(∀R,h.out.r=some R->(R.φ (γ j).x (γ j).S W/\∀b,(γ j).S b->b<W.heap.size)/\(γ j).x.oneCell'=true)/\(∀p R,h.out.b=some p->h.out.r=some R->¬(γ j).S (γ j).b)
def tZ(hs:List Hd)(i:Nat)(g:Gh)(b:Nat):Prop:=∃h,hs[i]?=some h/\((∃p,h.out.b=some p/\b=g.b)\/(∃R,h.out.r=some R/\g.S b))
section
variable{P:xO}{tt:List (Nat×TI)}{w0:xH}{σ:St}{r:Env}{a:Act}{w:xH}{ops:Array Oper}{late:List Nat}{base:List (Nat×SV)}{hs:List Hd}{ds:List Nat}{n:Nat}
theorem wA(U:See w0 σ r a w)(A:∀k s,Yv k base=some s->k ∉ ds/\Yv k σ.ts=some s)(I:ds.Nodup)(O:hs.length=n)(J:∀(j:Nat) (h:Hd),hs[j]?=some h->ds[j]?=some h.d)(V:ds.length=n)(K:∀d,d∈ds->d<a.tmps.size)(E:∀(j:Nat) (h:Hd),hs[j]?=some h->∃cl,(JS σ base (hs.take j) cl).fits h.out=true){i:Nat}(hi:i<n){cl:List Nat}(_hcl:∀j,j∈cl->j<i){W:xH}(X:Below w.heap.size w W){u:Nat->y9}{γ:Nat->Gh}(L:∀j,j∈cl->sJ σ r hs j u γ W):
  See w0 (JS σ base (hs.take i) cl) (rg σ r γ) (NJ a ds u) W:=by
 have D:=U.later X;have M:(hs.take i).length=i:=by rw[Ll];omega
 have m:∀(j:Nat) (h:Hd),(hs.take i)[j]?=some h->hs[j]?=some h/\j<i:=λj h P=>by
  grind
 have o:=SX σ base (hs.take i) cl;have p:=SY σ base (hs.take i) cl;rw[M]at o p;have F:∀s:SV,σ.lt s=true->(JS σ base (hs.take i) cl).lt s=true:=λs h=>KW (λk c=>YQ (by have:=Xa c;rw[o];omega)) (λk c=>YQ (by have:=Xa c;rw[p];omega)) s h
 have B:∀s:List SV,σ.ltL s=true->(JS σ base (hs.take i) cl).ltL s=true:=λs h=>Jz (λk c=>YQ (by have:=Xa c;rw[o];omega)) (λk c=>YQ (by have:=Xa c;rw[p];omega)) s h
 have q:∀(j:Nat) (h:Hd),hs[j]?=some h->j<i->(JS σ base (hs.take i) cl).lt h.out.s=true/\∀t cs,h.out.b=some (t,cs)->(JS σ base (hs.take i) cl).ltL cs=true:=λj h P Y=>by
  let⟨G,Z⟩:=E j h P;have N:(hs.take j).length=j:=by rw[Ll];omega
  have b1:=SX σ base (hs.take j) G;have b2:=SY σ base (hs.take j) G;rw[N]at b1 b2;let⟨f1,Q⟩:=L5.1 Z;refine⟨KW (λk c=>YQ ?_) (λk c=>YQ ?_) _ f1,λt cs e=>?_⟩
  ·have f:=Xa c;cases e:h.out.b<;>rw[e]at f<;>simp only[b1]at f<;>rw[o]<;>omega
  ·have f:=Xa c;cases e:h.out.r<;>rw[e]at f<;>simp only[b2]at f<;>rw[p]<;>omega
  ·rw[e]at Q;exact Jz (λk c=>YQ (by have f:=Xa c;rw[b1]at f;rw[o];omega)) (λk c=>YQ (by have f:=Xa c;rw[b2]at f;rw[p];omega)) cs Q
 refine⟨D.low,by rw[Eo];exact D.size,λk s c=>?_,λk t cs c=>?_,λk R c=>?_,λk c=>?_⟩
 ·rcases FG c with⟨j,h,g,z,rfl,rfl⟩|g
  ·let⟨v,l⟩:=m j h g;rw[Lm]at z;have f:=(L j z h v).1;have C:=J j h v;have hd:h.d<a.tmps.size:=K _ (List.mem_of_getElem? C);refine⟨?_,(q j h v l).1⟩;have H:=PY (i:=0) I C;rw[Lm]at H;exact Wd hd H f
  ·let⟨z,v⟩:=A k s g;let⟨l,f⟩:=D.ts k s v;refine⟨?_,F s f⟩;rw[qe f];rcases R5 k a.tmps.size with y|y
   ·exact Wc y (Mn z) l
   ·rw[<- l,Δ,Δ,p7 (by rw[Eo];exact y),p7 y]
 ·rcases Ae c with g|⟨g,z⟩
  ·let⟨v,l⟩:=D.bs k t cs g;rw[ij l,show(rg σ r γ).b k=r.b k from if_pos (XK g)];exact⟨v,B cs l⟩
  ·let⟨h,v,l,f⟩:=WG z;let⟨C,H⟩:=m _ h v;rw[Lm]at l;rw[show(rg σ r γ).b k=(γ (k-σ.bs.length)).b from if_neg x3];exact⟨(L _ l h C).2.1 t cs f,(q _ h C H).2 t cs f⟩
 ·rcases Ae c with g|⟨g,z⟩
  ·rw[show(rg σ r γ).x k=r.x k from if_pos (XK g),show(rg σ r γ).S k=r.S k from if_pos (XK g)];exact D.rs k R g
  ·let⟨h,v,l,f⟩:=WH z;let⟨C,H⟩:=m _ h v;rw[Lm]at l;have T:=L _ l h C;rw[show(rg σ r γ).x k=NQ (γ (k-σ.rs.length)).x from if_neg x3,show(rg σ r γ).S k=(γ (k-σ.rs.length)).S from if_neg x3,RF (T.2.2.1 R f).2];exact(T.2.2.1 R f).1
 ·rcases R5 k σ.rs.length with g|g
  ·rw[show(rg σ r γ).x k=r.x k from if_pos g];exact D.one k g
  ·rw[show(rg σ r γ).x k=NQ (γ (k-σ.rs.length)).x from if_neg x3];exact WM _
def qo(F:Sat w0 σ r a w)(aw:ds.Nodup)(V:hs.length=n)(X:∀(j:Nat) (h:Hd),hs[j]?=some h->ds[j]?=some h.d)(bi:ds.length=n)(aB:∀d,d∈ds->d<a.tmps.size)(Y:∀(j:Nat) (h:Hd),hs[j]?=some h->∃cl,(JS σ base (hs.take j) cl).fits h.out=true){W:xH}(hb:Below w.heap.size w W){u:Nat->y9}{γ:Nat->Gh}(Z:∀j,j<n->sJ σ r hs j u γ W)(N:∀i,i<n->∀b,tZ hs i (γ i) b->w.heap.size<=b/\b<W.heap.size)(hD:∀i j,i<n->j<n->i≠j->∀b,tZ hs i (γ i) b->¬ tZ hs j (γ j) b):
  Sat w0 (K1 σ hs) (rg σ r γ) (NJ a ds u) W:=by
 have U:=F.see.later hb;have H:=iK σ hs;have I:=iL σ hs;rw[V]at H I;have f:∀(j:Nat) (h:Hd),hs[j]?=some h->j<n:=λj h G=>x8 ((xU.1 G).1)
 have ad:∀s:SV,σ.lt s=true->(K1 σ hs).lt s=true:=λs h=>KW (λk y=>YQ (by have:=Xa y;rw[H];omega)) (λk y=>YQ (by have:=Xa y;rw[I];omega)) s h
 have P:∀s:List SV,σ.ltL s=true->(K1 σ hs).ltL s=true:=λs h=>Jz (λk y=>YQ (by have:=Xa y;rw[H];omega)) (λk y=>YQ (by have:=Xa y;rw[I];omega)) s h
 have J:∀(j:Nat) (h:Hd),hs[j]?=some h->(K1 σ hs).lt h.out.s=true/\∀t cs,h.out.b=some (t,cs)->(K1 σ hs).ltL cs=true:=λj h G=>by
  let⟨ag,hf⟩:=Y j h G;have f:=f j h G;have bc:(hs.take j).length=j:=by rw[Ll];omega
  have b1:=SX σ base (hs.take j) ag;have b2:=SY σ base (hs.take j) ag;rw[bc]at b1 b2;let⟨f1,f2⟩:=L5.1 hf;refine⟨KW (λk y=>YQ ?_) (λk y=>YQ ?_) _ f1,λt cs e=>?_⟩
  ·have D:=Xa y;cases e:h.out.b<;>rw[e]at D<;>simp only[b1]at D<;>rw[H]<;>omega
  ·have D:=Xa y;cases e:h.out.r<;>rw[e]at D<;>simp only[b2]at D<;>rw[I]<;>omega
  ·rw[e]at f2;exact Jz (λk y=>YQ (by have D:=Xa y;rw[b1]at D;rw[H];omega)) (λk y=>YQ (by have D:=Xa y;rw[b2]at D;rw[I];omega)) cs f2
 have Q:∀i p,Xq σ.bs i=some p->r.b i<w.heap.size:=λi p K=>(F.see.bs i p.1 p.2 K).1.lt
 have bd:=F.see.low.size;have nb:∀k p,Xq (K1 σ hs).bs k=some p->(Xq σ.bs k=some p/\(rg σ r γ).b k=r.b k)\/∃(j:Nat) (h:Hd),k=σ.bs.length+j/\hs[j]?=some h/\h.out.b=some p/\(rg σ r γ).b k=(γ j).b:=λk p y=>by
  rcases Ae y with c|⟨c,l⟩
  ·exact .inl ⟨c,if_pos (XK c)⟩
  ·let⟨h,v,E⟩:=OM l;exact .inr ⟨k-σ.bs.length,h,x3,v,E,if_neg x3⟩
 have nr:∀k R,Xq (K1 σ hs).rs k=some R->(Xq σ.rs k=some R/\(rg σ r γ).S k=r.S k/\(rg σ r γ).x k=r.x k)\/∃(j:Nat) (h:Hd),k=σ.rs.length+j/\hs[j]?=some h/\h.out.r=some R/\(rg σ r γ).S k=(γ j).S/\(rg σ r γ).x k=(γ j).x:=λk R y=>by
  rcases Ae y with c|⟨c,l⟩
  ·exact .inl ⟨c,if_pos (XK c),if_pos (XK c)⟩
  ·let⟨h,v,E⟩:=ON l;refine .inr ⟨k-σ.rs.length,h,x3,v,E,if_neg x3,?_⟩;rw[show(rg σ r γ).x k=NQ (γ (k-σ.rs.length)).x from if_neg x3,RF ((Z _ (f _ h v) h v).2.2.1 R E).2]
 refine⟨⟨U.low,by rw[Eo];exact U.size,λk s y=>?_,λk t cs y=>?_,λk R y=>?_,λk y=>?_⟩,⟨λi p K=>?_,λi j p q K G L=>?_,λi R K b o=>?_,λi j R R' K G L b B C=>?_,λi j p R K G o=>?_⟩,F.defers⟩
 ·rcases OE y with⟨j,h,c,rfl,rfl⟩|⟨c,l⟩
  ·have D:=(Z j (f j h c) h c).1;have h6:=X j h c;have h7:=PY (i:=0) aw h6;rw[Lm]at h7;exact⟨Wd (aB _ (List.mem_of_getElem? h6)) h7 D,(J j h c).1⟩
  ·let⟨E,D⟩:=U.ts k s l;refine⟨?_,ad s D⟩;rw[qe D];have ao:k ∉ ds:=λhm=>by
    let⟨j,G,e⟩:=Th hm;have h6:j<hs.length:=x3;have h7:=X j hs[j] (by simp[h6]);rw[p6 G]at h7;exact c j hs[j] (by simp[h6]) (by rw[<- e];exact(o7 h7).symm)
   rcases R5 k a.tmps.size with M|M
   ·exact Wc M (Mn ao) E
   ·rw[<- E,Δ,Δ,p7 (by rw[Eo];exact M),p7 M]
 ·rcases nb k _ y with⟨c,l⟩|⟨j,h,rfl,c,l,v⟩
  ·let⟨v,E⟩:=U.bs k t cs c;rw[ij E,l];exact⟨v,P cs E⟩
  ·rw[v];exact⟨(Z j (f j h c) h c).2.1 t cs l,(J j h c).2 t cs l⟩
 ·rcases nr k R y with⟨c,l,v⟩|⟨j,h,rfl,c,l,v,E⟩
  ·rw[l,v];exact U.rs k R c
  ·rw[v,E];exact((Z j (f j h c) h c).2.2.1 R l).1
 ·rcases R5 k σ.rs.length with c|c
  ·rw[show(rg σ r γ).x k=r.x k from if_pos c];exact U.one k c
  ·rw[show(rg σ r γ).x k=NQ (γ (k-σ.rs.length)).x from if_neg x3];exact WM _
 ·rcases nb i p K with⟨c,l⟩|⟨j,h,rfl,c,l,v⟩
  ·rw[l];exact F.sep.own i p c
  ·rw[v];have:=(N j (f j h c) _ ⟨h,c,.inl ⟨p,l,rfl⟩⟩).1;omega
 ·rcases nb i p K with⟨c,l⟩|⟨k,h,rfl,c,l,v⟩<;>rcases nb j q G with⟨z,A⟩|⟨m,g,rfl,z,A,O⟩
  ·rw[l,A];exact F.sep.inj i j p q c z L
  ·rw[l,O];have:=(N m (f m g z) _ ⟨g,z,.inl ⟨q,A,rfl⟩⟩).1;have:=Q i p c;omega
  ·rw[v,A];have:=(N k (f k h c) _ ⟨h,c,.inl ⟨p,l,rfl⟩⟩).1;have:=Q j q z;omega
  ·rw[v,O];have T:k≠m:=λe=>L (by rw[e])
   intro e;exact hD k m (f k h c) (f m g z) T _ ⟨h,c,.inl ⟨p,l,rfl⟩⟩ ⟨g,z,.inl ⟨q,A,e⟩⟩
 ·rcases nr i R K with⟨c,l,v⟩|⟨j,h,rfl,c,l,v,E⟩
  ·rw[l]at o;exact F.sep.ownS i R c b o
  ·rw[v]at o;have:=(N j (f j h c) _ ⟨h,c,.inr ⟨R,l,o⟩⟩).1;omega
 ·rcases nr i R K with⟨c,l,_⟩|⟨k,h,rfl,c,l,v,_⟩<;>rcases nr j R' G with⟨z,A,_⟩|⟨m,g,rfl,z,A,O,_⟩
  ·rw[l]at B;rw[A]at C;exact F.sep.disj i j R R' c z L b B C
  ·rw[l]at B;rw[O]at C
   have:=(N m (f m g z) _ ⟨g,z,.inr ⟨R',A,C⟩⟩).1;have:=(F.see.rs i R c).2 b B;omega
  ·rw[v]at B;rw[A]at C
   have:=(N k (f k h c) _ ⟨h,c,.inr ⟨R,l,B⟩⟩).1;have:=(F.see.rs j R' z).2 b C;omega
  ·rw[v]at B;rw[O]at C
   have T:k≠m:=λe=>L (by rw[e])
   exact hD k m (f k h c) (f m g z) T _ ⟨h,c,.inr ⟨R,l,B⟩⟩ ⟨g,z,.inr ⟨R',A,C⟩⟩
 ·rcases nb i p K with⟨c,l⟩|⟨k,h,rfl,c,l,v⟩<;>rcases nr j R G with⟨z,A,_⟩|⟨m,g,rfl,z,A,O,_⟩
  ·rw[l,A]at o;exact F.sep.apart i j p R c z o
  ·rw[l,O]at o;have:=(N m (f m g z) _ ⟨g,z,.inr ⟨R,A,o⟩⟩).1;have:=Q i p c;omega
  ·rw[v,A]at o;have:=(N k (f k h c) _ ⟨h,c,.inl ⟨p,l,rfl⟩⟩).1;have:=(F.see.rs j R z).2 _ o;omega
  ·rw[v,O]at o;by_cases e:k=m
   ·subst e;obtain rfl:=o7 (c.symm.trans z);exact(Z k (f k h c) h c).2.2.2 p R l A o
   ·exact hD k m (f k h c) (f m g z) e _ ⟨h,c,.inl ⟨p,l,rfl⟩⟩ ⟨g,z,.inr ⟨R,A,o⟩⟩
theorem Qbp{ops:Array Oper}{n:Nat}(e:(List.range n).all (λi=>(KG ops i).all (·<i))=true){i j:Nat}(h:Rch ops i j):i<n->j<i:=by
 have c:∀a k,a<n->k∈KG ops a->k<a:=λa k b f=>by
  grind
 induction h with
 |one h=>exact λb=>c _ _ b h
 |more h _ d =>
  intro b;have g:=c _ _ b h;have:=d x3;omega
theorem Wb{f:Nat->List Dir->Prop}:∀ {l:List Nat} {d:List Dir},tW f l d->∀i,i∈l->∃b,f i b
 |[],_,h,_,_=>h.elim
 |[i],d,h,j,a=>⟨d,by rw[Ly.1 a];exact h⟩
 |i::k::l,d,h,j,a=>by
  unfold tW at h;split at h
  ·rcases Lb.1 a with rfl|a
   ·exact⟨_,h.1⟩
   ·exact Wb h.2 j a
  grind
def wg(A:YF P tt){p k:Nat}{o:Oper}{d:List Dir}{K:SV->List Dir->Prop}(h:Qbl P tt p k o σ d K):∃s B,K s B/\∀r a w,See w0 σ r a w->σ.lt s=true/\∀w',(execOp a.eval o).run P w'=.ok (.value (s.den r)) w':=by
 have j:∀ {op:Op},o.op=op->∀z,execOp z o=execOp z { o with op:=op }:=λe z=>by rw[<- e]
 unfold Qbl at h;split at h
 ·rename_i x e;let⟨s,g,h⟩:=QI h;refine⟨s,_,h,λr a w b=>⟨(QB b g).2,λw'=>?_⟩⟩;rw[j e];show(pure (.value (a.eval x)):Sem Next).run P w'=_;rw[(QB b g).1];rfl
 ·rename_i x e;let⟨s,g,h⟩:=QI h;split at h
  case h_3=>exact h.elim
  all_goals
   refine⟨_,_,h,λr a w b=>⟨(QB b g).2,λw'=>?_⟩⟩;rw[j e];unfold execOp;simp only[(QB b g).1];rfl
 ·rename_i t x f e;let⟨s,g,h⟩:=QI h;split at h
  ·let⟨ti,m,h⟩:=Xz A h;split at h
   case h_2=>exact h.elim
   rename_i C;let⟨q,D,h⟩:=QH h;let⟨E,h⟩:=Qq h;refine⟨_,_,h,λr a w b=>⟨(QB b g).2,λw'=>?_⟩⟩;rw[j e];refine XS ?_
   rw[(QB b g).1];exact Ek m C D (Df E)
  ·split at h
   ·let⟨_,n,h⟩:=Qq h;refine⟨_,_,h,λr a w b=>⟨rfl,λw'=>?_⟩⟩;rw[j e];refine XS ?_
    rw[(QB b g).1];exact n w'
   ·exact h.elim
  ·exact h.elim
 ·rename_i x i e;let⟨s,g,h⟩:=QI h;let⟨l,h,F⟩:=F2 h;let⟨c,G,h⟩:=QH h;let⟨H,h⟩:=Qq h;refine⟨_,_,h,λr a w b=>⟨rfl,λw'=>?_⟩⟩;rw[j e];refine XS ?_
  rw[(QB b g).1,F,SV.den,<- JK H r];simp[Instr.extract,DL G]
 ·rename_i t x y e;let⟨v,h,g⟩:=Xr w0 h;let⟨u,h,m⟩:=Xr w0 h;split at h
  ·let⟨_,n,h⟩:=Qq h;refine⟨_,_,h,λr a w b=>⟨rfl,λw'=>?_⟩⟩;rw[j e];refine XS ?_
   rw[g r a w b,m r a w b];exact n w'
  ·exact h.elim
 ·rename_i f t x y _ e;let⟨v,h,g⟩:=Xr w0 h;let⟨u,h,m⟩:=Xr w0 h;split at h
  ·let⟨_,n,h⟩:=Qq h;refine⟨_,_,h,λr a w b=>⟨rfl,λw'=>?_⟩⟩;rw[j e];refine XS ?_
   rw[g r a w b,m r a w b];exact n w'
  ·exact h.elim
 ·rename_i t x I e;let⟨v,h,g⟩:=Xr w0 h;let⟨u,h,m⟩:=Dl w0 h;split at h
  ·let⟨_,n,h⟩:=Qq h;refine⟨_,_,h,λr a w b=>⟨rfl,λw'=>?_⟩⟩;rw[j e];show(do pure (.value (<- Instr.sliceAt t (a.eval x) (I.map a.eval) none none)):Sem Next).run P w'=_;refine XS ?_
   rw[g r a w b,m r a w b,n w'];rfl
  ·exact h.elim
 ·exact h.elim
def GY(P:xO)(ops:Array Oper)(Q:Exit->Act->xH->Prop)(S:xH->Prop)(m:Nat):Nat->Array Bool->Act->xH->Prop
 |0,l,a,w=>Region.ready .any ops l=[]/\Q .normal a w
 |n+1,l,a,w=>(Region.ready .any ops l=[]->Q .normal a w)/\∀i∈Region.ready .any ops l,wpOp P ops Q i (λb w'=>((l.setIfInBounds i true).getD m false=false->S w')/\GY P ops Q S m n (l.setIfInBounds i true) b w') a w
def KX{Q:Exit->Act->xH->Prop}{S:xH->Prop}{m:Nat}:∀(n:Nat) (l:Array Bool) (a:Act) (w:xH),GY P ops Q S m n l a w->wpAny P .any ops Q n l a w
 |0,_,_,_,h=>h
 |n+1,_,_,_,h=>⟨h.1,λi b=>wpOp_mono (λc w' d=>KX n _ c w' d.2) (h.2 i b)⟩
def Ei{l:Array Bool}(h:HeadInv .any ops ops.size l){i:Nat}(a:i∈Region.ready .any ops l):HeadInv .any ops ops.size (l.setIfInBounds i true):=by
 let⟨_,o,b,_⟩:=mem_ready.1 a;exact h.set a (b8.1 b).1
theorem RK{l:Array Bool}{m i:Nat}(e:(Nat.ble ops.size m||RS ops 9 m i)=true)(a:HeadInv .any ops ops.size l)(f:l.getD i true=false)(h:l.getD m false=true\/m∈Region.ready .any ops l):False:=by
 rcases Bool.or_eq_true_iff.1 e with b|b
 ·have b:=L8 b;rcases h with h|h
  ·rw[Δ,p7 (by rw[a.size];exact b)]at h;cases h
  ·let⟨_,o,c,_⟩:=mem_ready.1 h;have:=(b8.1 c).1;omega
 ·have:=EN a 9 m (λj d=>h.elim (λh=>Bs a h d) λh=>by
   let⟨_,o,c,h⟩:=mem_ready.1 h;unfold KG at d;rw[c]at d
   grind) b
  rw[getD_both f]at this;cases this
def IG{Q:Exit->Act->xH->Prop}{S:xH->Prop}{m i:Nat}{q:Oper}(c:Bool)(r:ops[i]?=some q)(hs:Region.noSelect ops=true)(g:i≠m)(K:c=true->(Nat.ble ops.size m||RS ops 9 m i)=true)(L:∀c a w,Q (.panic c) (a.put q.dst v) w->Q (.panic c) a w):
  ∀(n:Nat) (l:Array Bool) (a:Act) (w:xH),HeadInv .any ops ops.size l->(∀j o,ops[j]?=some o->j≠i->l.getD j true=false->(∀e∈o.after,Region.binds .any e=true->e.on≠i)->q.apart ops o=true)->i∈Region.ready .any ops l->YieldsIf P ops (λw=>c=true->S w) q v a->(l.getD m false=false->S w)->GY P ops Q S m n (l.setIfInBounds i true) (a.put q.dst v) w->GY P ops Q S m (n+1) l a w:=by
 intro n;have A:∀ {l:Array Bool} {w:xH},HeadInv .any ops ops.size l->l.getD i true=false->(l.getD m false=false->S w)->c=true->S w:=λ{l w} d r h A=>h (by
  cases h:l.getD m false with
  |true=>exact(RK (K A) d r (.inl h)).elim
  |false=>rfl)
 induction n with
 |zero =>
  intro l a w d _ f B s H;refine⟨λh=>(by rw[h]at f;cases f),λj t=>?_⟩;by_cases e:j=i
  ·subst e;exact B.wpOp r (A d (mem_ready.1 f).1 s) ⟨by rwa [getD_set_ne false g],H⟩
  ·have:=ready_mono t e;rw[H.1]at this;cases this
 |succ n M =>
  intro l a w d G f B s H;refine⟨λh=>(by rw[h]at f;cases f),λj t=>?_⟩;by_cases e:j=i
  ·subst e;exact B.wpOp r (A d (mem_ready.1 f).1 s) ⟨by rwa [getD_set_ne false g],H⟩
  have N:=(mem_ready.1 f).1;let⟨I,o,p,u⟩:=mem_ready.1 t;have x:∀e∈o.after,Region.binds .any e=true->e.on≠i:=λe O R h=>by
   have J:=u e O R;rw[h,getD_both N]at J;cases J
  have T:=wpOp_putIf p (G j o p e I x) (λcs b=>Region.noSelect_spec hs i q cs b r) (λcs b=>Region.noSelect_spec hs j o cs b p) L B (H.2 j (ready_mono t e));refine wpOp_mono (λU w' C=>?_) T;have y:(l.setIfInBounds j true).getD m false=false->S w':=λh=>C.2.1 (by rwa [Array.setIfInBounds_comm _ _ (Ne.symm e),getD_set_ne false g])
  refine⟨y,M _ U w' (Ei d t) (λk ok s D E F=>G k ok s D (by
   by_cases z:j=k
   ·subst z;exact I
   ·rwa [getD_set_ne true z]at E) F) (ready_mono f (Ne.symm e)) C.1 y ?_⟩
  rw[Array.setIfInBounds_comm _ _ e];exact C.2.2
def Kp(r:Env)(l:List (Nat×o0×Nat×y9))(w:xH):Prop:=∀i c,Yv i l=some c->∃cs:o3,Bx w (r.b i) c.1 cs.toArray/\cs[c.2.1]?=some c.2.2
def Wj{l:List (Nat×o0×Nat×y9)}(h:mR σ l p):p/\∀i c,Yv i l=some c->∃cs,Xq σ.bs i=some (c.1,cs)/\Gq cs c.2.1=some (.val c.2.2):=by
 induction l with
 |nil=>exact⟨h,λ_ _ e=>nomatch e⟩
 |cons x l d =>
  let⟨j,t,n,v⟩:=x;let⟨a,f⟩:=(show _/\mR σ l p from h)
  let⟨g,k⟩:=d f;refine⟨g,λi c e=>?_⟩;unfold Yv at e;cases b:Nat.beq j i with
  |true =>
   rw[b]at e;obtain rfl:=o7 e;obtain rfl:=Ld b;unfold jw at a;split at a
   ·rename_i r cs m;split at a
    ·rename_i s o;injection a with a
     injection a with a q
     subst a;subst q;exact⟨cs,m,o⟩
    ·cases a
   ·cases a
  |false=>rw[b]at e;exact k i c e
def Kp.of{l:List (Nat×o0×Nat×y9)}{d:Env}(h:∀i c,Yv i l=some c->∃cs,Xq σ.bs i=some (c.1,cs)/\Gq cs c.2.1=some (.val c.2.2))(f:See w0 σ r a w)(g:∀i c,Yv i l=some c->r.b i=d.b i):Kp d l w:=λi c e=>by
 let⟨cs,j,m⟩:=h i c e;have k:=(f.bs i _ _ j).1;rw[g i c e]at k;exact⟨_,k,DL m⟩
def uD(k:YF P tt){l:List (Nat×o0×Nat×y9)}{o:Oper}{K:y9->Prop}{g:Env}(h:Qav tt l σ o.op K)(m:∀i c,Yv i l=some c->r.b i=g.b i)(n:See w0 σ r a w):∃v,K v/\∀w',Kp g l w'->(execOp a.eval o).run P w'=.ok (.value v) w':=by
 have p:∀ {op:Op},o.op=op->∀d,execOp d o=execOp d { o with op:=op }:=λe d=>by rw[<- e]
 unfold Qav at h;split at h
 ·rename_i t x e;let⟨s,q,h⟩:=QI h;split at h
  ·rename_i b off;let⟨c,j,h⟩:=QH h;let⟨ti,u,h⟩:=Xz k h;let⟨f,y⟩:=Qq h;let⟨f,z⟩:=L5.1 f;obtain rfl:=Ld z;refine⟨c.2.2,y,λw' A=>?_⟩;let⟨cs,B,C⟩:=A b c j;rw[p e];refine XS ?_
   rw[(QB n q).1];show(Instr.loadAt t (.pointer (some ⟨r.b b,c.2.1,none⟩))).run P w'=_;rw[m b c j];exact Ez u (l3 f) B C
  ·exact h.elim
 ·exact h.elim
def EJ(I:YF P tt){H:Cx}(W:NC P w0 H.inl){id:Nat}(j:Region.noSelect ops=true){m:Nat}{kl:List (Nat×o0×Nat×y9)}{r0:Env}:∀(n:Nat) (listed:Array Bool) (σ:St) (d:List Dir) (K:St->List Dir->Prop),NR P tt H w0 id ops m kl n listed σ d K ->
  ∀r a w,Sat w0 σ r a w->HeadInv .any ops ops.size listed->(∀i c,Yv i kl=some c->r.b i=r0.b i/\i<σ.bs.length)->(listed.getD m false=false->Kp r0 kl w)->∀(Q:Exit->Act->xH->Prop),(∀(d:Tmp) (v:y9) c a w,Q (.panic c) (a.put (some d) v) w->Q (.panic c) a w)->PanTo w0 H σ r Q->(∀E O x C w',K E O->Sat w0 E x C w'->Ag σ r x->σ.le E->Q .normal C w')->GY P ops Q (Kp r0 kl) m n listed a w
 |0,listed,σ,d,K,h,r,a,w,p,_,_,_,Q,_,_,f=>by
  unfold NR at h;split at h
  ·rename_i e;exact⟨e,f _ _ _ _ _ h p (Ag.refl _ _) (St.le.refl _)⟩
  ·exact h.elim
 |n+1,listed,σ,d,K,h,r,a,w,p,u,J,hk,Q,X,Y,f=>by
  unfold NR at h;split at h
  ·rename_i e;exact⟨λ_=>f _ _ _ _ _ h p (Ag.refl _ _) (St.le.refl _),by rw[e];simp⟩
  rename_i i l e;have one:∀ {k t:Nat} {o:Oper} {s:SV} {y:List Dir} (c:Bool),ops[k]?=some o->o.dst=some t->((i::l).contains k&&Region.free .any ops listed k&&(match o.guard with|none=>true|_=>false)&&Nat.blt t σ.n&&!Nat.beq k m)=true->(c=true->(Nat.ble ops.size m||RS ops 9 m k)=true)->(∀w',(c=true->Kp r0 kl w')->(execOp a.eval o).run P w'=.ok (.value (s.den r)) w')->σ.lt s=true->NR P tt H w0 id ops m kl n (listed.setIfInBounds k true) (σ.push (some t) s) y K->GY P ops Q (Kp r0 kl) m (n+1) listed a w:=λ{k t o s y} c z L D hm M hl h=>by
   simp only[Lx]at D;let⟨⟨⟨⟨c1,c2⟩,c3⟩,c4⟩,c5⟩:=D;have hw:Region.wanted o (yielded ops a.tmps)=true:=by
    cases N:o.guard with
    |none=>simp[Region.wanted,N]
    |some g=>rw[N]at c3;cases c3
   have R:k≠m:=λe=>by subst e;simp at c5
   have S:k∈Region.ready .any ops listed:=by rw[e];simpa using c1
   refine IG c z j R hm (by rw[L];exact X t _) n listed a w u (Region.free_spec z c2) S (.inl ⟨hw,M⟩) hk ?_
   rw[L];exact EJ I W j n _ _ y K h r _ w (Sat.put p c4 hl) (Ei u S) J (λh=>hk (by rwa [getD_set_ne false R]at h)) Q X (Y.later (Ag.refl _ _) (YK _ _ _)) λE O x C w' h1 q A h4=>f E O x C w' h1 q ((Ag.refl _ _).trans (YK _ _ _) A) ((YK _ _ _).trans h4)
  split at h
  ·let⟨o,z,h⟩:=QH h;let⟨t,L,h⟩:=QH h;let⟨D,h⟩:=Qq h;let⟨s,y,h,M⟩:=wg (w0:=w0) I h;exact one false z L D (λh=>nomatch h) (λw' _=>(M r a w p.see).2 w') (M r a w p.see).1 h
  ·let⟨o,z,h⟩:=QH h;let⟨t,L,h⟩:=QH h;let⟨D,h⟩:=Qq h;let⟨D,hm⟩:=L5.1 D;let⟨v,h,M⟩:=uD I h (λi c e=>(J i c e).1) p.see;exact one (s:=.val v) true z L D (λ_=>hm) (λw' h=>M w' (h rfl)) rfl h
  ·refine⟨λh=>(by rw[e]at h;cases h),λi hi=>?_⟩;let⟨d1,h⟩:=Wb h i (e▸hi);let⟨o,z,h⟩:=QH h;let⟨b,y,h,N⟩:=BW (w0:=w0) h;rw[gt p.see (N r a w p.see)]at h;unfold wpOp;simp only[z];cases b with
   |true =>
    rw[if_pos (N r a w p.see)];let⟨σ1,bi,r1,k1,k2,k3,k4⟩:=DF 4 h r a w p;refine .inl (au I W k1 r1 a w k2 Q _ (Y.later k3 k4) λZ y x C w' q T ad ag=>?_);have F:Ag σ r x:=k3.trans k4 ad;have B:σ.le Z:=k4.trans ag;have U:∀i c,Yv i kl=some c->x.b i=r0.b i/\i<Z.bs.length:=λi c e=>⟨(F.1 i (J i c e).2).trans (J i c e).1,L9 (J i c e).2 B.1⟩
    have A:NR P tt H w0 id ops m kl n (listed.setIfInBounds i true) Z y K/\((listed.setIfInBounds i true).getD m false=false->Kp r0 kl w'):=by
     cases G:Nat.beq i m with
     |true =>
      simp only[G,cond_true]at q;obtain rfl:=Ld G;refine⟨q,λh=>?_⟩;have ao:i<listed.size:=by rw[u.size];exact(b8.1 z).1
      simp[ao]at h
     |false =>
      simp only[G,cond_false]at q;let⟨q,h5⟩:=Wj q;exact⟨q,λ_=>Kp.of h5 T.see λi c e=>(U i c e).1⟩
    exact⟨A.2,EJ I W j n _ Z y K A.1 x C w' T (Ei u hi) U A.2 Q X (Y.later F B) λσ3 d3 r3 a3 w3 A aw aB bc=>f σ3 d3 r3 a3 w3 A aw (F.trans B aB) (B.trans bc)⟩
   |false =>
    let⟨hd,q⟩:=Qq h;rw[if_neg (by rw[N r a w p.see];simp)];have bd:=Sat.put (s:=.val undef) p hd rfl;have V:(listed.setIfInBounds i true).getD m false=false->Kp r0 kl w:=λh=>hk (by
     cases e:listed.getD m false with
     |true=>rw[getD_set_true e]at h;cases h
     |false=>rfl)
    exact⟨V,EJ I W j n _ _ y K q r _ w bd (Ei u hi) (by cases o.dst<;>exact J) V Q X (Y.later (Ag.refl _ _) (YK _ _ _)) λE O x C w' h1 q A h4=>f E O x C w' h1 q ((Ag.refl _ _).trans (YK _ _ _) A) ((YK _ _ _).trans h4)⟩
def oc:HeadInv .any ops ops.size (Array.replicate ops.size false):=⟨x6,λj d _ a=>(by rw[getD_replicate_false]at a;cases a),λt b c=>absurd c (Nat.not_lt.2 b)⟩
theorem d7(hT:YF P tt)(hH:NC P w0 H.inl){id:Nat}{d:List Dir}{K:St->List Dir->Prop}(h:Ix P tt H w0 id ops σ d K):
  ∀r a w,Sat w0 σ r a w->∀(Q:Exit->Act->xH->Prop),(∀(d:Tmp) (v:y9) c a w,Q (.panic c) (a.put (some d) v) w->Q (.panic c) a w)->PanTo w0 H σ r Q->(∀σ' d' r' a' w',K σ' d'->Sat w0 σ' r' a' w'->Ag σ r r'->σ.le σ'->Q .normal a' w')->wpAny P .any ops Q ops.size (Array.replicate ops.size false) a { w with drawn:=w.drawn+1 }:=by
 let⟨l⟩:=ops;unfold Ix at h;split at h
 case h_2=>let⟨h1,M⟩:=Qq h;exact λr a w F Q hQ hP z=>KX _ _ _ _ (EJ (kl:=[]) (r0:=r) hT hH h1 _ _ σ _ K M r a _ ⟨F.see.later (p5 _ _).drew,F.sep,F.defers⟩ oc (λ_ _ e=>nomatch e) (λ_=>λ_ _ e=>nomatch e) Q hQ hP z)
 case h_3 =>
  let⟨h1,M⟩:=Qq h;let⟨M,h3⟩:=Wj M;intro r a w F Q hQ hP z;have N:Sat w0 σ r a w.drew:=⟨F.see.later (p5 _ _).drew,F.sep,F.defers⟩
  exact KX _ _ _ _ (EJ (r0:=r) hT hH h1 _ _ σ _ K M r a _ N oc (λi c e=>⟨rfl,by let⟨cs,X,_⟩:=h3 i c e;exact XK X⟩) (λ_=>Kp.of h3 N.see λ_ _ _=>rfl) Q hQ hP z)
 case h_4=>exact h.elim
 rename_i n late d0;dsimp only at h;let⟨T,h⟩:=Qq h;let⟨hs,d1,hK,G,_,bY⟩:=Ow hT n l 0 [] d0 (λj=>by rw[Lm];simp) rfl (λk x D=>by simp at D) h;rw[Lm]at G;have hl:=VA hT hH (l.drop n) n (K1 σ hs) d1 K hK;intro r a w F Q hQ hP z;have I:∀j,j<n->∃(x:Hd) (o:Oper),hs[j]?=some x/\l[j]?=some o/\uH P w0 l.toArray late σ (Bv (DC l n) σ.ts) hs j x o:=λj B=>by
  grind
 have q:∀(j:Nat) (x:Hd),hs[j]?=some x->j<n/\∃o,l[j]?=some o/\uH P w0 l.toArray late σ (Bv (DC l n) σ.ts) hs j x o:=λj x m=>by
  grind
 simp only[oV,Lx]at T;let⟨⟨⟨⟨c1,c2⟩,c3⟩,c4⟩,c5⟩:=T;let⟨O,bu⟩:=fI (l:=l) (n:=n) λj B=>by
  let⟨x,o,_,M,X⟩:=I j B;exact⟨o,x.d,M,X.1⟩
 have aB:=MM c3;have bc:∀(j:Nat) (x:Hd),hs[j]?=some x->(DC l n)[j]?=some x.d:=λj x m=>by
  let⟨B,o,M,X⟩:=q j x m;exact bu j o x.d B M X.1
 have Y:∀d,d∈DC l n->d<a.tmps.size:=λd hd=>by
  rw[F.see.size];simpa using Lg.1 c4 d hd
 have U:∀(j:Nat) (x:Hd),hs[j]?=some x->∃cl,(JS σ (Bv (DC l n) σ.ts) (hs.take j) cl).fits x.out=true:=λj x m=>by
  let⟨_,o,_,X⟩:=q j x m;exact⟨x.cl,X.2.2.1⟩
 have Z:(List.range n).all (λi=>(KG l.toArray i).all (·<i))=true:=by
  have ad:=c1;simp only[Oq,Lx]at ad;rw[O]at ad;exact ad.1.2
 have V:∀i x,hs[i]?=some x->(∀j,j∈x.cl->Rch l.toArray i j)->∀u γ W,Below w.heap.size w W->(∀j,Rch l.toArray i j->sJ σ r hs j u γ W)->See w0 (JS σ (Bv (DC l n) σ.ts) (hs.take i) x.cl) (rg σ r γ) (NJ a (DC l n) u) W:=λi x m bd u γ W J E =>
  wA F.see (λk s D=>FE D) aB G bc O Y U (q i x m).1 (λj B=>Qbp Z (bd j B) (q i x m).1) J (λj B=>E j (bd j B))
 have ag:∀i x,hs[i]?=some x->(JS σ (Bv (DC l n) σ.ts) (hs.take i) x.cl).bs.length=σ.bs.length+i/\(JS σ (Bv (DC l n) σ.ts) (hs.take i) x.cl).rs.length=σ.rs.length+i:=λi x m=>by
  have hi:=(q i x m).1;have bv:(hs.take i).length=i:=by rw[Ll];omega
  rw[SX,SY,bv];exact⟨rfl,rfl⟩
 refine Dq (Γ:=Gh) (l:=l) (DC l n) (λW=>Below w.heap.size w W) (sJ σ r hs) (tZ hs) (λ_=>Gh.no) (λi=>!late.contains i) c1 hQ c2 c3 (Lg.2 λd hd=>by simpa using Y d hd) (p5 _ _).drew ?hst ?hcg ?hop ?hlate ?htail
 case hst =>
  intro i u γ W W' _ J E x m;let⟨p1,p2,p3,p4⟩:=E x m;exact⟨p1,λt cs e=>(p2 t cs e).later J,λR e=>⟨⟨R.loc _ _ _ _ (λb C=>J.block b ((p3 R e).1.2 b C)) (p3 R e).1.1,λb C=>L9 ((p3 R e).1.2 b C) J.size⟩,(p3 R e).2⟩,p4⟩
 case hcg =>
  intro i u u' γ γ' W hi hu E x m;let⟨_,o,_,ok⟩:=q i x m;let⟨p1,p2,p3,p4⟩:=E x m;have hγ:∀j,j∈i::x.cl->γ j=γ' j:=λj B=>by
   rcases Lb.1 B with rfl|B
   ·exact(hu j (.inl rfl)).2
   ·exact(hu j (.inr (ok.2.1 j B))).2
  have bi:=hu i (.inl rfl);let⟨f1,f2⟩:=L5.1 ok.2.2.2.1;rw[<- bi.1,<- bi.2];refine⟨by rw[p1];exact Zi _ _ (λk D=>Qd4 hγ D) (λk D=>Qd5 hγ D) _ f1,λt cs e=>?_,p3,p4⟩;rw[e]at f2;rw[<- XH _ _ (λk D=>Qd4 (λj B=>hγ j (T6 _ B)) D) (λk D=>Qd5 (λj B=>hγ j (T6 _ B)) D) (r:=rg σ r γ) cs f2];exact p2 t cs e
 case hop =>
  intro i hi o ho u γ W hG E Q' K' bk;let⟨x,o',m,ao,ok⟩:=I i x3;have eo:o'=o:=o7 (ao.symm.trans (l3 ho));subst eo;let⟨k1,k2,k3,k4,k5⟩:=ok;have A:=V i x m k2 u γ W hG E;let⟨l1,l2⟩:=ag i x m;have bl:∀g:Gh,g.x.oneCell'=true->rg σ r (Zg γ i g)=(rg σ r γ).add' (JS σ (Bv (DC l n) σ.ts) (hs.take i) x.cl) g:=λg hg=>by
   unfold Env.add';rw[Qbx hg,l1,l2]
  have bm:∀v w',x.out.b=none->x.out.r=none->v=x.out.s.den (rg σ r γ)->Below W.heap.size W w'->K' ((NJ a (DC l n) u).put o'.dst v) w':=λv w' S e2 hv J=>by
   refine bk v (γ i) w' J (nxt hG J) ?_ ?_
   ·intro y L;obtain rfl:=o7 (m.symm.trans L);have eγ:Zg γ i (γ i)=γ:=by funext k;unfold Zg;split<;>simp_all
    rw[eγ,XB];exact⟨hv,λt cs e=>(by rw[S]at e;cases e),λR e=>(by rw[e2]at e;cases e),λp R e=>(by rw[S]at e;cases e)⟩
   ·rintro b ⟨y,L,T⟩;obtain rfl:=o7 (m.symm.trans L);rcases T with⟨p,e,_⟩|⟨R,e,_⟩
    ·rw[S]at e;cases e
    ·rw[e2]at e;cases e
  rcases k5 with⟨kw,⟨_,kq⟩|⟨_,S,e2,kr⟩⟩|⟨kw,_,ke⟩
  ·rw[if_pos (kw _ _ _ A)];refine kq _ _ _ A Q' K' ?_
   rintro out g w' rfl J f;refine bk _ g w' J (nxt hG J) ?_ ?_
   ·intro y L;obtain rfl:=o7 (m.symm.trans L);rw[XB,XB,bl g f.one];exact⟨rfl,λt cs e=>(f.b t cs e).1,λR e=>⟨⟨(f.r R e).1,λb C=>((f.r R e).2 b C).2⟩,f.one⟩,f.apart⟩
   ·rintro b ⟨y,L,T⟩;obtain rfl:=o7 (m.symm.trans L);rcases T with⟨p,e,rfl⟩|⟨R,e,C⟩
    ·exact⟨(f.b p.1 p.2 e).2,(f.b p.1 p.2 e).1.lt⟩
    ·exact(f.r R e).2 b C
  ·rw[if_pos (kw _ _ _ A)];unfold Oper.wp;rw[kr _ _ _ A];exact bm _ _ S e2 rfl (p5 _ _)
  ·rw[if_neg (by rw[kw _ _ _ A];simp)];exact bm undef W (by rw[ke];rfl) (by rw[ke];rfl) (by rw[ke];rfl) (p5 _ _)
 case hlate =>
  intro i hi hst;let⟨x,o',m,ao,ok⟩:=I i x3;let⟨k1,k2,k3,k4,k5⟩:=ok;have bn:Zf i late=true:=by
   refine memB_mem.2 ?_
   simpa using hst
  rcases k5 with⟨kw,⟨e,_⟩|⟨_,S,e2,kr⟩⟩|⟨_,e,_⟩
  ·rw[bn]at e;cases e
  ·refine⟨?_,λo ho u γ W hG E=>?_⟩
   ·rintro g b ⟨y,L,T⟩;obtain rfl:=o7 (m.symm.trans L);rcases T with⟨p,e,_⟩|⟨R,e,_⟩
    ·rw[S]at e;cases e
    ·rw[e2]at e;cases e
   ·have eo:o'=o:=o7 (ao.symm.trans (l3 ho));subst eo;have A:=V i x m k2 u γ W hG E;refine⟨_,.inl ⟨kw _ _ _ A,λw'=>kr _ _ _ A w'⟩,?_⟩;intro y L;obtain rfl:=o7 (m.symm.trans L);rw[XB];exact⟨rfl,λt cs e=>(by rw[S]at e;cases e),λR e=>(by rw[e2]at e;cases e),λp R e=>(by rw[S]at e;cases e)⟩
  ·rw[bn]at e;cases e
 case htail =>
  intro u γ W hG E hF hD;rw[O]at E hF hD ⊢;have aw:σ.le (K1 σ hs):=⟨by rw[iK];exact Rm _ _,by rw[iL];exact Rm _ _⟩
  have bp:Ag σ r (rg σ r γ):=⟨λ_ hi=>if_pos hi,λ_ hi=>if_pos hi⟩
  exact hl _ _ _ (qo F aB G bc O Y U hG E hF hD) Q (hP.later bp aw) λσ' d' r' a' w' D N bX bq=>z σ' d' r' a' w' D N (bp.trans aw bX) (aw.trans bq)
end
inductive Ex where
 |normal
 |exit (id:Nat)
 |ret
def Ex.to:Ex->Exit
 |.normal=>.normal
 |.exit id=>.exit id
 |.ret=>.ret
def ip(a b:y9)(p:Prop):Prop:=match a with
 |.int k x=>(match b with
  |.int c y=>Z6 (gi k c) (x=y/\p)
  |_=>False)
 |.bool x=>(match b with
  |.bool y=>x=y/\p
  |_=>False)
 |.string x=>(match b with
  |.string y=>x=y/\p
  |_=>False)
 |a=>a=b/\p
theorem eg{a b:y9}(h:ip a b p):a=b/\p:=by
 unfold ip at h
 grind[Qq,Mv]
mutual
def qj(s u:SV)(p:Prop):Prop:=match s with
 |.val a=>(match u with
  |.val b=>ip a b p
  |_=>False)
 |.ptr b o=>(match u with
  |.ptr d e=>Z6 (Nat.beq b d&&Nat.beq o e) p
  |_=>False)
 |.sli b o n c=>(match u with
  |.sli d e g h=>Z6 (Nat.beq b d&&Nat.beq o e&&Nat.beq n g&&Nat.beq c h) p
  |_=>False)
 |.clo f l m=>(match u with
  |.clo k q r=>f=k/\ER l q (ER m r p)
  |_=>False)
 |.agg l=>(match u with
  |.agg m=>ER l m p
  |_=>False)
 |.tup l=>(match u with
  |.tup m=>ER l m p
  |_=>False)
 |.han i=>(match u with
  |.han j=>Z6 (Nat.beq i j) p
  |_=>False)
def ER(l m:List SV)(p:Prop):Prop:=match l with
 |[]=>(match m with
  |[]=>p
  |_=>False)
 |s::l=>(match m with
  |u::m=>qj s u (ER l m p)
  |_=>False)
end
mutual
theorem M8:∀(s u:SV) (p:Prop),qj s u p->s=u/\p
 |.val a,u,p,h=>by
  cases u<;>first|exact False.elim h|skip
  let⟨e,d⟩:=eg (show ip a _ p from h)
  grind
 |.ptr b o,u,p,h=>by
  cases u<;>first|exact False.elim h|skip
  let⟨g,h⟩:=Qq (show Z6 _ p from h);simp_all
 |.sli b o n c,u,p,h=>by
  cases u<;>first|exact False.elim h|skip
  let⟨g,h⟩:=Qq (show Z6 _ p from h);simp_all
 |.clo f l m,u,p,h=>by
  cases u<;>first|exact False.elim h|skip
  let⟨j,d⟩:=(show _=_/\ER l _ (ER m _ p)from h)
  let⟨k,q⟩:=Vl l _ _ d;let⟨r,t⟩:=Vl m _ _ q;rw[j,k,r];exact⟨rfl,t⟩
 |.agg l,u,p,h=>by
  cases u<;>first|exact False.elim h|skip
  let⟨e,d⟩:=Vl l _ p h;rw[e];exact⟨rfl,d⟩
 |.tup l,u,p,h=>by
  cases u<;>first|exact False.elim h|skip
  let⟨e,d⟩:=Vl l _ p h;rw[e];exact⟨rfl,d⟩
 |.han i,u,p,h=>by
  cases u<;>first|exact False.elim h|skip
  let⟨g,h⟩:=Qq (show Z6 _ p from h);rw[Ld g];exact⟨rfl,h⟩
theorem Vl:∀(l m:List SV) (p:Prop),ER l m p->l=m/\p
 |[],m,p,h=>by
  cases m<;>first|exact⟨rfl,h⟩|exact False.elim h
 |s::l,m,p,h=>by
  cases m with
  |nil=>exact False.elim h
  |cons u m =>
   let⟨b,a⟩:=M8 s u _ h;let⟨c,d⟩:=Vl l m p a
   grind
end
def qN(σ τ:St):List (Nat×SV)->Prop->Prop
 |[],p=>p
 |(k,s)::l,p=>match Yv k σ.ts with
  |some u=>Z6 (τ.lt s) (qj u s (qN σ τ l p))
  |none=>False
def wS(τ:St):List (Option (o0×List SV))->List (Option (o0×List SV))->Prop->Prop
 |_,[],p=>p
 |[],_::_,_=>False
 |_::l,none::m,p=>wS τ l m p
 |x::l,some q::m,p=>Z6 (τ.ltL q.2) (x=some q/\wS τ l m p)
def kT:List (Option Res)->List (Option Res)->Prop->Prop
 |_,[],p=>p
 |[],_::_,_=>False
 |_::l,none::m,p=>kT l m p
 |x::l,some R::m,p=>match x with
  |some a=>(∀v S w,a.φ v S w->R.φ v S w)/\kT l m p
  |none=>False
def Yb(σ τ:St)(p:Prop):Prop:=Z6 (Nat.beq σ.n τ.n) (qN σ τ τ.ts (wS τ σ.bs τ.bs (kT σ.rs τ.rs p)))
def D5:Code->Option Nat
 |.region id _ _=>some id
 |.seq a b=>(match D5 a with
  |some k=>some k
  |none=>D5 b)
 |.cond _ a b=>(match D5 a with
  |some k=>some k
  |none=>D5 b)
 |.block _ b=>D5 b
 |.loop b=>D5 b
 |.rangeFunc _ _ a b=>(match D5 a with
  |some k=>some k
  |none=>D5 b)
 |_=>none
def Me(c:Code):Nat:=match D5 c with
 |some k=>k
 |none=>0
def gg:List (Option Res)->List (Option Res)->List (Option Res)
 |_,[]=>[]
 |[],m=>m
 |_::l,some R::m=>some R::gg l m
 |x::l,none::m=>x::gg l m
def He:List (Option (o0×List SV))->List (Option (o0×List SV))->List (Option (o0×List SV))
 |_,[]=>[]
 |[],m=>m
 |_::l,some (t,c::cs)::m=>some (t,c::cs)::He l m
 |_::l,some (_,[])::m=>none::He l m
 |x::l,none::m=>x::He l m
def Dc(σ τ:St):St:={ τ with bs:=He σ.bs τ.bs,rs:=gg σ.rs τ.rs }
def tj(τ:St):Option (o0×List SV)->Bool
 |none=>true
 |some q=>τ.ltL q.2
def SK(τ:St):List (Option (o0×List SV))->List (Option (o0×List SV))->List (Option (o0×List SV))->Prop->Prop
 |_,_,[],p=>p
 |[],_,_::_,_=>False
 |_::_,[],_::_,_=>False
 |x::l,y::m,none::n,p=>Z6 (tj τ y) (x=y/\SK τ l m n p)
 |_::l,_::m,some (_,[])::n,p=>SK τ l m n p
 |x::l,_::m,some (t,c::cs)::n,p=>match x with
  |some (u,ds)=>Z6 (Nat.beq u t&&τ.ltL (c::cs)) (ER ds (c::cs) (SK τ l m n p))
  |none=>False
def kS(a σ τ:St)(p:Prop):Prop:=Z6 (Nat.beq a.n τ.n) (qN a (Dc σ τ) τ.ts (SK (Dc σ τ) a.bs σ.bs τ.bs (kT a.rs (gg σ.rs τ.rs) p)))
def Qda:List Dir->Bool
 |.row _ j _ _ _ _ _ _ _::_=>Nat.beq j 99999
 |.nil _ j _ _ _::_=>Nat.beq j 99999
 |.join _ j _ _::_=>Nat.beq j 99999
 |.cnv _ j _ _::_=>Nat.beq j 99999
 |.opn _ j _ _ _ _::_=>Nat.beq j 99999
 |_=>false
def Qe8(a:Nat):List Dir->Bool
 |.cut r _ _ _ _::_=>Nat.beq r a
 |_=>false
def oU(a:Nat×Nat)(σ:St):Bool:=Nat.ble a.1 σ.bs.length&&Nat.ble a.2 σ.rs.length
def ob(f:St->List Dir->(Ex->St->List Dir->Prop)->Prop):Nat->St->List Dir->(Ex->St->List Dir->Prop)->Prop
 |0,_,_,_=>False
 |n+1,σ,d,K=>f σ d λe a b=>match e with
  |.normal=>ob f n a b K
  |.exit id=>K (.exit id) a b
  |.ret=>K .ret a b
def XE(P:xO)(tt:List (Nat×TI))(H:Cx)(f:Nat×Nat)(w0:xH):Code->St->List Dir->(Ex->St->List Dir->Prop)->Prop
 |.skip,σ,d,K=>K .normal σ d
 |.region id ops o,σ,d,K=>(match o with
  |true=>Ix P tt H w0 id ops σ d λσ d=>K .normal σ d
  |false=>KC P tt H w0 id ops ops.toList 0 σ d λσ d=>K .normal σ d)
 |.seq a b,σ,d,K=>match Qe8 (Me b) d with
  |true=>(match d with
   |.cut _ I C nx l::g=>XE P tt H f w0 a σ g (λe h j=>match e with
    |.normal=>(match j with
     |.nxc k u::_=>kS h σ (I (nx k u)) (C (nx k u))
     |_=>False)
    |.exit id=>K (.exit id) h j
    |.ret=>K .ret h j)/\∀z,C z->Z6 (oU f (Dc σ (I z))) (XE P tt H f w0 b (Dc σ (I z)) (l z) K)
   |_=>False)
  |false=>XE P tt H f w0 a σ d λe σ d=>match e with
   |.normal=>(match Qda d with
    |true=>JU (Me b) 99999 4 σ d λσ d=>XE P tt H f w0 b σ d K
    |false=>XE P tt H f w0 b σ d K)
   |.exit id=>K (.exit id) σ d
   |.ret=>K .ret σ d
 |.cond c x y,σ,d,K=>Vz σ c λs=>match s with
  |.val (.bool v)=>(match d with
   |.br b::d=>v=b/\(match b with
    |true=>XE P tt H f w0 x σ d K
    |false=>XE P tt H f w0 y σ d K)
   |.both p dy::_=>(v=true->XE P tt H f w0 x σ p K)/\(v=false->XE P tt H f w0 y σ dy K)
   |d=>(match v with
    |true=>XE P tt H f w0 x σ d K
    |false=>XE P tt H f w0 y σ d K))
  |_=>False
 |.block id b,σ,d,K=>XE P tt H f w0 b σ d λe σ d=>match e with
  |.normal=>K .normal σ d
  |.exit i=>(match Nat.beq i id with
   |true=>K .normal σ d
   |false=>K (.exit i) σ d)
  |.ret=>K .ret σ d
 |.loop b,σ,d,K=>(match d with
  |.loop I C μ m nx l::_=>kS σ σ (I m) (C m/\∀a,C a->Z6 (oU f (Dc σ (I a))) (XE P tt H f w0 b (Dc σ (I a)) (l a) λe h g=>match e with
   |.normal=>(match g with
    |.next k::_=>kS h σ (I (nx a k)) (C (nx a k)/\μ (nx a k)<μ a)
    |_=>False)
   |.exit id=>K (.exit id) h g
   |.ret=>K .ret h g))
  |.lop I C μ m nx l::_=>kS σ σ (I m) (C m/\∀a,C a->Z6 (oU f (Dc σ (I a))) (XE P tt H f w0 b (Dc σ (I a)) (l a) λe h g=>match e with
   |.normal=>(match g with
    |.nxt u::_=>kS h σ (I (nx a u)) (C (nx a u)/\μ (nx a u)<μ a)
    |_=>False)
   |.exit id=>K (.exit id) h g
   |.ret=>K .ret h g))
  |.unr n::g=>ob (λσ d K=>XE P tt H f w0 b σ d K) n σ g K
  |_=>False)
 |.exit id,σ,d,K=>K (.exit id) σ d
 |.ret,σ,d,K=>K .ret σ d
 |.label _,σ,d,K=>K .normal σ d
 |_,_,_,_=>False
variable{τ:St}
section
variable{P:xO}{tt:List (Nat×TI)}{w0:xH}
theorem Cg{σ τ:St}:∀ {l:List (Nat×SV)} {p:Prop},qN σ τ l p->p/\∀k s,Yv k l=some s->Yv k σ.ts=some s/\τ.lt s=true
 |[],p,h=>⟨h,λ_ _ h=>by cases h⟩
 |(j,u)::l,p,h=>by
  unfold qN at h;split at h
  ·rename_i y g;let⟨i,b⟩:=Qq h;obtain⟨rfl,c⟩:=M8 _ _ _ b;let⟨d,f⟩:=Cg (l:=l) c;refine⟨d,λk s a=>?_⟩;unfold Yv at a;cases e:Nat.beq j k with
   |true =>
    simp_all
   |false=>rw[e]at a;exact f k s a
  ·exact h.elim
def Cd{τ:St}:∀ {l m:List (Option (o0×List SV))} {p:Prop},wS τ l m p->p/\m.length<=l.length/\∀i t cs,Xq m i=some (t,cs)->Xq l i=some (t,cs)/\τ.ltL cs=true
 |l,[],p,h=>⟨(by cases l<;>exact h),L7 _,λ_ _ _ h=>by cases h⟩
 |[],_::_,p,h=>False.elim h
 |x::l,none::m,p,h=>by
  let⟨b,c,d⟩:=Cd (l:=l) (m:=m) h;refine⟨b,T3 c,λi t cs a=>?_⟩;cases i with
  |zero=>cases a
  |succ i=>exact d i t cs a
 |x::l,some q::m,p,h=>by
  obtain⟨f,rfl,g⟩:=Qq h;let⟨b,c,d⟩:=Cd (l:=l) (m:=m) g;refine⟨b,T3 c,λi j e a=>?_⟩;cases i with
  |zero=>obtain rfl:=o7 a;exact⟨rfl,f⟩
  |succ i=>exact d i j e a
theorem Ce{τ:St}:∀ {l m n:List (Option (o0×List SV))} {p:Prop},SK τ l m n p->p/\(He m n).length<=l.length/\∀i t cs,Xq (He m n) i=some (t,cs)->Xq l i=some (t,cs)/\τ.ltL cs=true
 |l,m,[],p,h=>⟨(by unfold SK at h;exact h),(by unfold He;exact L7 _),λ_ _ _ h=>by unfold He at h;cases h⟩
 |x::l,y::m,none::n,p,h=>by
  unfold SK at h;obtain⟨k,rfl,o⟩:=Qq h;let⟨f,g,j⟩:=Ce (l:=l) (m:=m) (n:=n) o;refine⟨f,T3 g,λi d a b=>?_⟩;cases i with
  |zero=>obtain rfl:x=some (d,a):=b;exact⟨rfl,k⟩
  |succ i=>exact j i d a b
 |x::l,y::m,some (t,[])::n,p,h=>by
  unfold SK at h;let⟨f,g,j⟩:=Ce (l:=l) (m:=m) (n:=n) h;refine⟨f,T3 g,λi d a b=>?_⟩;cases i with
  |zero=>cases b
  |succ i=>exact j i d a b
 |x::l,y::m,some (t,c::cs)::n,p,h=>by
  unfold SK at h;split at h
  ·rename_i u ds;let⟨q,h⟩:=Qq h;let⟨k1,k⟩:=L5.1 q;let⟨r,o⟩:=Vl _ _ _ h;have s:=Ld k1;let⟨f,g,j⟩:=Ce (l:=l) (m:=m) (n:=n) o;refine⟨f,T3 g,λi d a b=>?_⟩;cases i with
   |zero =>
    have e:(t,c::cs)=(d,a):=o7 b;obtain⟨rfl,rfl⟩:=Prod.mk.inj e;rw[r,s];exact⟨rfl,k⟩
   |succ i=>exact j i d a b
  grind
 |[],_,_::_,p,h=>False.elim h
 |_::_,[],_::_,p,h=>False.elim h
theorem Cf:∀ {l m:List (Option Res)} {p:Prop},kT l m p->p/\m.length<=l.length/\∀i R,Xq m i=some R->∃b,Xq l i=some b/\∀v S w,b.φ v S w->R.φ v S w
 |l,[],p,h=>⟨(by cases l<;>exact h),L7 _,λ_ _ h=>by cases h⟩
 |[],_::_,p,h=>False.elim h
 |x::l,none::m,p,h=>by
  let⟨c,d,e⟩:=Cf (l:=l) (m:=m) h;refine⟨c,T3 d,λi R a=>?_⟩;cases i with
  |zero=>cases a
  |succ i=>exact e i R a
 |x::l,some R::m,p,h=>by
  unfold kT at h;split at h
  ·rename_i b;let⟨c,d,e⟩:=Cf (l:=l) (m:=m) h.2;refine⟨c,T3 d,λi f a=>?_⟩;cases i with
   |zero =>
    obtain rfl:=o7 a;exact⟨b,rfl,h.1⟩
   |succ i=>exact e i f a
  grind
theorem ir(m:Nat.beq σ.n τ.n=true)(o:∀k s,Yv k τ.ts=some s->Yv k σ.ts=some s/\τ.lt s=true)(g:∀i t cs,Xq τ.bs i=some (t,cs)->Xq σ.bs i=some (t,cs)/\τ.ltL cs=true)(u:τ.rs.length<=σ.rs.length)(h:∀i R,Xq τ.rs i=some R->∃e,Xq σ.rs i=some e/\∀v S w,e.φ v S w->R.φ v S w):∀r a w,Sat w0 σ r a w->Sat w0 τ r a w:=by
 refine λr a w c=>⟨⟨c.see.low,c.see.size.trans (Ld m),λk s x=>?_,λi t cs b=>?_,λi R b=>?_,λi b=>c.see.one i (L9 b u)⟩,⟨λi p b=>?_,λi j p q b l=>?_,λi R b=>?_,λi j R e b l=>?_,λi j p R b l=>?_⟩,c.defers⟩
 ·let⟨d,f⟩:=o k s x;exact⟨(c.see.ts k s d).1,f⟩
 ·let⟨d,f⟩:=g i t cs b;exact⟨(c.see.bs i t cs d).1,f⟩
 ·let⟨e,d,f⟩:=h i R b;let⟨y,z⟩:=c.see.rs i e d
  grind
 ·exact c.sep.own i p (g i p.1 p.2 b).1
 ·exact c.sep.inj i j p q (g i p.1 p.2 b).1 (g j q.1 q.2 l).1
 ·let⟨e,d,_⟩:=h i R b;exact c.sep.ownS i e d
 ·let⟨_,d,_⟩:=h i R b;let⟨_,f,_⟩:=h j e l;exact c.sep.disj i j _ _ d f
 ·let⟨_,f,_⟩:=h j R l;exact c.sep.apart i j p _ (g i p.1 p.2 b).1 f
theorem Q3(w0:xH)(h:Yb σ τ p):p/\∀r a w,Sat w0 σ r a w->Sat w0 τ r a w:=by
 let⟨b,h⟩:=Qq h;let⟨h,c⟩:=Cg h;let⟨h,_,d⟩:=Cd h;let⟨h,e,f⟩:=Cf h
 grind[ir]
def DO(w0:xH){b:St}(h:kS b σ τ p):p/\∀r a w,Sat w0 b r a w->Sat w0 (Dc σ τ) r a w:=by
 let⟨c,h⟩:=Qq h;let⟨h,d⟩:=Cg h;let⟨h,_,e⟩:=Ce h;let⟨h,f,g⟩:=Cf h;exact⟨h,ir (τ:=Dc σ τ) c d e f g⟩
def Hq{c:Code}{Q:Exit->Act->xH->Prop}(J:α->Act->xH->Prop)(μ:α->Nat)(round:∀x a w,J x a w->c.wp P (Exit.then (λh w'=>∃y,J y h w'/\μ y<μ x) Q) a w)(q:α){w:xH}(r:J q a w):(Code.loop c).wp P Q a w:=by
 intro b k cs;have key:∀n x a w,μ x=n->J x a w->∃e h w',Q e h w'/\Arrives P (lone (b.at a (.code c::.inLoop c::k)) cs w) b k cs e h w':=by
  intro n;induction n using Nat.strongRecOn with
  |_ n s =>
   intro x a w t u;let⟨e,i,j,f,d⟩:=round x a w u b (.inLoop c::k) cs;cases e with
   |normal =>
    let⟨y,m,o⟩:=f;let⟨v,z,A,p,g⟩:=s (μ y) (t▸o) y i j rfl m;exact⟨v,z,A,p,.of_steps (Steps.trans d (.one step_inLoop)) g⟩
   |exit id=>exact⟨_,i,j,f,.pass (x:=.inLoop c) rfl (λ_ _=>.inl x6) d⟩
   |goto l=>exact⟨_,i,j,f,.pass (x:=.inLoop c) rfl (λ_ _=>.inl x6) d⟩
   |ret=>exact⟨_,i,j,f,.pass (x:=.inLoop c) rfl (λ_ _=>.inl x6) d⟩
   |panic B=>exact⟨_,i,j,f,.pass (x:=.inLoop c) rfl (λ_ _=>.inl x6) d⟩
   |outgrown=>exact⟨_,i,j,f,.pass (x:=.inLoop c) rfl (λ_ _=>.inl x6) d⟩
 let⟨e,h,w',f,d⟩:=key _ q a w rfl r;exact⟨e,h,w',f,.of_steps (.one step_loop) d⟩
structure Rules (P:Program) (V:Code->(Exit->Act->World->Prop)->Act->World->Prop):Prop where
 skip:∀ {Q:Exit->Act->World->Prop} {a:Act} {w:World},Q .normal a w->V .skip Q a w
 label:∀ {l:Nat} {Q:Exit->Act->World->Prop} {a:Act} {w:World},Q .normal a w->V (.label l) Q a w
 exit:∀ {id:Nat} {Q:Exit->Act->World->Prop} {a:Act} {w:World},Q (.exit id) a w->V (.exit id) Q a w
 ret:∀ {Q:Exit->Act->World->Prop} {a:Act} {w:World},Q .ret a w->V .ret Q a w
 rl:∀ {id:Nat} {ops:Array Oper} {Q:Exit->Act->World->Prop} {a:Act} {w:World},wpList P ops Q ops.toList a w->V (.region id ops false) Q a w
 rd:∀ {id:Nat} {ops:Array Oper} {Q:Exit->Act->World->Prop} {a:Act} {w:World},wpAny P .any ops Q ops.size (Array.replicate ops.size false) a { w with drawn:=w.drawn+1 }->V (.region id ops true) Q a w
 seq:∀ {x y:Code} {Q:Exit->Act->World->Prop} {a:Act} {w:World},V x (Exit.then (V y Q) Q) a w->V (.seq x y) Q a w
 ct:∀ {c:Operand} {x y:Code} {Q:Exit->Act->World->Prop} {a:Act} {w:World},a.eval c=.bool true->V x Q a w->V (.cond c x y) Q a w
 cf:∀ {c:Operand} {x y:Code} {Q:Exit->Act->World->Prop} {a:Act} {w:World},a.eval c=.bool false->V y Q a w->V (.cond c x y) Q a w
 block:∀ {id:Nat} {c:Code} {Q:Exit->Act->World->Prop} {a:Act} {w:World},V c (Exit.inBlock id Q) a w->V (.block id c) Q a w
 loop:∀ {α:Type} {c:Code} {Q:Exit->Act->World->Prop} (J:α->Act->World->Prop) (μ:α->Nat),(∀x a w,J x a w->V c (Exit.then (λa' w'=>∃y,J y a' w'/\μ y<μ x) Q) a w)->∀(x0:α) {a:Act} {w:World},J x0 a w->V (.loop c) Q a w
def Kb(b:P.follows .mixedOrders=true):Rules P λc Q a w=>c.wp P Q a w :=
 ⟨wp_skip,wp_label,wp_exit,wp_ret,wp_region_list,wp_region_any b,wp_seq,wp_cond_true,wp_cond_false,wp_block,λJ μ h d _ _ e=>Hq J μ h d e⟩
def DV(Q:Exit->Act->xH->Prop):Prop:=∀(d:Tmp) (v:y9) c a w,Q (.panic c) (a.put (some d) v) w->Q (.panic c) a w
def AgN(a:Nat×Nat)(r c:Env):Prop:=(∀i,i<a.1->c.b i=r.b i)/\∀i,i<a.2->c.x i=r.x i
def FlOk(a:Nat×Nat)(σ:St):Prop:=a.1<=σ.bs.length/\a.2<=σ.rs.length
def AgN.refl(a:Nat×Nat)(r:Env):AgN a r r:=⟨λ_ _=>rfl,λ_ _=>rfl⟩
def AgN.trans{c:Nat×Nat}{d a:Env}(h:AgN c r d)(k:AgN c d a):AgN c r a:=⟨λi b=>(k.1 i b).trans (h.1 i b),λi b=>(k.2 i b).trans (h.2 i b)⟩
def Ag.n{fl:Nat×Nat}{a:Env}(h:Ag σ r a)(b:FlOk fl σ):AgN fl r a:=⟨λi hi=>h.1 i (L9 hi b.1),λi hi=>h.2 i (L9 hi b.2)⟩
def FlOk.le{a:Nat×Nat}{σ':St}(h:FlOk a σ)(k:σ.le σ'):FlOk a σ':=⟨L6 h.1 k.1,L6 h.2 k.2⟩
def cz{a:Nat×Nat}(h:oU a σ=true):FlOk a σ:=by
 let⟨b,c⟩:=L5.1 h;exact⟨L8 b,L8 c⟩
def PanN(w0:xH)(H:Cx)(c:Nat×Nat)(r:Env)(Q:Exit->Act->xH->Prop):Prop:=∀s a e b d w',H.pan s a e->Sat w0 a b d w'->FlOk c a->AgN c r b->a.lt s=true->Q (.panic [{ v:=s.den b,recovered:=false }]) d w'
def PanN.at{a:Nat×Nat}{Q:Exit->Act->xH->Prop}(h:PanN w0 H a r Q)(b:FlOk a σ):PanTo w0 H σ r Q:=λs c d e f w' g i j k hs=>h s c d e f w' g i (b.le k) (j.n b) hs
def PanN.later{a:Nat×Nat}{c:Env}{Q:Exit->Act->xH->Prop}(h:PanN w0 H a r Q)(d:AgN a r c):PanN w0 H a c Q:=λs e f g i w' j k l b hs=>h s e f g i w' j k l (d.trans b) hs
theorem G9{V:Code->(Exit->Act->xH->Prop)->Act->xH->Prop}(F:Rules P V)(hT:YF P tt)(hH:NC P w0 H.inl)(U:Nat×Nat):∀(c:Code) (σ:St) (d:List Dir) (K:Ex->St->List Dir->Prop),XE P tt H U w0 c σ d K->FlOk U σ->∀r a w,Sat w0 σ r a w->∀(Q:Exit->Act->xH->Prop),DV Q->PanN w0 H U r Q ->
  (∀e B A p u w',K e B A->Sat w0 B p u w'->FlOk U B->AgN U r p->Q e.to u w')->V c Q a w:=by
 intro c;induction c with
 |skip=>exact λσ d K h z r a w q Q _ _ o=>F.skip (o _ _ _ _ _ _ h q z (AgN.refl _ _))
 |region id ops dr =>
  intro σ d K h z r a w q Q E D o;cases dr with
  |true=>exact F.rd (d7 hT hH (show Ix P tt H w0 id ops σ d _ from h) r a w q Q E (D.at z) λB A p u w' J f k hl=>o _ _ _ _ _ _ J f (z.le hl) (k.n z))
  |false=>exact F.rl (VA hT hH ops.toList 0 σ d _ (show KC P tt H w0 id ops ops.toList 0 σ d _ from h) r a w q Q (D.at z) λB A p u w' J f k hl=>o _ _ _ _ _ _ J f (z.le hl) (k.n z))
 |seq x y L G =>
  intro σ d K h z r a w q Q E D o;unfold XE at h;split at h
  ·split at h
   ·let⟨J,h2⟩:=h;refine F.seq (L σ _ _ J z r a w q _ (λd v c a w M=>E d v c a w M) (λs B A p u w'=>D s B A p u w') λe B A p u w' j f g k=>?_);cases e with
    |normal =>
     dsimp only at j;split at j
     ·let⟨k1,W⟩:=DO w0 j;let⟨N,hx⟩:=Qq (h2 _ k1);exact G _ _ K hx (cz N) p u w' (W _ _ _ f) Q E (D.later k) λe σ3 d3 r3 a3 w3 O R S T=>o e σ3 d3 r3 a3 w3 O R S (k.trans T)
     grind
    |exit id=>exact o _ _ _ _ _ _ j f g k
    |ret=>exact o _ _ _ _ _ _ j f g k
   grind
  refine F.seq (L σ d _ h z r a w q _ (λd v c a w M=>E d v c a w M) (λs B A p u w'=>D s B A p u w') λe B A p u w' j f g k=>?_);cases e with
  |normal =>
   dsimp only at j;split at j
   ·let⟨Y,d1,r1,k1,k2,W,k4⟩:=DF 4 j p u w' f;exact G _ _ K k1 (g.le k4) r1 u w' k2 Q E (D.later (k.trans (W.n g))) λe σ3 d3 r3 a3 w3 O R S T=>o e σ3 d3 r3 a3 w3 O R S (k.trans ((W.n g).trans T))
   ·exact G B _ K j g p u w' f Q E (D.later k) λe σ3 d3 r3 a3 w3 O R S T=>o e σ3 d3 r3 a3 w3 O R S (k.trans T)
  |exit id=>exact o _ _ _ _ _ _ j f g k
  |ret=>exact o _ _ _ _ _ _ j f g k
 |cond c x y L G =>
  intro σ d K h z r a w q Q E D o;let⟨s,J,h⟩:=QI (show Vz σ c _ from h);split at h
  ·rename_i v;have Z:=(QB q.see J).1;split at h
   ·rename_i b A _;obtain⟨rfl,h⟩:=h;cases v with
    |true=>exact F.ct Z (L σ A K h z r a w q Q E D o)
    |false=>exact F.cf Z (G σ A K h z r a w q Q E D o)
   ·rename_i dx dy _ _;cases v with
    |true=>exact F.ct Z (L σ dx K (h.1 rfl) z r a w q Q E D o)
    |false=>exact F.cf Z (G σ dy K (h.2 rfl) z r a w q Q E D o)
   ·cases v with
    |true=>exact F.ct Z (L σ _ K h z r a w q Q E D o)
    |false=>exact F.cf Z (G σ _ K h z r a w q Q E D o)
  ·exact h.elim
 |block id b ih =>
  intro σ d K h z r a w q Q E D o;refine F.block (ih σ d _ h z r a w q _ (λd v c a w M=>E d v c a w M) (λs B A p u w'=>D s B A p u w') λe B A p u w' j f g k=>?_);cases e with
  |normal=>exact o .normal _ _ _ _ _ j f g k
  |exit i =>
   show(if i=id then Q .normal u w' else Q (.exit i) u w');dsimp only at j;cases e2:Nat.beq i id with
   |true=>rw[e2]at j;rw[if_pos (Ld e2)];exact o .normal _ _ _ _ _ j f g k
   |false=>rw[e2]at j;rw[if_neg (Nat.ne_of_beq_eq_false e2)];exact o (.exit i) _ _ _ _ _ j f g k
  |ret=>exact o .ret _ _ _ _ _ j f g k
 |loop b ih =>
  intro σ d K h z r a w q Q E D o;unfold XE at h;split at h
  ·rename_i α I C μ a0 nx bd _;let⟨⟨J,h2⟩,h3⟩:=DO w0 h;refine F.loop (λx a w=>C x/\∃p,Sat w0 (Dc σ (I x)) p a w/\AgN U r p) μ (λx a w hJ=>?_) a0 ⟨J,r,h3 r a w q,AgN.refl _ _⟩;let⟨hc,r1,q,t⟩:=hJ;let⟨N,X⟩:=Qq (h2 x hc);refine ih (Dc σ (I x)) (bd x) _ X (cz N) r1 a w q _ (λd v c a w M=>E d v c a w M) (λs B A p u w' j f g k=>D s B A p u w' j f g (t.trans k)) λe B A p u w' j f g k=>?_
   cases e with
   |normal =>
    dsimp only at j;split at j
    ·let⟨⟨k1,k2⟩,W⟩:=DO w0 j;exact⟨_,⟨k1,p,W _ _ _ f,t.trans k⟩,k2⟩
    ·exact j.elim
   |exit id=>exact o _ _ _ _ _ _ j f g (t.trans k)
   |ret=>exact o _ _ _ _ _ _ j f g (t.trans k)
  ·rename_i α I C μ a0 nx bd _;let⟨⟨J,h2⟩,h3⟩:=DO w0 h;refine F.loop (λx a w=>C x/\∃p,Sat w0 (Dc σ (I x)) p a w/\AgN U r p) μ (λx a w hJ=>?_) a0 ⟨J,r,h3 r a w q,AgN.refl _ _⟩;let⟨hc,r1,q,t⟩:=hJ;let⟨N,X⟩:=Qq (h2 x hc);refine ih (Dc σ (I x)) (bd x) _ X (cz N) r1 a w q _ (λd v c a w M=>E d v c a w M) (λs B A p u w' j f g k=>D s B A p u w' j f g (t.trans k)) λe B A p u w' j f g k=>?_
   cases e with
   |normal =>
    dsimp only at j;split at j
    ·let⟨⟨k1,k2⟩,W⟩:=DO w0 j;exact⟨_,⟨k1,p,W _ _ _ f,t.trans k⟩,k2⟩
    ·exact j.elim
   |exit id=>exact o _ _ _ _ _ _ j f g (t.trans k)
   |ret=>exact o _ _ _ _ _ _ j f g (t.trans k)
  ·rename_i n A;refine F.loop (λm a w=>∃Y d1 r1,ob (λσ d K=>XE P tt H U w0 b σ d K) m Y d1 K/\Sat w0 Y r1 a w/\FlOk U Y/\AgN U r r1) (λm=>m) (λm a w hJ=>?_) n ⟨σ,A,r,h,q,z,AgN.refl _ _⟩;let⟨Y,d1,r1,J,ad,ag,t⟩:=hJ;cases m with
   |zero=>exact False.elim J
   |succ m =>
    refine ih Y d1 _ J ag r1 a w ad _ (λd v c a w M=>E d v c a w M) (λs B A p u w' j f g k=>D s B A p u w' j f g (t.trans k)) λe B A p u w' j f g k=>?_
    cases e with
    |normal=>exact⟨m,⟨B,A,p,j,f,g,t.trans k⟩,Sh m⟩
    |exit id=>exact o _ _ _ _ _ _ j f g (t.trans k)
    |ret=>exact o _ _ _ _ _ _ j f g (t.trans k)
  ·exact h.elim
 |exit id=>exact λσ d K h z r a w q Q _ _ o=>F.exit (o (.exit id) _ _ _ _ _ h q z (AgN.refl _ _))
 |ret=>exact λσ d K h z r a w q Q _ _ o=>F.ret (o .ret _ _ _ _ _ h q z (AgN.refl _ _))
 |label l=>exact λσ d K h z r a w q Q _ _ o=>F.label (o .normal _ _ _ _ _ h q z (AgN.refl _ _))
 |_=>intro σ d K h;exact False.elim h
def fL(j:YF P tt)(k:P.follows .mixedOrders=true)(l:NC P w0 H.inl)(b:Nat×Nat)(c:Code)(σ:St)(d:List Dir)(K:Ex->St->List Dir->Prop)(h:XE P tt H b w0 c σ d K)(m:FlOk b σ)(r:Env)(a:Act)(w:xH)(n:Sat w0 σ r a w)(Q:Exit->Act->xH->Prop)(o:DV Q)(p:PanN w0 H b r Q)(q:∀e f s g i w',K e f s->Sat w0 f g i w'->FlOk b f->AgN b r g->Q e.to i w'):c.wp P Q a w :=
 G9 (Kb k) j l b c σ d K h m r a w n Q o p q
end
def rZ(tt:List (Nat×TI))(σ:St)(t:o0)(s:SV)(K:SV->Prop):Prop:=match s with
 |.ptr b o=>ZO (Xq σ.bs b) λp=>Hn tt t λti=>match ti.k.agg with
  |true=>Z6 (Nat.ble (o+ti.size) p.2.length) (K (.agg ((p.2.drop o).take ti.size)))
  |false=>ZO (Gq p.2 o) K
 |_=>False
def d9(tt:List (Nat×TI))(σ:St)(v:ResultVar)(K:SV->Prop):Prop:=match v with
 |.tmp t=>Vz σ (.tmp t) K
 |.cell a t=>Vz σ (.tmp a) λs=>rZ tt σ t s K
def kC(tt:List (Nat×TI))(σ:St):List ResultVar->(List SV->Prop)->Prop
 |[],K=>K []
 |v::l,K=>d9 tt σ v λs=>kC tt σ l λm=>K (s::m)
def zZ(l:List SV)(K:SV->Prop):Prop:=match l with
 |[s]=>K s
 |l=>K (.tup l)
def VV(tt:List (Nat×TI))(rs:List ResultVar)(e:Ex)(σ:St)(K:SV->Prop):Prop:=match e with
 |.exit _=>False
 |_=>kC tt σ rs λl=>zZ l K
def fK:o3->Nat->List (Nat×SV)
 |[],_=>[]
 |v::l,k=>(k,.val v)::fK l (k+1)
def Oh:List SV->Nat->List (Nat×SV)
 |[],_=>[]
 |s::l,k=>(k,s)::Oh l (k+1)
def Ej(P:xO)(tt:List (Nat×TI))(w0:xH):Nat->pf
 |0=>λ_ _ _ _ _ _=>False
 |n+1=>λfn l σ d K Kp=>match fn.body with
  |some c=>Z6 (Nat.ble l.length fn.ntmps) (XE P tt ⟨Ej P tt w0 n,Kp⟩ (σ.bs.length,σ.rs.length) w0 c ⟨fn.ntmps,Oh l 0,σ.bs,σ.rs⟩ d λe a b=>VV tt fn.results.toList e a λs=>Z6 (a.lt s) (K s a b))
  |none=>False
def Kj(P:xO)(tt:List (Nat×TI))(w0:xH):Cx:=⟨Ej P tt w0 9,λ_ _ _=>False⟩
def SH(N:Nat)(args:o3):St:=⟨N,fK args 0,[],[]⟩
def Qbt(tmps:x0g):ResultVar->Sem y9
 |.tmp t=>pure (tmps.getD t undef)
 |.cell a t=>do loadVar t (<- asAddr (tmps.getD a undef))
def Nl(fn:Func)(tmps:x0g):results fn tmps=(do
 let a <- fn.results.mapM (Qbt tmps)
 pure (if h:a.size=1 then a[0]else .tuple a)):=rfl
variable{R:y9}{args:o3}{fn:Func}{rs:Array ResultVar}
section
variable{P:xO}{tt:List (Nat×TI)}{w0:xH}{σ:St}
def kD(l:YF P tt){v:ResultVar}(h:d9 tt σ v K):∃s,K s/\∀r a w,Sat w0 σ r a w ->
  (Qbt a.tmps v).run P w=.ok (s.den r) w:=by
 unfold d9 at h;split at h
 ·rename_i t;let⟨s,e,h⟩:=QI h;exact⟨s,h,λr a w d=>by rw[<- (QB d.see e).1];rfl⟩
 ·rename_i x t;let⟨s,e,h⟩:=QI h;unfold rZ at h;split at h
  ·rename_i b o;let⟨p,g,h⟩:=QH h;let⟨ti,i,h⟩:=Xz l h;have j:∀r a w,Sat w0 σ r a w->a.tmps.getD x undef=.pointer (some ⟨r.b b,o,none⟩):=λr a w d=>(QB d.see e).1
   have k:∀(r:Env) (w:xH),(do loadVar t (<- asAddr (.pointer (some ⟨r.b b,o,none⟩))):Sem y9).run P w=(Instr.loadAt t (.pointer (some ⟨r.b b,o,none⟩))).run P w:=λr w=>rfl
   split at h
   ·rename_i f;let⟨m,h⟩:=Qq h;refine⟨_,h,λr a w d=>?_⟩;show(do loadVar t (<- asAddr (a.tmps.getD x undef)):Sem y9).run P w=_;rw[j r a w d,k];simp only[SV.den,Ib];exact MB i f (d.see.bs _ p.1 p.2 g).1 (by rw[KO];exact L8 m)
   ·rename_i f;let⟨c,n,h⟩:=QH h;refine⟨_,h,λr a w d=>?_⟩;show(do loadVar t (<- asAddr (a.tmps.getD x undef)):Sem y9).run P w=_;rw[j r a w d,k];exact Ez i f (d.see.bs _ p.1 p.2 g).1 (DL n)
  ·exact h.elim
def OU(b:YF P tt):∀ {l:List ResultVar} {K:List SV->Prop},kC tt σ l K->∃m,K m/\∀r a w,Sat w0 σ r a w ->
  (l.mapM (Qbt a.tmps)).run P w=.ok (QO r m) w
 |[],K,h=>⟨[],h,λ_ _ _ _=>rfl⟩
 |v::l,K,h=>by
  let⟨s,h,d⟩:=kD (w0:=w0) b h;let⟨m,h,e⟩:=OU b (l:=l) h;refine⟨s::m,h,λr a w c=>?_⟩;rw[List.mapM_cons,xQ,d r a w c,xT,xQ,e r a w c];rfl
theorem AN(w0:xH)(d:YF P tt)(rs:List ResultVar)(f:fn.results=rs.toArray){e:Ex}(h:VV tt rs e σ K):(e=.normal\/e=.ret)/\∃s,K s/\∀r a w,Sat w0 σ r a w->(results fn a.tmps).run P w=.ok (s.den r) w:=by
 have key:kC tt σ rs (λl=>zZ l K)->∃s,K s/\∀r a w,Sat w0 σ r a w->(results fn a.tmps).run P w=.ok (s.den r) w:=λh=>by
  let⟨m,h,g⟩:=OU (w0:=w0) d h;have c:∀r a w,Sat w0 σ r a w->(results fn a.tmps).run P w=.ok (if h:(QO r m).toArray.size=1 then(QO r m).toArray[0]else .tuple (QO r m).toArray) w:=λr a w b=>by
   rw[Nl,f,Array.mapM_eq_mapM_toList,xQ,Sem.run_map,g r a w b];rfl
  unfold zZ at h;split at h
  ·exact⟨_,h,λr a w b=>by rw[c r a w b];rfl⟩
  ·rename_i i;refine⟨_,h,λr a w b=>?_⟩;rw[c r a w b,dif_neg ?_]
   ·rfl
   grind[KO,List.length_eq_one_iff]
 unfold VV at h;cases e with
 |exit id=>exact h.elim
 |normal=>exact⟨.inl rfl,key h⟩
 |ret=>exact⟨.inr rfl,key h⟩
theorem OD{k:Nat}{s:SV}:∀ {l:o3} {j:Nat},Yv k (fK l j)=some s->∃i v,l[i]?=some v/\k=j+i/\s=.val v
 |[],_,h=>by cases h
 |v::l,j,h=>by
  simp only[fK,Yv]at h;cases e:Nat.beq j k with
  |true =>
   rw[e]at h;obtain rfl:=o7 h;simp_all
  |false =>
   rw[e]at h;let⟨i,u,a,c,b⟩:=OD (l:=l) h;exact⟨i+1,u,l3 a,x3,b⟩
theorem qm{N:Nat}(d:args.length<=N)(w:xH):Sat w (SH N args) e0 { tmps:=args.toArray++Array.replicate (N-args.toArray.size) undef,defers:=[] } w:=by
 refine⟨⟨p5 _ _,?_,λk s b=>?_,λi t cs a=>?_,λi R a=>?_,λi a=>?_⟩,⟨λi p a=>?_,λi j p q a=>?_,λi R a=>?_,λi j R e a=>?_,λi j p R a=>?_⟩,rfl⟩
 ·simp[SH];omega
 ·obtain⟨i,v,c,rfl,rfl⟩:=OD b;refine⟨?_,rfl⟩;have f:i<args.length:=(xU.1 c).1;simp_all[Array.getElem?_append_left,SV.den]
 ·cases a
 ·cases a
 ·exact absurd a (R4 _)
 ·cases a
 ·cases a
 ·cases a
 ·cases a
 ·cases a
theorem MC{k:Nat}{s:SV}:∀ {l:List SV} {j:Nat},Yv k (Oh l j)=some s->∃i,l[i]?=some s/\k=j+i
 |[],_,h=>by cases h
 |v::l,j,h=>by
  simp only[Oh,Yv]at h;cases e:Nat.beq j k with
  |true =>
   simp_all
  |false =>
   rw[e]at h;let⟨i,a,b⟩:=MC (l:=l) h;exact⟨i+1,l3 a,x3⟩
theorem eh(w0:xH)(σ:St)(r:Env){w:xH}(N:Nat)(l:List SV)(d:l.length<=N)(a:σ.ltL l=true)(h:Cu w0 σ r w):Sat w0 ⟨N,Oh l 0,σ.bs,σ.rs⟩ r { tmps:=(QO r l).toArray++Array.replicate (N-(QO r l).toArray.size) undef,defers:=[] } w:=by
 refine⟨⟨h.see.low,?_,λk s c=>?_,h.see.bs,h.see.rs,h.see.one⟩,⟨h.sep.own,h.sep.inj,h.sep.ownS,h.sep.disj,h.sep.apart⟩,rfl⟩
 ·simp[KO];omega
 ·obtain⟨i,b,rfl⟩:=MC c;refine⟨?_,okL_all.1 a s (List.mem_of_getElem? b)⟩;have e:i<l.length:=(xU.1 b).1;simp_all[Array.getElem?_append_left,XI]
def Fm(q:YF P tt)(x:P.follows .mixedOrders=true)(y:NC P w0 H.inl){fl:Nat×Nat}{c:Code}(z:P.funcs[f]?=some fn)(A:fn.body=some c){args:x0g}{σ:St}{w:xH}{d:List Dir}{K:SV->St->List Dir->Prop}(h:XE P tt H fl w0 c σ d λe g j=>VV tt fn.results.toList e g λs=>K s g j)(n:FlOk fl σ)(B:Sat w0 σ r { tmps:=args++Array.replicate (fn.ntmps-args.size) undef,defers:=[] } w){R:Ending->xH->Prop}(C:∀s g j i l w',K s g j->Sat w0 g i l w'->FlOk fl g->AgN fl r i->R (.returned (s.den i)) w')(D:∀s g j i l w',H.pan s g j->Sat w0 g i l w'->FlOk fl g->AgN fl r i->g.lt s=true->R (.panicked [{ v:=s.den i,recovered:=false }]) w'):Calls P f args w R:=by
 refine calls_of_wp z A ?_
 refine fL q x y fl c _ d _ h n r _ w B _ (λd v G a w t=>?_) (λs g j i l w' o b m p hs=>⟨b.defers,D s g j i l w' o b m p hs⟩) λe g j i l w' o b m p=>?_
 ·exact⟨t.1,t.2⟩
 ·let⟨E,s,F,k⟩:=AN w0 q fn.results.toList rfl o;have u:=C s g j i l w' F b m p;rcases E with rfl|rfl
  ·exact⟨b.defers,_,k _ _ _ b,u⟩
  ·exact⟨b.defers,_,k _ _ _ b,u⟩
theorem JV(o:YF P tt)(p:P.follows .mixedOrders=true):∀n,NC P w0 (Ej P tt w0 n)
 |0=>λ_ _ _ _ _ _ h=>False.elim h
 |n+1=>λfn l σ d K Kp h f q g r w t R u v=>by
  unfold Ej at h;split at h
  ·rename_i c x;let⟨y,h⟩:=Qq h;refine Fm o p (H:=⟨Ej P tt w0 n,Kp⟩) (JV o p n) q x h ⟨L4 _,L4 _⟩ (eh _ _ _ _ _ (L8 y) g t) (λs i j k B w' m b a e=>?_) λs i j k _ w' m b a e hs=>v s i j k w' m b.mem ⟨e.1,e.2⟩ ⟨a.1,a.2⟩ hs
   let⟨z,A⟩:=Qq m;exact u s i j k w' A b.mem ⟨e.1,e.2⟩ ⟨a.1,a.2⟩ z
  grind
def H9(g:YF P tt)(i:P.follows .mixedOrders=true){c:Code}(j:P.funcs[f]?=some fn)(k:fn.body=some c)(l:Nat.ble args.length fn.ntmps=true){d:List Dir}(K:SV->St->Prop)(h:XE P tt (Kj P tt w0) (0,0) w0 c (SH fn.ntmps args) d λe σ _=>VV tt fn.results.toList e σ λs=>K s σ):
  Calls P f args.toArray w0 λe w'=>∃s σ r a,e=.returned (s.den r)/\K s σ/\Sat w0 σ r a w' :=
 Fm g i (H:=Kj P tt w0) (JV g i 9) j k (K:=λs σ _=>K s σ) h ⟨L7 _,L7 _⟩ (qm (L8 l) w0) (λs m _ n o _ p b _ _=>⟨s,m,n,o,rfl,p,b⟩) λ_ _ _ _ _ _ h=>False.elim h
def Qbu(b:YF P tt)(g:P.follows .mixedOrders=true){c:Code}(i:Xt P f)(j:P.funcs[f]?=some fn)(k:fn.body=some c)(l:Nat.ble args.length fn.ntmps=true){d:xH->List Dir}(h:∀W,Below w0.heap.size w0 W->XE P tt (Kj P tt W) (0,0) W c (SH fn.ntmps args) (d W) λe σ _=>VV tt fn.results.toList e σ λs=>Z6 s.plain (s.den e0=R)):
  RetAt P w0 f args.toArray R:=by
 refine⟨i,λW m=>(H9 b g j k l (λs σ=>Z6 s.plain (s.den e0=R)) (h W m) (w0:=W)).mono ?_⟩;rintro e w' ⟨s,σ,r,a,rfl,n,o⟩;let⟨p,q⟩:=Qq n;rw[JK p,q];exact⟨rfl,o.see.low⟩
def C6(P:xO)(tt:List (Nat×TI))(W:xH)(fn:Func)(σ:St)(d:List Dir)(K:Ex->St->List Dir->Prop):Prop:=match fn.body with
 |some c=>XE P tt (Kj P tt W) (0,0) W c σ d K
 |none=>False
theorem dE(i:YF P tt)(j:P.follows .mixedOrders=true)(k:P.funcs[f]?=some fn){N:Nat}(l:fn.ntmps=N)(m:fn.results=rs)(args:o3)(n:Nat.ble args.length N=true)(d:List Dir){T:Prop}{Z:y9->xH->Prop}{E:SV->St->Prop}(h:T)(o:T=C6 P tt w0 fn (SH N args) d λe σ _=>VV tt rs.toList e σ λs=>E s σ)(p:∀s σ,E s σ->∀r a w',Sat w0 σ r a w'->Z (s.den r) w'):
  Calls P f args.toArray w0 λe w'=>∃v,e=.returned v/\Z v w'/\Below w0.heap.size w0 w':=by
 have key:=o▸h;subst l;subst m;unfold C6 at key;cases b:fn.body with
 |none =>
  grind
 |some c =>
  rw[b]at key;refine(H9 i j k b n E key).mono ?_
  rintro e w' ⟨s,σ,r,a,rfl,q,g⟩;exact⟨_,rfl,p s σ q r a w' g,g.see.low⟩
end
variable{a b:Prop}
def ai(h:a)(k:b):a/\b:=⟨h,k⟩
abbrev tG(R a:Res):Prop:=∀(x:y9) (S:Nat->Prop) (w:xH),R.φ x S w->a.φ x S w
def Yq(R a:Res)(h:∀(x:y9) (S:Nat->Prop) (w:xH),R.φ x S w->a.φ x S w):tG R a:=h
abbrev qg{β:Type}(R:Res)(v:β->y9)(a:β->Res):Prop:=∀(x:y9) (S:Nat->Prop) (w:xH),R.φ x S w->∃y:β,x=v y/\(a y).φ x S w
def Xi(b:Bool){A B:Prop}(f:b=true->A)(g:b=false->B):(b=true->A)/\(b=false->B):=⟨f,g⟩
def ZD(b l:Bool){A B:Prop}(f:b=l->A)(g:b=(!l)->B):(b=l->A)/\(b=(!l)->B):=⟨f,g⟩
def eB(r b:Bool)(h:r=b):(.bool b:y9)=.bool r:=by rw[h]
def eI(r b:Int)(h:r=b):(.int .i64 b:y9)=.int .i64 r:=by rw[h]
abbrev cQ(n:Nat)(f:Nat->Bool)(k:Nat):Prop:=k<=n/\∀j,j<k->f j=false
def P5(I:Nat->St)(n:Nat)(f:Nat->Bool)(D:Nat->List Dir):Dir:=.loop I (cQ n f) (λk=>n-k) 0 (λk _=>k+1) D
def c0(n:Nat)(f:Nat->Bool):cQ n f 0:=⟨L7 _,λ_ a=>absurd a (R4 _)⟩
theorem cS{n:Nat}{f:Nat->Bool}(h:cQ n f k)(a:k<n)(b:f k=false):cQ n f (k+1):=by grind
def Oe{n:Nat}(h:k<n):n-(k+1)<n-k:=x3
def YE(I:Nat×Hp->St)(n:Nat)(a:Nat×Hp)(D:Nat×Hp->List Dir):Dir:=.lop I (λq=>q.1<=n) (λq=>n-q.1) a (λq u=>(q.1+1,u.headD (none,0))) D
variable{r:Prop}
def X0(c:a)(d:b)(h:r):a/\b/\r:=⟨c,d,h⟩
def Ja{c:Prop}(d:a)(e:b)(f:c)(h:r):a/\b/\c/\r:=⟨d,e,f,h⟩
variable{d:Prop}
def Ky{c:Prop}(e:a)(f:b)(g:c)(i:d)(h:r):a/\b/\c/\d/\r:=⟨e,f,g,i,h⟩
def KJ{c e:Prop}(f:a)(g:b)(i:c)(j:d)(k:e)(h:r):a/\b/\c/\d/\e/\r:=⟨f,g,i,j,k,h⟩
def Vv{c e f:Prop}(g:a)(i:b)(j:c)(k:d)(l:e)(m:f)(h:r):a/\b/\c/\d/\e/\f/\r:=⟨g,i,j,k,l,m,h⟩
def GL{c e f g:Prop}(i:a)(j:b)(k:c)(l:d)(m:e)(n:f)(o:g)(h:r):a/\b/\c/\d/\e/\f/\g/\r:=⟨i,j,k,l,m,n,o,h⟩
def Yx{c e f g i:Prop}(j:a)(k:b)(l:c)(m:d)(n:e)(o:f)(p:g)(q:i)(h:r):a/\b/\c/\d/\e/\f/\g/\i/\r:=⟨j,k,l,m,n,o,p,q,h⟩
abbrev OB:=Option (o0×List SV)
def qk(x:OB):x=x:=rfl
def qc(t:o0)(v:y9):some (t,SV.val v)=some (t,SV.val v):=rfl
abbrev iV(n:Int):SV:=.val (.int .i64 n)
abbrev bV(b:Bool):SV:=.val (.bool b)
abbrev sV(s:xM):SV:=.val (.string s)
abbrev lV(a:xN)(n c:Nat):SV:=.val (.slice a n c)
variable{args:x0g}
def rc(w0:xH)(a:Xt P f)(h:∀W,xP P f args W R):RetAt P w0 f args R:=⟨a,λW _=>h W⟩
def RetAt.at(h:RetAt P w0 f args R):xP P f args w0 R:=h.2 w0 (p5 _ _)
variable{a b:Int}
def pE(h:a<b):decide (a<b)=true:=Lk h
def pB(h:¬ a<b):decide (a<b)=false:=Lc h
def nZ(h:a=b):(a==b)=true:=by subst h;simp
def UN(h:¬ a=b):(a==b)=false:=l3 h
def Qfs(h:a=b):(a != b)=false:=by subst h;simp
theorem wn{p n:Int}(h:IntKind.i64.wrap (-p)=n):IntKind.i64.wrap (0-p)=n:=by grind
def VW(P:xO)(w0:xH)(ts:Array o0)(t:o0)(k:IntKind)(x y:Int):Qp P w0 (Builtin.max_ ts t #[.int k x,.int k y]) (.int k (max x y)):=λW _=>by
 simp only[Builtin.max_,List.foldlM,Builtin.max2];rw[show(if x<y then y else x)=max x y by split<;>omega]
 rfl
def Bd(P:xO)(w0:xH)(ts:Array o0)(t:o0)(k:IntKind)(x y:Int):Qp P w0 (Builtin.min_ ts t #[.int k x,.int k y]) (.int k (min x y)):=λW _=>by
 simp only[Builtin.min_,List.foldlM,Builtin.min2];rw[show(if y<x then y else x)=min x y by split<;>omega]
 rfl
def tt:List (Nat×TI):=[(32,⟨3,[.bool false,.string ⟨#[]⟩,.int .i64 0],.struct [(0,2,some true),(2,1,some false)]⟩),(66,⟨6,[.bool false,.string ⟨#[]⟩,.int .i64 0,.bool false,.string ⟨#[]⟩,.int .i64 0],.struct [(0,3,some true),(3,3,some true)]⟩),(30,⟨2,[.bool false,.string ⟨#[]⟩],.struct [(0,1,some false),(1,1,some false)]⟩),(3,⟨1,[.int .i64 0],.int .i64⟩),(2,⟨1,[.int .i64 0],.int .i64⟩),(4,⟨1,[.bool false],.bool⟩),(9,⟨1,[.string ⟨#[]⟩],.str⟩),(43,⟨1,[.slice none 0 0],.slice 32 3 (some true)⟩),(5,⟨1,[.int .u8 0],.int .u8⟩),(22,⟨1,[.slice none 0 0],.slice 66 6 (some true)⟩),(170,⟨5,[.int .i64 0,.bool false,.string ⟨#[]⟩,.bool false,.string ⟨#[]⟩],.struct [(0,1,some false),(1,2,some true),(3,2,some true)]⟩),(244,⟨2,[.string ⟨#[]⟩,.bool false],.struct [(0,1,some false),(1,1,some false)]⟩),(242,⟨1,[.string ⟨#[]⟩],.str⟩),(179,⟨1,[.int .u64 0],.int .u64⟩),(91,⟨1,[.slice none 0 0],.slice 9 1 (some false)⟩),(21,⟨1,[.int .i32 0],.int .i32⟩),(81,⟨1,[.slice none 0 0],.slice 5 1 (some false)⟩),(39,⟨1,[.int .i64 0],.int .i64⟩),(288,⟨1,[.tuple { toList:=[.agg { toList:=[.bool false,.string ⟨#[]⟩] },.int .i64 0,.int .i64 0] }],.other⟩),(232,⟨1,[.tuple { toList:=[.agg { toList:=[.bool false,.string ⟨#[]⟩,.int .i64 0] },.int .i64 0,.int .i64 0] }],.other⟩),(311,⟨1,[.tuple { toList:=[.string ⟨#[]⟩,.bool false] }],.other⟩),(248,⟨1,[.slice none 0 0],.slice 30 2 (some true)⟩),(165,⟨1,[.slice none 0 0],.slice 43 1 (some false)⟩),(200,⟨1,[.slice none 0 0],.slice 248 1 (some false)⟩),(214,⟨1,[.tuple { toList:=[.string ⟨#[]⟩,.string ⟨#[]⟩,.bool false] }],.other⟩),(35,⟨14,[.int .i64 0,.int .i64 0,.slice none 0 0,.slice none 0 0,.slice none 0 0,.slice none 0 0,.bool false,.string ⟨#[]⟩,.int .i64 0,.bool false,.string ⟨#[]⟩,.int .i64 0,.int .i64 0,.slice none 0 0],.struct [(0,1,some false),(1,1,some false),(2,2,some true),(4,1,some false),(5,1,some false),(6,3,some true),(9,3,some true),(12,1,some false),(13,1,some false)]⟩),(27,⟨2,[.slice none 0 0,.slice none 0 0],.struct [(0,1,some false),(1,1,some false)]⟩),(47,⟨2,[.int .i64 0,.slice none 0 0],.struct [(0,1,some false),(1,1,some false)]⟩),(51,⟨4,[.string ⟨#[]⟩,.bool false,.string ⟨#[]⟩,.int .i64 0],.struct [(0,1,some false),(1,3,some true)]⟩),(49,⟨6,[.int .i64 0,.bool false,.string ⟨#[]⟩,.int .i64 0,.int .i64 0,.slice none 0 0],.struct [(0,1,some false),(1,3,some true),(4,2,some true)]⟩),(23,⟨1,[.slice none 0 0],.slice 66 6 (some true)⟩),(25,⟨1,[.slice none 0 0],.slice 52 1 (some false)⟩),(52,⟨1,[.slice none 0 0],.slice 32 3 (some true)⟩),(28,⟨1,[.slice none 0 0],.slice 47 2 (some true)⟩),(33,⟨1,[.slice none 0 0],.slice 49 6 (some true)⟩),(45,⟨1,[.slice none 0 0],.slice 51 4 (some true)⟩),(107,⟨3,[.bool false,.bool false,.bool false],.struct [(0,1,some false),(1,1,some false),(2,1,some false)]⟩),(109,⟨5,[.bool false,.bool false,.bool false,.int .i64 0,.bool false],.struct [(0,3,some true),(3,1,some false),(4,1,some false)]⟩),(110,⟨35,[.bool false,.bool false,.bool false,.int .i64 0,.bool false,.bool false,.bool false,.bool false,.int .i64 0,.bool false,.bool false,.bool false,.bool false,.int .i64 0,.bool false,.bool false,.bool false,.bool false,.int .i64 0,.bool false,.bool false,.bool false,.bool false,.int .i64 0,.bool false,.bool false,.bool false,.bool false,.int .i64 0,.bool false,.bool false,.bool false,.bool false,.int .i64 0,.bool false],.array 7 109 5 (some true)⟩),(238,⟨1,[.slice none 0 0],.slice 3 1 (some false)⟩),(197,⟨1,[.slice none 0 0],.slice 28 1 (some false)⟩),(168,⟨1,[.int .i64 0],.int .i64⟩),(70,⟨1,[.slice none 0 0],.slice 102 2 (some true)⟩),(74,⟨4,[.slice none 0 0,.slice none 0 0,.int .i64 0,.int .i64 0],.struct [(0,1,some false),(1,2,some true),(3,1,some false)]⟩),(72,⟨2,[.slice none 0 0,.int .i64 0],.struct [(0,1,some false),(1,1,some false)]⟩),(102,⟨2,[.string ⟨#[]⟩,.int .i64 0],.struct [(0,1,some false),(1,1,some false)]⟩),(68,⟨1,[.slice none 0 0],.slice 72 2 (some true)⟩),(76,⟨19,[.slice none 0 0,.slice none 0 0,.int .i64 0,.int .i64 0,.int .i64 0,.int .i64 0,.slice none 0 0,.slice none 0 0,.slice none 0 0,.slice none 0 0,.bool false,.string ⟨#[]⟩,.int .i64 0,.bool false,.string ⟨#[]⟩,.int .i64 0,.int .i64 0,.slice none 0 0,.bool false],.struct [(0,4,some true),(4,14,some true),(18,1,some false)]⟩),(87,⟨7,[.string ⟨#[]⟩,.string ⟨#[]⟩,.string ⟨#[]⟩,.string ⟨#[]⟩,.string ⟨#[]⟩,.string ⟨#[]⟩,.string ⟨#[]⟩],.array 7 9 1 (some false)⟩),(85,⟨2,[.pointer none,.slice none 0 0],.struct [(0,2,some true)]⟩),(83,⟨2,[.pointer none,.slice none 0 0],.struct [(0,1,some false),(1,1,some false)]⟩)]
def Qm:YF prog tt:=yX x5
def QU:prog.follows .mixedOrders=true:=x5
def vI(m:Int):y9:=.agg #[.bool (neg m),.string (QJ m)]
def vN(x:Dyadic):y9:=.agg #[.bool (neg (dm x)),.string (QJ (dm x)),.int .i64 (de x)]
def rN(b:Bool)(s:xM)(e:Int):y9:=.agg #[.bool b,.string s,.int .i64 e]
abbrev QV(w:xH):Prop:=TabAt 4 Lib.deBruijn64tab w
def rt(a:QV w0)(b:Xt prog f)(h:∀W,QV W->xP prog f args W R):RetAt prog w0 f args R:=⟨b,λW c=>h W (Ql a c)⟩
variable{args:Nat->x0g}
def tu{t:o0}{cs:x0g}(a:QV w0)(b:Xt prog f)(h:∀W g,QV W->Bx W g t cs->xP prog f (args g) W R):Xt prog f/\∀W,Below w0.heap.size w0 W->∀g,Bx W g t cs->xP prog f (args g) W R:=⟨b,λW c g d=>h W g (Ql a c) d⟩
def FL(w0:xH){t:o0}{cs:x0g}(a:Xt prog f)(h:∀W g,Bx W g t cs->xP prog f (args g) W R):Xt prog f/\∀W,Below w0.heap.size w0 W->∀g,Bx W g t cs->xP prog f (args g) W R:=⟨a,λW _ g b=>h W g b⟩
def gM(W:World)(x y:Operand)(a b:Bool)(s t:ByteArray)(e f:Int):Qp prog W (do eqGuard .eql 32 x y (rN a s e) (rN b t f);binOp .eql 32 (rN a s e) (rN b t f)) (.bool ((a==b&&s.toList==t.toList)&&e==f)):=λi _=>by
 unfold rN;simp[go_sem];by_cases c:a=b<;>by_cases d:s.toList=t.toList<;>by_cases g:e=f<;>simp[c,d,g]
def Bg(W:World)(x y:Operand)(a b:Bool)(s t:ByteArray)(e f:Int):Qp prog W (do eqGuard .neq 32 x y (rN a s e) (rN b t f);binOp .neq 32 (rN a s e) (rN b t f)) (.bool (!((a==b&&s.toList==t.toList)&&e==f))):=λi _=>by
 unfold rN;simp[go_sem];by_cases c:a=b<;>by_cases d:s.toList=t.toList<;>by_cases g:e=f<;>simp[c,d,g]
theorem dJ(W:xH)(x y:x0h)(a:Bool)(s:xM)(e:Int)(h:¬ s.toList=[]):Qp prog W (do eqGuard .eql 32 x y (rN a s e) (rN false ⟨#[]⟩ 0);binOp .eql 32 (rN a s e) (rN false ⟨#[]⟩ 0)) (.bool false):=by
 have c:=gM W x y a false s ⟨#[]⟩ e 0
 grind[S5]
def WI(W:World)(x y:Operand)(a:Bool)(s:ByteArray)(e:Int):Qp prog W (do eqGuard .eql 32 x y (rN a s e) (rN a s e);binOp .eql 32 (rN a s e) (rN a s e)) (.bool true):=λb _=>by
 unfold rN;simp[go_sem]
def C7(W:World)(x y:Operand)(a b:Bool):Qp prog W (do eqGuard .eql 4 x y (.bool a) (.bool b);binOp .eql 4 (.bool a) (.bool b)) (.bool (a==b)):=λc _=>by
 simp[go_sem]
def fh(P:xO)(tt:List (Nat×TI))(W:xH)(f:FuncId)(args:o3)(d:List Dir)(R:y9):Prop:=match P.funcs[f]? with
 |some fn=>Z6 (Nat.ble args.length fn.ntmps) (C6 P tt W fn (SH fn.ntmps args) d λe σ _=>VV tt fn.results.toList e σ λs=>Z6 s.plain (s.den e0=R))
 |none=>False
variable{args:o3}{T:xH->Prop}
def tw{tt:List (Nat×TI)}(g:YF P tt)(i:P.follows .mixedOrders=true)(d:List Dir)(h:∀W,Below w0.heap.size w0 W->R=R->T W)(j:∀W,T W=fh P tt W f args d R)(k:Xt P f):RetAt P w0 f args.toArray R:=by
 have key:∀W,Below w0.heap.size w0 W->fh P tt W f args d R:=λW a=>j W▸h W a rfl
 unfold fh at key;cases b:P.funcs[f]? with
 |none =>
  rw[b]at key;exact(key w0 (p5 _ _)).elim
 |some fn =>
  rw[b]at key;have key:∀W,Below w0.heap.size w0 W->_/\_:=λW a=>Qq (key W a)
  unfold C6 at key;cases e:fn.body with
  |none =>
   rw[e]at key;exact(key w0 (p5 _ _)).2.elim
  |some c =>
   rw[e]at key;exact Qbu g i k b e (key w0 (p5 _ _)).1 (d:=λ_=>d) λW a=>(key W a).2
def rk(d:List Dir)(h:∀W,Below w0.heap.size w0 W->R=R->T W)(a:∀W,T W=fh prog tt W f args d R:=by intro _;kernel_rfl)(b:Xt prog f:=by intro _ _;kernel_rfl):RetAt prog w0 f args.toArray R:=tw Qm QU d h a b
def Cr(w0:xH){args:x0g}(h:∀W,xP prog f args W R)(a:Xt prog f:=by intro _ _;kernel_rfl):RetAt prog w0 f args R:=rc w0 a h
def sa{args:x0g}(a:QV w0)(h:∀W,QV W->xP prog f args W R)(b:Xt prog f:=by intro _ _;kernel_rfl):RetAt prog w0 f args R:=rt a b h
def ZB(f:Nat->o3):Nat->o3|0=>[] | n+1=>ZB f n++f n
def Fp{f:Nat->o3}{k:Nat}(h:∀j,(f j).length=k):∀n,(ZB f n).length=n*k
 |0=>by simp[ZB]
 |n+1=>by
  show(ZB f n++f n).length=_;rw[La,Fp h n,h n,Ru]
theorem Em{f:Nat->o3}{k:Nat}(h:∀j,(f j).length=k):∀ {n j i:Nat},j<n->i<k->(ZB f n)[j*k+i]?=(f j)[i]?
 |n+1,j,i,b,a=>by
  show(ZB f n++f n)[j*k+i]?=_;have c:=Fp h n;by_cases e:j=n
  ·subst e
   grind
  ·have d:j*k+i<n*k:=by
    have g:(j+1)*k<=n*k:=Lt _ x3
    grind
   rw[List.getElem?_append_left x3];exact Em h x3 a
theorem VB{f g:Nat->o3}:∀ {n:Nat},(∀j,j<n->f j=g j)->ZB f n=ZB g n
 |0,_=>rfl
 |n+1,h=>by
  show ZB f n++f n=ZB g n++g n;rw[VB λj a=>h j x3,h n x3]
def On(f:Nat->o3)(n:Nat):∀m,ZB f (n+m)=ZB f n++ZB (λj=>f (n+j)) m
 |0=>by simp[ZB]
 |m+1=>by
  show ZB f (n+m)++f (n+m)=ZB f n++(ZB (λj=>f (n+j)) m++f (n+m));rw[On f n m,Rl]
def OwnK(w:xH)(base:Nat)(e:o0)(k:Nat)(v:y9)(n:Nat)(f:Nat->o3):Prop:=w.ownsRow base e k v n (ZB f n)
def OwnK.nil_(w:xH)(base:Nat)(e:o0)(k:Nat)(f:Nat->o3):OwnK w base e k (.slice none 0 0) 0 f:=⟨by simp[ZB],.inl ⟨rfl,rfl⟩⟩
variable{e:o0}{base:Nat}
theorem OwnK.congr{n:Nat}{f f':Nat->o3}(h:OwnK w base e k v n f)(a:∀j,j<n->f j=f' j):OwnK w base e k v n f':=by
 grind[OwnK,VB]
theorem OwnK.below{n:Nat}{f:Nat->o3}(h:OwnK w base e k v n f)(a:Below w.heap.size w w'):OwnK w' base e k v n f :=
 World.ownsRow.kept (row:=none) h (Vj a none) (by
  grind)
def RdK(w:xH)(A:xN)(n k:Nat)(f:Nat->o3):Prop:=0<n->∃b off,A=some ⟨b,off,none⟩/\∀j,j<n->∀i,i<k->w.cell? ⟨b,off+j*k+i,none⟩=(f j)[i]?
theorem OwnK.rd{n:Nat}{f:Nat->o3}(l:∀j,(f j).length=k)(h:OwnK w base e k v n f):∃A c,v=.slice A n c/\n<=c/\RdK w A n k f/\(∀a,A=some a->base<=a.block)/\(A=none->n=0/\c=0):=by
 rcases h.2 with⟨rfl,rfl⟩|⟨g,cap,d,rfl,m,o,p,_,hs,q⟩
 ·exact⟨none,0,rfl,L4 _,λh=>absurd h x4,(λa b=>by cases b),λ_=>⟨rfl,rfl⟩⟩
 ·refine⟨_,cap,rfl,p,λ_=>⟨g,0,rfl,λj r i s=>?_⟩,(λa b=>by injection b with b;subst b;exact m),λh=>by cases h⟩;rw[Lm,cell_of_row w g (j*k+i) d e (0,0) o,<- Array.getElem?_toList,<- Em l r s,<- q,b9];have t:(j+1)*k<=n*k:=Lt _ x3
  grind
section
variable{P:xO}{w:xH}{ops:Array Oper}{rest:List Oper}{o:Oper}{a:Act}{Q:Exit->Act->xH->Prop}
theorem Nx(C:o.guard=none)(s x:x0h)(t:o0)(O:o.op=.call { callee:=.builtin .append,args:=#[s,x],argTypes:=#[t,t] })(base:Nat)(e:o0)(z:y9)(k bytes:Nat)(R:P.underlying t=some (.slice e))(q:(P.info? e).map (λi=>(i.zero,i.size,i.bytes))=some (some z,k,bytes))(D:z.cells.size=k)(r:0<k)(v:y9)(n:Nat)(f:Nat->o3)(hs:a.eval s=v)(p:OwnK w base e k v n f)(y:Addr)(m c:Nat)(g:Nat->o3)(_:∀j,(f j).length=k)(M:∀j,(g j).length=k)(S:∀j u,u∈g j->u.oneCell'=true)(T:a.eval x=.slice (some y) m c)(U:y.spot=none)(E:∀j,j<m->∀i,i<k->w.cell? ⟨y.block,y.off+j*k+i,none⟩=(g j)[i]?)(V:n+m<=9223372036854775807)(l:(n+m)*bytes<=140737488355328)(b:base<=w.heap.size)(h:∀A w',OwnK w' base e k A (n+m) (λj=>if j<n then f j else g (j-n))->Below base w w'->wpList P ops Q rest (a.put o.dst A) w'):
  wpList P ops Q (o::rest) a w:=by
 let⟨i,W,X,F,G⟩:=info_parts q;have N:=Fp M m;refine wpList_append_own (P:=P) _ C s x t O base e i z k bytes R W X F G D r v n (ZB f n) hs p y m c (ZB g m) T N ?_ ?_ (by unfold maxLen;omega) l b ?_
 ·intro j u B;have H:j<m*k:=by rw[<- N];exact(xU.1 B).1
  have I:j=j / k*k+j % k:=by rw[Ls];exact(Tc j k).symm
  have J:j / k<m:=(Lr r).2 H;have K:j % k<k:=Re _ r;rw[I,Em M J K]at B;let⟨blk,off,sl⟩:=y
  grind[add_plain]
 ·intro u Y;have key:∀m,u∈ZB g m->u.oneCell'=true:=by
   intro m;induction m with
   |zero=>intro h;cases h
   |succ m Z =>
    intro h;rcases Lo.1 h with h|h
    ·exact Z h
    ·exact S m u h
  exact key m Y
 ·intro A w' d L _;have I:ZB f n++ZB g m=ZB (λj=>if j<n then f j else g (j-n)) (n+m):=by
   rw[On];congr 1
   ·exact VB λj B=>by rw[if_pos B]
   ·exact VB λj _=>by rw[if_neg x3,Sq]
  rw[I]at d;exact h A w' d ((p5 _ _).grown L b (λk hk=>(p.lt k hk).1))
end
def yh(w:xH)(F:Nat->Prop):Res where
 φ x S w':=x.oneCell'=true/\(∀b,S b↔F b)/\∀b,F b->w'.heap[b]?=w.heap[b]?
 one _ _ _ h:=h.1
 loc _ _ _ _ h hφ:=⟨hφ.1,hφ.2.1,λb a=>(h b ((hφ.2.1 b).2 a)).trans (hφ.2.2 b a)⟩
def rW(val:β->y9)(R:β->Res)(F:Res)(s:SV)(σ:St):Prop:=match Xq σ.rs 0 with
 |some a=>(match Xq σ.rs 1 with
  |some b=>b=F/\Z6 s.plain (∃y,s.den e0=val y/\∀(x:y9) (S:Nat->Prop) (w:xH),a.φ x S w->(R y).φ x S w)
  |none=>False)
 |none=>False
def nj(a:y9->Prop)(F:Res)(s:SV)(σ:St):Prop:=match Xq σ.rs 1 with
 |some b=>b=F/\∃v,s=.val v/\a v
 |none=>False
def fg(P:xO)(tt:List (Nat×TI))(w0:xH)(fn:Func)(N:Nat)(args:o3)(a F:Res)(val:β->y9)(R:β->Res)(b:y9->Prop)(rs:List ResultVar)(d:List Dir):Prop:=match fn.body with
 |some c=>XE P tt ⟨Ej P tt w0 9,λs σ _=>nj b F s σ⟩ (0,2) w0 c ⟨N,Oh (args.map .val) 0,[],[some a,some F]⟩ d λe σ _=>VV tt rs e σ λs=>rW val R F s σ
 |none=>False
variable{T:Res->Prop}
section
variable{P:xO}{tt:List (Nat×TI)}{w0:xH}
def Hz(r:Env)(l:o3):QO r (l.map .val)=l:=by
 rw[XI,List.map_map];exact(S6 λx _=>rfl).trans (List.map_id l)
theorem fU(J:YF P tt)(K:P.follows .mixedOrders=true)(U:P.funcs[f]?=some fn)(V:Nat.ble args.length fn.ntmps=true){q:Res}{val:β->y9}{R:β->Res}{F:y9->Prop}{d:List Dir}{W:xH}{x:y9}{S:Nat->Prop}(L:Below w0.heap.size w0 W)(X:∀b,S b->w0.heap.size<=b/\b<W.heap.size)(M:q.φ x S W)(key:fg P tt w0 fn fn.ntmps args q (yh W λb=>w0.heap.size<=b/\b<W.heap.size/\¬ S b) val R F fn.results.toList d):Calls P f args.toArray W (Kk w0 val R F x S W):=by
 unfold fg at key;cases o:fn.body with
 |none=>rw[o]at key;exact key.elim
 |some c =>
  rw[o]at key;let r:Env:=⟨λ_=>0,λi=>if i=0 then x else .bool false,λi=>if i=0 then S else λb=>w0.heap.size<=b/\b<W.heap.size/\¬ S b⟩
  have Y:Cu w0 ⟨0,[],[],[some q,some (yh W λb=>w0.heap.size<=b/\b<W.heap.size/\¬ S b)]⟩ r W:=by
   have D:∀i g,Xq [some q,some (yh W λb=>w0.heap.size<=b/\b<W.heap.size/\¬ S b)] i=some g->(i=0/\g=q)\/(i=1/\g=yh W λb=>w0.heap.size<=b/\b<W.heap.size/\¬ S b):=λi g e=>by
    match i,e with
    |0,e=>exact .inl ⟨rfl,(o7 e).symm⟩
    |1,e=>exact .inr ⟨rfl,(o7 e).symm⟩
    |_+2,e=>cases e
   refine⟨⟨L,rfl,(λ_ _ h=>nomatch h),(λ_ _ _ h=>nomatch h),λi g e=>?_,λi e=>?_⟩,⟨(λ_ _ h=>nomatch h),(λ_ _ _ _ h=>nomatch h),λi g e b o=>?_,λi j g Z e hj ad b o ag=>?_,(λ_ _ _ _ h=>nomatch h)⟩,rfl⟩
   ·rcases D i g e with⟨rfl,rfl⟩|⟨rfl,rfl⟩
    ·exact⟨M,λb o=>(X b o).2⟩
    ·exact⟨⟨rfl,λ_=>Iff.rfl,λ_ _=>rfl⟩,λb o=>o.2.1⟩
   ·match i,e with
    |0,_=>exact q.one _ _ _ M
    |1,_=>rfl
    |_+2,e=>exact absurd e x6
   ·rcases D i g e with⟨rfl,rfl⟩|⟨rfl,rfl⟩
    all_goals grind
   ·rcases D i g e with⟨rfl,rfl⟩|⟨rfl,rfl⟩<;>rcases D j Z hj with⟨rfl,rfl⟩|⟨rfl,rfl⟩
    all_goals grind
  have A:=eh w0 ⟨0,[],[],[some q,some (yh W λb=>w0.heap.size<=b/\b<W.heap.size/\¬ S b)]⟩ r fn.ntmps (args.map .val) (by rw[Rg];exact L8 V) (okL_all.2 λs hs=>by obtain⟨v,_,rfl⟩:=Lv.1 hs;rfl) Y;rw[Hz]at A;have m:∀ {B:St} {w:Env} {E:Act} {w':xH} {t:Res},Sat w0 B w E w'->Xq B.rs 1=some t->t=(yh W λb=>w0.heap.size<=b/\b<W.heap.size/\¬ S b)->Trm w0 S W w':=λ{B w E w' t} a C u=>by
   subst u;have z:=(a.see.rs 1 _ C).1;refine⟨a.see.low,λk hk G=>?_⟩;rcases R5 k w0.heap.size with p|p
   ·exact(a.see.low.block k p).trans (L.block k p).symm
   ·exact z.2.2 k ⟨p,hk,G⟩
  refine Fm J K (H:=⟨Ej P tt w0 9,λs σ _=>nj F (yh W λb=>w0.heap.size<=b/\b<W.heap.size/\¬ S b) s σ⟩) (JV J K 9) U o (fl:=(0,2)) key ⟨L7 _,L4 _⟩ A (λs B d' w E w' n a _ O=>?_) λs B d' w E w' n a _ O _=>?_
  ·unfold rW at n;split at n
   ·rename_i g C;split at n
    ·rename_i t u;let⟨z,n⟩:=n;let⟨hp,y,hd,p⟩:=Qq n;have hx:w.x 0=x:=O.2 0 x4;let⟨Q,h6⟩:=a.see.rs 0 g C;rw[hx]at Q;refine .inl ⟨y,w.S 0,by rw[JK hp,hd],m a u z,p _ _ _ Q,λb o=>⟨?_,h6 b o⟩⟩;rcases R5 b W.heap.size with I|I
     ·left;refine Classical.byContradiction λG=>?_
      have T:=(a.see.rs 1 t u).1;rw[z]at T;exact a.sep.disj 0 1 g t C u x4 b o ((T.2.1 b).2 ⟨a.sep.ownS 0 g C b o,I,G⟩)
     ·exact .inr I
    ·exact n.elim
   ·exact n.elim
  ·unfold nj at n;dsimp only at n;split at n
   ·rename_i t u;obtain⟨z,v,rfl,p⟩:=n;exact .inr ⟨v,p,rfl,m a u z⟩
   ·exact n.elim
def VC(β:Type)(c:YF P tt)(e:P.follows .mixedOrders=true)(g:Xt P f)(i:P.funcs[f]?=some fn){N:Nat}(j:fn.ntmps=N)(k:fn.results=rs)(args:o3)(l:Nat.ble args.length N=true)(a:Res)(val:β->y9)(R:β->Res)(b:y9->Prop)(d:List Dir)(h:∀F,T F)(m:∀F,T F=fg P tt w0 fn N args a F val R b rs.toList d):B8 P w0 a f args.toArray val R b:=by
 subst j;subst k;exact⟨g,λW n x S o p=>fU c e i l n o p (m _▸h _)⟩
end
def rY(g t:Nat)(val:β->y9)(R:β->Res)(F:Res)(s:SV)(σ:St):Prop:=match Xq σ.bs 0 with
 |some (a,cs)=>(match Xq σ.rs 0 with
  |some b=>(match Xq σ.rs 1 with
   |some c=>c=F/\a=t/\Z6 (s.plain&&Dv (λ_=>false) (λ_=>false) cs) (∃y,s.den e0=val y/\∀(x:y9) (S:Nat->Prop) (w:xH),(Qh g t (QO e0 cs) b).φ x S w->(R y).φ x S w)
   |none=>False)
  |none=>False)
 |none=>False
def TW(P:xO)(tt:List (Nat×TI))(w0:xH)(fn:Func)(N g t:Nat)(cs:o3)(a F:Res)(val:β->y9)(R:β->Res)(b:y9->Prop)(rs:List ResultVar)(d:List Dir):Prop:=match fn.body with
 |some c=>XE P tt ⟨Ej P tt w0 9,λs σ _=>nj b F s σ⟩ (1,2) w0 c ⟨N,Oh [.ptr 0 0] 0,[some (t,cs.map .val)],[some a,some F]⟩ d λe σ _=>VV tt rs e σ λs=>rY g t val R F s σ
 |none=>False
section
variable{P:xO}{tt:List (Nat×TI)}{w0:xH}
def We(hT:YF P tt)(hm:P.follows .mixedOrders=true)(hf:P.funcs[f]?=some fn){g t:Nat}{cs:o3}(hl:Nat.ble 1 fn.ntmps=true){val:β->y9}{R:β->Res}{pn:y9->Prop}{d:List Dir}{W:xH}{x:y9}{S:Nat->Prop}(hW:Below w0.heap.size w0 W)(hS:∀b,S b->w0.heap.size<=b/\b<W.heap.size)(hφ:(Qh g t cs M).φ x S W)(key:TW P tt w0 fn fn.ntmps g t cs M (yh W λb=>w0.heap.size<=b/\b<W.heap.size/\¬ S b) val R pn fn.results.toList d):Calls P f #[.pointer (some ⟨g,0,none⟩)] W (Kk w0 val R pn x S W):=by
 unfold TW at key;cases n:fn.body with
 |none=>rw[n]at key;exact key.elim
 |some c =>
  rw[n]at key;let⟨ad,hB,S2,x2,O,ag,ao,E⟩:=hφ;have F:S g:=(E g).2 (.inl rfl);let r:Env:=⟨λ_=>g,λi=>if i=0 then x2 else .bool false,λi=>if i=0 then S2 else λb=>w0.heap.size<=b/\b<W.heap.size/\¬ S b⟩
  have Q:QO r (cs.map .val)=cs:=Hz r cs;have A:Dv (λi=>Nat.blt i 1) (λi=>Nat.blt i 2) (cs.map SV.val)=true:=WK _ _ cs;have hM:Cu w0 ⟨0,[],[some (t,cs.map .val)],[some M,some (yh W λb=>w0.heap.size<=b/\b<W.heap.size/\¬ S b)]⟩ r W:=by
   have T:∀i o,Xq [some M,some (yh W λb=>w0.heap.size<=b/\b<W.heap.size/\¬ S b)] i=some o->(i=0/\o=M)\/(i=1/\o=yh W λb=>w0.heap.size<=b/\b<W.heap.size/\¬ S b):=λi o a=>by
    match i,a with
    |0,a=>exact .inl ⟨rfl,(o7 a).symm⟩
    |1,a=>exact .inr ⟨rfl,(o7 a).symm⟩
    |_+2,a=>cases a
   have G:∀i (p:o0×List SV),Xq [some (t,cs.map SV.val)] i=some p->i=0/\p=(t,cs.map SV.val):=λi p a=>by
    match i,a with
    |0,a=>exact⟨rfl,(o7 a).symm⟩
    |_+1,a=>cases a
   refine⟨⟨hW,rfl,(λ_ _ h=>nomatch h),λi t' aw a=>?_,λi o a=>?_,λi a=>?_⟩,⟨λi p a=>(hS g F).1,λi j p q a U B=>?_,λi o a b n=>?_,λi j o R2 a U B b n V=>?_,λi j p o a U n=>?_⟩,rfl⟩
   ·obtain⟨rfl,e⟩:=G i _ a;injection e with e1 e2
    subst e1;subst e2;refine⟨?_,A⟩;rw[Q];exact hB
   ·rcases T i o a with⟨rfl,rfl⟩|⟨rfl,rfl⟩
    ·exact⟨O,ao⟩
    ·exact⟨⟨rfl,λ_=>Iff.rfl,λ_ _=>rfl⟩,λb n=>n.2.1⟩
   ·match i,a with
    |0,_=>exact M.one _ _ _ O
    |1,_=>rfl
    |_+2,a=>exact absurd a x6
   ·obtain⟨rfl,_⟩:=G i _ a;obtain⟨rfl,_⟩:=G j _ U;exact absurd rfl B
   ·rcases T i o a with⟨rfl,rfl⟩|⟨rfl,rfl⟩
    ·exact(hS b ((E b).2 (.inr n))).1
    ·exact n.1
   ·have z:∀b,S2 b->S b:=λb h=>(E b).2 (.inr h)
    rcases T i o a with⟨rfl,rfl⟩|⟨rfl,rfl⟩<;>rcases T j R2 U with⟨rfl,rfl⟩|⟨rfl,rfl⟩
    ·exact absurd rfl B
    ·exact V.2.2 (z b n)
    ·exact n.2.2 (z b V)
    ·exact absurd rfl B
   ·rcases T j o U with⟨rfl,rfl⟩|⟨rfl,rfl⟩
    ·exact ag n
    ·exact n.2.2 F
  have aB:=eh w0 ⟨0,[],[some (t,cs.map .val)],[some M,some (yh W λb=>w0.heap.size<=b/\b<W.heap.size/\¬ S b)]⟩ r fn.ntmps ([.ptr 0 0]) (L8 hl) rfl hM;have w:∀ {X:St} {C:Env} {a':Act} {w':xH} {I:Res},Sat w0 X C a' w'->Xq X.rs 1=some I->I=(yh W λb=>w0.heap.size<=b/\b<W.heap.size/\¬ S b)->Trm w0 S W w':=λ{X C a' w' I} m K z=>by
   subst z;have L:=(m.see.rs 1 _ K).1;refine⟨m.see.low,λk hk hn=>?_⟩;rcases R5 k w0.heap.size with D|D
   ·exact(m.see.low.block k D).trans (hW.block k D).symm
   ·exact L.2.2 k ⟨D,hk,hn⟩
  refine Fm hT hm (H:=⟨Ej P tt w0 9,λs σ _=>nj pn (yh W λb=>w0.heap.size<=b/\b<W.heap.size/\¬ S b) s σ⟩) (JV hT hm 9) hf n (fl:=(1,2)) key ⟨L4 _,L4 _⟩ aB (λs X d' C a' w' u m _ hg=>?_) λs X d' C a' w' u m _ hg _=>?_
  ·unfold rY at u;split at u
   ·rename_i t' aw h0;split at u
    ·rename_i o K;split at u
     ·rename_i I z;obtain⟨L,rfl,u⟩:=u;let⟨bc,y,hd,D⟩:=Qq u;let⟨hp,bd⟩:=L5.1 bc;have Y:C.b 0=g:=hg.1 0 x4;let⟨h5,h6⟩:=m.see.rs 0 o K;have J:=(m.see.bs 0 _ _ h0).1;rw[Y7 bd,Y]at J;have Z:=m.sep.apart 0 0 _ _ h0 K;rw[Y]at Z;refine .inl ⟨y,λb=>b=g\/C.S 0 b,by rw[JK hp,hd],w m z L,D _ _ _ ⟨ad,J,C.S 0,C.x 0,h5,Z,h6,λ_=>Iff.rfl⟩,λb n=>?_⟩;rcases n with rfl|n
      ·exact⟨.inl F,J.lt⟩
      ·refine⟨?_,h6 b n⟩;rcases R5 b W.heap.size with h7|h7
       ·left;refine Classical.byContradiction λhn=>?_
        have h8:=(m.see.rs 1 I z).1;rw[L]at h8;exact m.sep.disj 0 1 o I K z x4 b n ((h8.2.1 b).2 ⟨m.sep.ownS 0 o K b n,h7,hn⟩)
       ·exact .inr h7
     ·exact u.elim
    ·exact u.elim
   ·exact u.elim
  ·unfold nj at u;dsimp only at u;split at u
   ·rename_i I z;obtain⟨L,v,rfl,D⟩:=u;exact .inr ⟨v,D,rfl,w m z L⟩
   ·exact u.elim
def A9(β:Type)(b:YF P tt)(c:P.follows .mixedOrders=true)(e:Xt P f)(i:P.funcs[f]?=some fn){N:Nat}(j:fn.ntmps=N)(k:fn.results=rs)(g t:Nat)(cs:o3)(l:Nat.ble 1 N=true)(M:Res)(val:β->y9)(R:β->Res)(a:y9->Prop)(d:List Dir)(h:∀F,T F)(m:∀F,T F=TW P tt w0 fn N g t cs M F val R a rs.toList d):B8 P w0 (Qh g t cs M) f #[.pointer (some ⟨g,0,none⟩)] val R a:=by
 subst j;subst k;exact⟨e,λW n x S o p=>We b c i l n o p (m _▸h _)⟩
end
end
def RdT(w:xH)(A:xN)(n k:Nat)(a:Nat->Nat)(F:Nat->Nat->o3):Prop :=
 0<n->∃b off,A=some ⟨b,off,none⟩/\∀i,i<n->∃c ci,a i<=ci/\(c=none->a i=0/\ci=0)/\w.cell? ⟨b,off+i,none⟩=some (.slice c (a i) ci)/\RdK w c (a i) k (F i)
def RdK.below{w a:xH}{A:xN}{n k:Nat}{f:Nat->o3}(g:∀j,(f j).length=k)(h:RdK w A n k f)(l:Below w.heap.size w a):RdK a A n k f:=λm=>by
 let⟨b,off,e,o⟩:=h m;refine⟨b,off,e,λj p i c=>?_⟩;have d:=o j p i c;obtain⟨u,q⟩:∃u,(f j)[i]?=some u:=⟨_,p6 (by rw[g];exact c)⟩
 rw[q]at d ⊢;exact Lj l d
def RdT.below{w a:xH}{A:xN}{n k:Nat}{c:Nat->Nat}{F:Nat->Nat->o3}(f:∀i j,(F i j).length=k)(h:RdT w A n k c F)(d:Below w.heap.size w a):RdT a A n k c F:=λg=>by
 let⟨b,off,e,l⟩:=h g;refine⟨b,off,e,λi m=>?_⟩;let⟨o,ci,p,q,r,s⟩:=l i m;exact⟨o,ci,p,q,Lj d r,s.below (f i) d⟩
section
variable{w:xH}{base k:Nat}{e:o0}{f:Nat->o3}
def OwnK.cel{g n c:Nat}(o:∀j,(f j).length=k)(h:OwnK w base e k (.slice (some ⟨g,0,none⟩) n c) n f):
  ∃F,Cel w g e (c*k) F/\n<=c/\c<=maxLen/\base<=g/\∀j,j<n->∀i,i<k->(f j)[i]?=some (F (j*k+i)):=by
 rcases h.2 with⟨e0,_⟩|⟨y,cap,a,e0,p,q,l,r,m,s⟩
 ·cases e0
 ·injection e0 with b z t
  injection b with b
  injection b with b _ _
  subst b t;refine⟨λj=>a.getD j undef,⟨a,q,m,λj d=>by simp[Array.getD,m,d]⟩,l,r,p,λj d i u=>?_⟩;have v:(j+1)*k<=n*k:=Lt _ x3;have A:n*k<=c*k:=Lt _ l;rw[Ru]at v;have x:j*k+i<a.size:=x3;rw[<- Em o d u,<- s,b9 x3,Array.getElem?_toList];simp[Array.getD,x]
variable{v:y9}
def OwnK.lt_{n:Nat}(h:OwnK w base e k v n f):∀g,v.ownBlock=some g->base<=g/\g<w.heap.size:=World.ownsRow.lt h
def OwnK.base_{c:Nat}{n:Nat}(h:OwnK w base e k v n f)(d:c<=base):OwnK w c e k v n f:=by
 refine⟨h.1,?_⟩;rcases h.2 with i|⟨g,cap,a,j,b,r⟩
 ·exact .inl i
 ·exact .inr ⟨g,cap,a,j,L6 d b,r⟩
structure Nm where
 b:Bool
 s:ByteArray
 e:Int
structure Tm where
 m:ByteArray
 c:Nm
structure Py where
 vars:Int
 ts:List Tm
structure Nd where
 split:Int
 ο:Nm
 sum:Py
structure PV where
 δ:Int
 vars:Int
 box:List (Nm×Nm)
 κ:List (List Nm)
 ps:List Py
 θ:List Py
 ν:Nm
 ε:Nm
 ζ:Int
 ι:List Nd
noncomputable instance:DecidableEq Nm:=λa b=>Classical.propDecidable (a=b)
noncomputable instance:DecidableEq Tm:=λa b=>Classical.propDecidable (a=b)
noncomputable instance:DecidableEq Py:=λa b=>Classical.propDecidable (a=b)
noncomputable instance:DecidableEq Nd:=λa b=>Classical.propDecidable (a=b)
noncomputable instance:DecidableEq PV:=λa b=>Classical.propDecidable (a=b)
def nm0:Nm:=⟨false,⟨#[]⟩,0⟩
abbrev Rdg(α:Type):= xH->α->o3->Prop
variable{α:Type}
def Rdg.up(p:Rdg α):Prop:=∀(w a:xH) (x:α) (cs:o3),p w x cs->Below w.heap.size w a->p a x cs
def SlV(a k:Nat)(p:Rdg α)(w:xH)(l:List α)(v:y9):Prop :=
 ∃A c,v=.slice A l.length c/\l.length<=c/\(A=none->l.length=0/\c=0) /\
  (0<l.length->∃b off,A=some ⟨b,off,none⟩/\a<=b/\∀i (h:i<l.length),∃cs:o3,cs.length=k/\p w l[i] cs/\∀j,j<k->w.cell? ⟨b,off+i*k+j,none⟩=cs[j]?)
def Xk(x:Nm):o3:=[.bool x.b,.string x.s,.int .i64 x.e]
def QK(x:Tm):o3:=[.string x.m,.bool x.c.b,.string x.c.s,.int .i64 x.c.e]
def JR(x:Nm×Nm):o3:=[.bool x.1.b,.string x.1.s,.int .i64 x.1.e,.bool x.2.b,.string x.2.s,.int .i64 x.2.e]
def VT:Rdg Nm:=λ_ x cs=>cs=Xk x
def Ye:Rdg Tm:=λ_ x cs=>cs=QK x
def yN:Rdg (Nm×Nm):=λ_ x cs=>cs=JR x
def kz(a:Nat):Rdg (List Nm):=λw x cs=>∃v,cs=[v]/\SlV a 3 VT w x v
def dX(a:Nat):Rdg Py:=λw x cs=>∃v,cs=[.int .i64 x.vars,v]/\SlV a 4 Ye w x.ts v
def lu(a:Nat):Rdg Nd:=λw x cs=>∃v,cs=[.int .i64 x.split,.bool x.ο.b,.string x.ο.s,.int .i64 x.ο.e,.int .i64 x.sum.vars,v]/\SlV a 4 Ye w x.sum.ts v
abbrev nA(x:Nm):y9:=.agg #[.bool x.b,.string x.s,.int .i64 x.e]
abbrev pL(k v:Int)(b s p r:y9)(e d:Nm)(u:Int)(c:y9):o3:=[.int .i64 k,.int .i64 v,b,s,p,r,.bool e.b,.string e.s,.int .i64 e.e,.bool d.b,.string d.s,.int .i64 d.e,.int .i64 u,c]
abbrev pA(k v:Int)(b s p r:y9)(e d:Nm)(u:Int)(c:y9):y9:=.agg (pL k v b s p r e d u c).toArray
abbrev tL(k v:Int)(b:xN)(nb a:Nat)(s:xN)(f cs:Nat)(p:xN)(g h:Nat)(r:xN)(i j:Nat)(e d:Nm)(u:Int)(c:xN)(l m:Nat):o3:=pL k v (.slice b nb a) (.slice s f cs) (.slice p g h) (.slice r i j) e d u (.slice c l m)
abbrev tA(k v:Int)(b:xN)(nb a:Nat)(s:xN)(f cs:Nat)(p:xN)(g h:Nat)(r:xN)(i j:Nat)(e d:Nm)(u:Int)(c:xN)(l m:Nat):y9:=.agg (tL k v b nb a s f cs p g h r i j e d u c l m).toArray
abbrev xL(x:PV)(b:xN)(a:Nat)(s:xN)(cs:Nat)(p:xN)(d:Nat)(r:xN)(e:Nat)(c:xN)(f:Nat):o3:=tL x.δ x.vars b x.box.length a s x.κ.length cs p x.ps.length d r x.θ.length e x.ν x.ε x.ζ c x.ι.length f
abbrev xA(x:PV)(b:xN)(a:Nat)(s:xN)(cs:Nat)(p:xN)(d:Nat)(r:xN)(e:Nat)(c:xN)(f:Nat):y9:=.agg (xL x b a s cs p d r e c f).toArray
abbrev yL(x:PV)(b s p r c:y9):o3:=pL x.δ x.vars b s p r x.ν x.ε x.ζ c
abbrev yA(x:PV)(b s p r c:y9):y9:=.agg (yL x b s p r c).toArray
def YH:Rdg.up VT:=λ_ _ _ _ h _=>h
def YS:Rdg.up Ye:=λ_ _ _ _ h _=>h
def QbP:Rdg.up yN:=λ_ _ _ _ h _=>h
theorem SlV.below{d:Nat}{p:Rdg α}(g:Rdg.up p){f:xH}{l:List α}(h:SlV d k p w l v)(m:Below w.heap.size w f):SlV d k p f l v:=by
 let⟨A,c,n,o,q,r⟩:=h;refine⟨A,c,n,o,q,λs=>?_⟩;let⟨b,off,e,a,t⟩:=r s;refine⟨b,off,e,a,λi u=>?_⟩;let⟨cs,x,y,B⟩:=t i u;refine⟨cs,x,g _ _ _ _ y m,λj z=>?_⟩
 grind[Lj]
def pG(a:Nat):Rdg.up (kz a):=λ_ _ _ _ ⟨v,b,c⟩ d=>⟨v,b,c.below YH d⟩
def pP(a:Nat):Rdg.up (dX a):=λ_ _ _ _ ⟨v,b,c⟩ d=>⟨v,b,c.below YS d⟩
def QaK(a:Nat):Rdg.up (lu a):=λ_ _ _ _ ⟨v,b,c⟩ d=>⟨v,b,c.below YS d⟩
theorem SlV.shape{a:Nat}{p:Rdg α}{l:List α}(h:SlV a k p w l v):∃A c,v=.slice A l.length c/\l.length<=c:=by
 let⟨A,c,b,d,_⟩:=h
 grind
def SlV.nil_(a k:Nat)(p:Rdg α)(w:xH):SlV a k p w [] (.slice none 0 0):=⟨none,0,rfl,L4 _,λ_=>⟨rfl,rfl⟩,λh=>(T4 0 h).elim⟩
def YR:List Bool->Nat->Option (List Bool)
 |l,0=>some l
 |[],_+1=>none
 |x::r,h+1=>YR r (bif x then h+2 else h)
def GT(l:List Bool):YR l 0=some l:=by cases l<;>rfl
def BH:∀(l:List Bool) (a b:Nat),YR l (a+b)=(YR l a).bind λr=>YR r b
 |l,0,b=>by rw[Lm,GT];rfl
 |[],a+1,b=>by rw[show a+1+b=(a+b)+1 by omega];rfl
 |x::r,a+1,b=>by
  rw[show a+1+b=(a+b)+1 by omega];show YR r (bif x then a+b+2 else a+b)=(YR r (bif x then a+2 else a)).bind λr=>YR r b
  cases x with
  |true=>show YR r (a+b+2)=_;rw[show a+b+2=(a+2)+b by omega,BH r (a+2) b];rfl
  |false=>show YR r (a+b)=_;rw[BH r a b];rfl
theorem GO:∀(l:List Bool) (h:Nat) {r:List Bool},YR l h=some r->∃k,k<=l.length/\r=l.drop k/\(0<h->0<k)
 |l,0,r,e=>by
  rw[GT]at e;exact⟨0,L7 _,by rw[List.drop_zero];exact(o7 e).symm,λh=>h⟩
 |[],_+1,_,e=>by cases e
 |x::t,h+1,r,e=>by
  let⟨k,a,b,_⟩:=GO t _ (show YR t (bif x then h+2 else h)=some r from e);exact⟨k+1,l3 a,b,λ_=>Sw _⟩
def Ya(l:List Bool)(at_:Nat):Int:=match YR (l.drop at_) 1 with
 |some r=>((l.length-r.length:Nat):Int)
 |none=>-1
variable{l:List Bool}
theorem Ms(h:k<l.length)(a:l[k]=false):Ya l k=((k+1:Nat):Int):=by
 grind[Ya,Tb,YR]
def MN(h:l.length<=k):Ya l k=-1:=by
 unfold Ya;rw[List.drop_eq_nil_of_le h];rfl
theorem If(h:k<l.length)(c:l[k]=true):(Ya l (k+1)=-1/\Ya l k=-1)\/∃m:Nat,Ya l (k+1)=(m:Int)/\k+1<m/\m<=l.length/\Ya l k=Ya l m:=by
 have e0:YR (l.drop k) 1=(YR (l.drop (k+1)) 1).bind λr=>YR r 1:=by
  rw[Tb h,c];show YR (l.drop (k+1)) 2=_;exact BH (l.drop (k+1)) 1 1
 cases a:YR (l.drop (k+1)) 1 with
 |none =>
  grind[Ya]
 |some r =>
  let⟨j,d,b,e⟩:=GO _ _ a;have f:=e x4;rw[Lf]at d;rw[List.drop_drop]at b;refine .inr ⟨k+1+j,?_,x3,x3,?_⟩
  ·unfold Ya;rw[a]
   show((l.length-r.length:Nat):Int)=_;rw[b,Lf];omega
  ·unfold Ya;rw[e0,a,<- b];rfl
theorem PM:Ya l 0=(l.length:Int)↔YR l 1=some []:=by
 unfold Ya;rw[List.drop_zero];cases e:YR l 1 with
 |none =>
  simp
 |some r =>
  grind[GO,So]
end
section
def OwnTT(w:xH)(base:Nat)(e e2:o0)(k:Nat)(v:y9)(n m:Nat)(F:Nat->Nat->o3):Prop :=
 ∃(As:Nat->xN) (cs:Nat->Nat),OwnK w base e 1 v n (λj=>[.slice (As j) m (cs j)])/\(∀j,j<n->OwnK w base e2 k (.slice (As j) m (cs j)) m (F j))/\(∀j a,j<n->As j=some a->v.ownBlock≠some a.block)/\(∀i j a b,i<n->j<n->i≠j->As i=some a->As j=some b->a.block≠b.block)
def OwnTT.nil_(w:xH)(base:Nat)(e e2:o0)(k m:Nat)(F:Nat->Nat->o3):OwnTT w base e e2 k (.slice none 0 0) 0 m F :=
 ⟨λ_=>none,λ_=>0,OwnK.nil_ _ _ _ _ _,λj a=>absurd a x3,λj _ a=>absurd a x3,λi _ _ _ b=>absurd b x3⟩
section
variable{P:xO}{w:xH}{ops:Array Oper}{rest:List Oper}{o:Oper}{a:Act}{Q:Exit->Act->xH->Prop}
def H4(ag:o.guard=none)(s x:x0h)(t:o0)(ho:o.op=.call { callee:=.builtin .append,args:=#[s,x],argTypes:=#[t,t] })(base:Nat)(e e2:o0)(z:y9)(k bytes:Nat)(ht:P.underlying t=some (.slice e))(D:(P.info? e).map (λi=>(i.zero,i.size,i.bytes))=some (some z,1,bytes))(ao:z.cells.size=1)(v:y9)(n m:Nat)(F:Nat->Nat->o3)(hs:a.eval s=v)(E:xH)(M:OwnTT E base e e2 k v n m F)(K:Below E.heap.size E w)(Y:Addr)(hx:a.eval x=.slice (some Y) 1 1)(aw:Y.spot=none)(A:xN)(c:Nat)(G:w.cell? Y=some (.slice A m c))(C:OwnK w E.heap.size e2 k (.slice A m c) m (F n))(q:base<=E.heap.size)(bn:n+1<=9223372036854775807)(y:(n+1)*bytes<=140737488355328)(h:∀N w',OwnTT w' base e e2 k N (n+1) m F->Below base w w'->wpList P ops Q rest (a.put o.dst N) w'):
  wpList P ops Q (o::rest) a w:=by
 let⟨i,hi,hz,aB,bc⟩:=info_parts D;let⟨As,cs,h1,h2,h3,h4⟩:=M;let⟨blk,off,sl⟩:=Y;obtain rfl:sl=none:=aw;have O:=OwnK.lt_ h1;have R:=h1.below K;have bd:=OwnK.lt_ R;have S:∀a,A=some a->E.heap.size<=a.block/\a.block<w.heap.size:=λa d=>OwnK.lt_ C a.block (by rw[d];rfl)
 have B:∀j a,j<n->As j=some a->a.block<E.heap.size:=λj a H d=>(OwnK.lt_ (h2 j H) a.block (by rw[d];rfl)).2
 refine wpList_append_own_at (P:=P) (w:=w) ag s x t ho base e i z 1 bytes ht hi hz aB bc ao x4 v n _ hs R ⟨blk,off,none⟩ 1 1 [.slice A m c] hx rfl ?_ ?_ (by unfold maxLen;omega) y (L6 q K.size) ?_
 ·intro j u H;have bi:j=0:=by
   grind
  subst bi;simp at H;subst H;exact G
 ·intro u Z;simp at Z;subst Z;rfl
 ·intro N w' I T _ bp;have J:∀g,g<w.heap.size->v.ownBlock≠some g->w'.heap[g]?=w.heap[g]?:=λg p hn=>T.block g p (λe=>hn e.symm)
  have U:∀g,g<w.heap.size->v.ownBlock≠some g->N.ownBlock≠some g:=λg p hn he=>by
   grind
  have V:∀(u:y9) (b':Nat) (f:Nat->o3),(∀g,u.ownBlock=some g->g<w.heap.size/\v.ownBlock≠some g)->OwnK w b' e2 k u m f->OwnK w' b' e2 k u m f:=λu b' f Z ⟨h0,hr⟩=>by
   refine⟨h0,?_⟩;rcases hr with hr|⟨g,cap,bk,e1,bl,hh,L⟩
   ·exact .inl hr
   ·have W:=Z g (by rw[e1];rfl);exact .inr ⟨g,cap,bk,e1,bl,(J g W.1 W.2).trans hh,L⟩
  have X:∀a,A=some a->v.ownBlock≠some a.block:=λa d he=>by have L:=(O _ he).2;have W:=S a d;omega
  refine h N w' ⟨λj=>if j=n then A else As j,λj=>if j=n then c else cs j,?_,λj H=>?_,λj a H d=>?_,λi j a b hi H bm d r=>?_⟩ ((p5 _ _).grown T (L6 q K.size) (λk hk=>(bd k hk).1))
  ·have e1:ZB (λj=>[.slice (if j=n then A else As j) m (if j=n then c else cs j)]) (n+1)=ZB (λj=>[.slice (As j) m (cs j)]) n++[.slice A m c]:=by
    grind[ZB,VB]
   show World.ownsRow _ _ _ _ _ _ _;rw[e1];exact I
  ·by_cases e:j=n
   ·subst e;simp only[if_true];have L:=V _ _ _ (λg p=>by
     cases l:A with
     |none=>rw[l]at p;cases p
     |some a =>
      rw[l]at p;injection p with p
      subst p;exact⟨(S a l).2,X a l⟩) C
    exact L.base_ q
   ·simp only[if_neg e];refine V _ _ _ (λg p=>?_) ((h2 j x3).below K);cases l:As j with
    |none=>rw[l]at p;cases p
    |some a =>
     rw[l]at p;injection p with p
     subst p;exact⟨L9 (B j a x3 l) K.size,h3 j a x3 l⟩
  ·by_cases e:j=n
   ·subst e;simp only[if_true]at d;exact U _ (S a d).2 (X a d)
   ·simp only[if_neg e]at d;exact U _ (L9 (B j a x3 d) K.size) (h3 j a x3 d)
  ·by_cases e:i=n<;>by_cases e':j=n
   ·omega
   ·simp only[if_pos e]at d;simp only[if_neg e']at r;have L:=S a d;have W:=B j b x3 r;omega
   ·simp only[if_neg e]at d;simp only[if_pos e']at r;have L:=S b r;have W:=B i a x3 d;omega
   ·simp only[if_neg e]at d;simp only[if_neg e']at r;exact h4 i j a b x3 x3 bm d r
end
def CK(f:Nat->Int)(j:Nat):o3:=[.bool (neg (f j)),.string (QJ (f j))]
section
variable{w w':xH}{base top g n:Nat}{e e2:o0}{As cs:Nat->Nat}{M:Nat->Nat->Int}
def DU(k p i:Nat):Nat:=if i=k then p else if i=p then k else i
def Yy{k p i n:Nat}(a:k<n)(b:p<n)(c:i<n):DU k p i<n:=by grind[DU]
end
def Eg(k:Nat)(l:Int)(M:Nat->Nat->Int)(i j:Nat):Int:=if k<i/\k<j then(M i j*M k k-M i k*M k j) / l else M i j
def Yu(k:Nat)(l:Int)(M:Nat->Nat->Int)(i j a b:Nat):Int:=if k<a/\k<b/\(a<i\/(a=i/\b<j))then(M a b*M k k-M a k*M k b) / l else M a b
def aA(k i:Nat):DU k k i=i:=by grind[DU]
def gu(k p:Nat):DU k p k=p:=by simp[DU]
def wU{S k:Nat}{l a b c d:Int}(g:Zr a+3<=2^k*(S+3))(h:Zr b+3<=2^k*(S+3))(i:Zr c+3<=2^k*(S+3))(j:Zr d+3<=2^k*(S+3)):Zr ((a*b-c*d) / l)+3<=2^(k+1)*(S+3):=by
 obtain⟨T,f⟩:∃T,T=2^k*(S+3):=⟨_,rfl⟩
 have e:2^(k+1)*(S+3)=2*T:=by rw[R8,f,Ls (2^k) 2,R9]
 rw[<- f]at g h i j;rw[e];have m:Zr (a*b)<=T-3+(T-3):=Js x3 x3;have n:Zr (c*d)<=T-3+(T-3):=Js x3 x3;have o:=υ m n;have p:=J0 (Tj (a*b-c*d) l);omega
def yU{S k:Nat}{a:Int}(b:Zr a+3<=2^k*(S+3)):Zr a+3<=2^(k+1)*(S+3):=by
 grind[R9]
def qR{S k:Nat}{a:Int}(b:k<=8)(d:256*(S+3)<=100000000)(e:Zr a+3<=2^k*(S+3)):Zr a<=100000000:=by
 have c:2^k<=2^8:=Lh x4 b;have f:2^k*(S+3)<=2^8*(S+3):=Lt _ c;omega
def UT(k:Nat)(l:Int)(M:Nat->Nat->Int)(a b:Nat):M a b=Yu k l M (k+1) (k+1) a b:=by
 grind[Yu]
def jG(k:Nat)(l:Int)(M:Nat->Nat->Int)(i n b a:Nat)(c:a<n):Yu k l M i n b a=Yu k l M (i+1) (k+1) b a:=by
 grind[Yu]
def jE(k:Nat)(l:Int)(M:Nat->Nat->Int)(n a b:Nat)(c:a<n):Yu k l M n (k+1) a b=Eg k l M a b:=by
 grind[Yu,Eg]
def jF(k:Nat)(l:Int)(M:Nat->Nat->Int)(i j a b:Nat)(c:k<i)(d:k<j):(if a=i/\b=j then(M i j*M k k-M i k*M k j) / l else Yu k l M i j a b)=Yu k l M i (j+1) a b:=by
 grind[Yu]
def mM(k:Nat)(l:Int)(M:Nat->Nat->Int)(i j:Nat):Yu k l M i j i j=M i j:=by simp[Yu]
def Fk(k:Nat)(l:Int)(M:Nat->Nat->Int)(i j a:Nat):Yu k l M i j a k=M a k:=by simp[Yu]
def jH(k:Nat)(l:Int)(M:Nat->Nat->Int)(i j a:Nat):Yu k l M i j k a=M k a:=by simp[Yu]
end
