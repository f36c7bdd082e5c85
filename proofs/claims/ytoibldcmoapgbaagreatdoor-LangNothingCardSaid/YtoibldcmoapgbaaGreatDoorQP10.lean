/- Laws beneath the statement. -/
import Derived.Test.YtoibldcmoapgbaaGreatDoorQP1
import Derived.Laws.AppendOwnNone
namespace Go.Proofs.YtoibldcmoapgbaaGreatDoor
open Go Go.RowKit
variable{ag:Option Bool}{op:BinOp}{y:Operand}
inductive Rch (ops:Array Oper):Nat->Nat->Prop
 | one {a i:Nat}:i∈YK ops a->Rch ops a i
 | more {a j i:Nat}:j∈YK ops a->Rch ops j i->Rch ops a i
theorem Iy{ops:Array Oper}{n:Nat}{listed:Array Bool}(b:HeadInv .any ops n listed){a i:Nat}(h:Rch ops a i): (∀j,j∈YK ops a->listed.getD j false=true)->listed.getD i false=true:=by
 induction h with
 | one h=>exact λk=>k _ h
 | more h _ c=>exact λk=>c λj d=>Dw b (k _ h) d
def Y9{α:Type}(f:Nat->α)(i:Nat)(x:α)(k:Nat): α:=if k=i then x else f k
theorem Xp{α:Type}(f:Nat->α)(i:Nat)(x:α): Y9 f i x i=x:=if_pos rfl
theorem XV{α:Type}(f:Nat->α){i k:Nat}(x:α)(h:k≠i): Y9 f i x k=f k:=if_neg h
section
variable {Γ:Type}
def xf(P:u7)(ops:Array Oper)(F:(Nat->z0)->Act)(G:y9->Prop)(Φ:Nat->(Nat->z0)->(Nat->Γ)->y9->Prop)(a:Nat->Γ->Nat->Prop)(i:Nat): Prop :=
 ∀(o:Oper),ops[i]?=some o->∀(u:Nat->z0) (γ:Nat->Γ) (w:y9),G w->(∀j,Rch ops i j->Φ j u γ w)->∀(Q:Exit->Act->y9->Prop) (K:Act->y9->Prop),
  (∀v g w',Below w.heap.size w w'->G w'->Φ i (Y9 u i v) (Y9 γ i g) w'->(∀b,a i g b->w.heap.size<=b/\b<w'.heap.size)->K ((F u).put o.dst v) w')->if Region.wanted o (yielded ops (F u).tmps)=true then Oper.wp P o (F u) w K Q else K ((F u).put o.dst undef) w
def gO(P:u7)(ops:Array Oper)(F:(Nat->z0)->Act)(G:y9->Prop)(Φ:Nat->(Nat->z0)->(Nat->Γ)->y9->Prop)(i:Nat): Prop :=
 ∀(o:Oper),ops[i]?=some o->∀(u:Nat->z0) (γ:Nat->Γ) (w:y9),G w->(∀j,Rch ops i j->Φ j u γ w)->∃v,Yields P ops o v (F u)/\Φ i (Y9 u i v) γ w
theorem mY{P:u7}{ops:Array Oper}{n:Nat}{Q:Exit->Act->y9->Prop}{l:List Oper}(hl:l.toArray=ops)(F:(Nat->z0)->Act)(G:y9->Prop)(Φ:Nat->(Nat->z0)->(Nat->Γ)->y9->Prop)(X:Nat->Γ->Nat->Prop)(B:Nat)(st:Nat->Bool)(hB:Dz ops n st=true)(hQ:∀(d:Tmp) (v:z0) c a w,Q (.panic c) (a.put (some d) v) w->Q (.panic c) a w)(cm:∀i o,i<n->ops[i]?=some o->∃d:Tmp,o.dst=some d)(ae:∀(u:Nat->z0) (i:Nat) (v:z0) (o:Oper),i<n->ops[i]?=some o->(F u).put o.dst v=F (Y9 u i v))(cn:∀i u γ w w',i<n->Below w.heap.size w w'->Φ i u γ w->Φ i u γ w')(cp:∀i u u' γ γ' w,i<n->(∀j,j=i\/Rch ops i j->u j=u' j/\γ j=γ' j)->Φ i u γ w->Φ i u' γ' w)(cq:∀i,i<n->xf P ops F G Φ X i)(bd:∀i,i<n->st i=false->(∀g b,¬ X i g b)/\gO P ops F G Φ i)(u0:Nat->z0)(bi:∀u γ w,(∀k,n<=k->u k=u0 k)->G w->(∀i,i<n->Φ i u γ w)->(∀i,i<n->∀b,X i (γ i) b->B<=b/\b<w.heap.size)->(∀i j,i<n->j<n->i≠j->∀b,X i (γ i) b->¬ X j (γ j) b)->wpList P ops Q (l.drop n) (F u) w):
  ∀(f:Nat) (listed:Array Bool) (u:Nat->z0) (γ:Nat->Γ) (w:y9),left n listed=f->HeadInv .any ops n listed->(∀k,n<=k->u k=u0 k)->G w->B<=w.heap.size->(∀i,i<n->listed.getD i true=true->Φ i u γ w) ->
   (∀i,i<n->listed.getD i true=true->∀b,X i (γ i) b->B<=b/\b<w.heap.size) ->
   (∀i j,i<n->j<n->listed.getD i true=true->listed.getD j true=true->i≠j->∀b,X i (γ i) b->¬ X j (γ j) b) ->
   wpAny P .any ops Q (f+(ops.size-n)) listed (F u) w:=by
 simp only[Dz,Lu,decide_eq_true_eq]at hB;obtain⟨⟨⟨⟨⟨⟨hn,ca⟩,hc⟩,hs⟩,bk⟩,bl⟩,al⟩:=hB;have R:∀a j,a<n->j∈YK ops a->j<a:=λa j ha s=>by
  have E:=Lc.1 bl a (Lr.2 ha);simpa using Lc.1 E _ s
 have cb:∀a j,Rch ops a j->a<n->j<a:=by
  intro a j h;induction h with
  | one h=>exact λha=>R _ _ ha h
  | more h _ ih =>
   intro ha;have E:=R _ _ ha h;have:=ih x3;omega
 intro f;induction f with
 | zero =>
  intro listed u γ w hf t Y hG bs hΦ hF hD;have r:=MR hf;have he:listed=Array.replicate n true++Array.replicate (ops.size-n) false:=by
   apply Array.ext
   ·simp[t.size];omega
   ·intro i E H;by_cases y:i<n
    ·have:=r i y;rw[Array.getElem_append_left (y8 y)];simpa [E]using this
    ·have:=t.tail i x3 (by rw[<- t.size];exact E);rw[Array.getElem_append_right x7];simpa [E]using this
  rw[Lj];have ao:(l.drop n).length=ops.size-n:=by rw[<- hl];simp
  rw[<- ao]at al ⊢;exact wpAny_of_seq (l.drop n) n listed (F u) w (λj=>by rw[<- hl];simp[List.getElem?_drop]) (by rw[he,<- ao];exact al) (bi u γ w Y hG (λi y=>hΦ i y (r i y)) (λi y=>hF i y (r i y)) (λi j y s=>hD i j y s (r i y) (r j s)))
 | succ f ih =>
  intro listed u γ w hf t Y hG bs hΦ hF hD;obtain⟨x,z,Z,cc⟩:=MQ n listed x3;have q:x∈Region.ready .any ops listed:=by
   have cr:x<ops.size:=x3;obtain⟨o,M⟩:∃o,ops[x]?=some o:=⟨ops[x],by simp[cr]⟩
   refine mem_ready.2 ⟨Z,o,M,λe he I=>?_⟩;have hw:e.on∈YK ops x:=by
    unfold YK;rw[M]
    exact Ri.2 ⟨e,Sd.2 ⟨Ta.2 he,I⟩,rfl⟩
   have aw:e.on<x:=R _ _ z hw;have h3:=cc _ aw;have h4:e.on<listed.size:=by rw[t.size];omega
   simpa [h4]using h3
  rw[show f+1+(ops.size-n)=(f+(ops.size-n))+1 by omega];have bX:∀i,i∈Region.ready .any ops listed->∀j,Rch ops i j->listed.getD j false=true:=λi y j s=>by
   obtain⟨_,o,M,J⟩:=mem_ready.1 y;refine Iy t s λk D=>?_
   unfold YK at D;rw[M]at D
   obtain⟨e,he,rfl⟩:=Ri.1 D;obtain⟨ct,cu⟩:=Sd.1 he;exact J e (Ta.1 ct) cu
  have cd:∀j,j<n->listed.getD j false=true->listed.getD j true=true:=λj s h=>by
   have h4:j<listed.size:=by rw[t.size];omega
   simpa [h4]using h
  have N:∀i,i<n->i∈Region.ready .any ops listed->∀j,Rch ops i j->Φ j u γ w:=λi C y j s=>by
   have aw:=cb _ _ s C;exact hΦ _ x3 (cd j x3 (bX i y j s))
  have S:∀i,i<n->listed.getD i true=false->∀v g w',Below w.heap.size w w'->∀j,j<n->listed.getD j true=true->Φ j (Y9 u i v) (Y9 γ i g) w':=λi y T v g w' I j s p=>by
   refine cp j u _ γ _ w' s (λk D=>?_) (cn j u γ w w' s I (hΦ j s p));have K:k≠i:=by
    rintro rfl;rcases D with rfl|D
    ·rw[T]at p;cases p
    ·have cf:j<ops.size:=x3;have E:listed.getD k false=true:=Iy t D λm hm=>by
      refine Dw t ?_ hm;have h4:j<listed.size:=by rw[t.size];omega
      simpa [h4]using p
     rw[getD_both T]at E;cases E
   rw[XV u v K,XV γ g K];exact⟨rfl,rfl⟩
  by_cases r:∃i,i<n/\st i=true/\listed.getD i true=false
  case neg =>
   have aB:st x=false:=by
    cases h:st x with
    | false=>rfl
    | true=>exact absurd ⟨x,z,h,Z⟩ r
   obtain⟨U,ch⟩:=bd x z aB;obtain⟨_,o,M,J⟩:=mem_ready.1 q;obtain⟨v,hy,hv⟩:=ch o M u γ w hG (N x z q);have cy:∀c a w,Q (.panic c) (a.put o.dst v) w->Q (.panic c) a w:=by
    obtain⟨d,hd⟩:=cm x o z M;rw[hd];exact hQ d v
   have eγ:Y9 γ x (γ x)=γ:=by funext k;unfold Y9;split<;>simp_all
   refine wpAny_first M (Region.noSelect_spec ca) cy _ listed (F u) w (λj oj bY cA cj cl=>?_) q hy ?_
   ·have cf:j<ops.size:=(o3.1 bY).1;have E:=Lc.1 bk x (Lr.2 z);rw[aB,Bool.false_or]at E;have H:=Lc.1 E j (Lr.2 cf);simp only[Uu,Lu,decide_eq_true_eq,Sv,M,bY]at H;rcases H with((H|H)|H)|H
    ·exact absurd H cA
    ·exact absurd ⟨j,H.1,H.2,cj⟩ r
    ·obtain⟨o',cC,e,he,I,cD⟩:=Region.waitsFor_spec H;have:o'=oj:=hW (cC.symm.trans bY);subst this;exact absurd cD (cl e he I)
    ·exact H
   ·rw[ae u x v o z M];refine ih _ _ γ w (y6 (Ck z Z)) (t.set q z) (λk D=>by rw[XV u v x3];exact Y k D) hG bs (λj s p=>?_) (λj s p b I=>?_) (λj k s D p L K b I A=>?_)
    ·by_cases e:j=x
     ·subst e;exact hv
     ·rw[getD_set_ne true (Ne.symm e)]at p;have h5:=S x z Z v (γ x) w (l3 _ _) j s p;rwa [eγ]at h5
    ·have ej:j≠x:=λe=>U _ _ (e▸I)
     rw[getD_set_ne true (Ne.symm ej)]at p;exact hF j s p b I
    ·have ej:j≠x:=λe=>U _ _ (e▸I)
     have ek:k≠x:=λe=>U _ _ (e▸A)
     rw[getD_set_ne true (Ne.symm ej)]at p;rw[getD_set_ne true (Ne.symm ek)]at L;exact hD j k s D p L K b I A
  obtain⟨is,cF,cG,cL⟩:=r;refine⟨λh0=>(by rw[h0]at q;cases q),λi y=>?_⟩;have C:i<n:=by
   rcases Lx i n with h|h
   ·exact h
   ·exact absurd y (Bg hs hc t cF cG cL i h)
  obtain⟨T,o,M,J⟩:=mem_ready.1 y;have cM:∀v g w',Below w.heap.size w w'->G w'->Φ i (Y9 u i v) (Y9 γ i g) w'->(∀b,X i g b->w.heap.size<=b/\b<w'.heap.size)->wpAny P .any ops Q (f+(ops.size-n)) (listed.setIfInBounds i true) ((F u).put o.dst v) w':=λv g w' I cN hv V=>by
   rw[ae u i v o C M];refine ih _ _ (Y9 γ i g) w' (y6 (Ck C T)) (t.set y C) (λk D=>by rw[XV u v x3];exact Y k D) cN (L9 bs I.size) (λj s p=>?_) (λj s p b ad=>?_) (λj k s D p L K b W A=>?_)
   ·by_cases e:j=i
    ·subst e;exact hv
    ·rw[getD_set_ne true (Ne.symm e)]at p;exact S i C T v g w' I j s p
   ·by_cases e:j=i
    ·subst e;rw[Xp]at ad;have:=V b ad;omega
    ·rw[getD_set_ne true (Ne.symm e)]at p;rw[XV γ g e]at ad;have E:=hF j s p b ad;have H:=I.size;omega
   ·by_cases ej:j=i
    ·subst ej;have ek:k≠j:=Ne.symm K;rw[Xp]at W;rw[XV γ g ek]at A;rw[getD_set_ne true (Ne.symm ek)]at L;have E:=V b W;have H:=hF k D L b A;omega
    ·rw[getD_set_ne true (Ne.symm ej)]at p;rw[XV γ g ej]at W;by_cases ek:k=i
     ·subst ek;rw[Xp]at A;have E:=V b A;have H:=hF j s p b W;omega
     ·rw[getD_set_ne true (Ne.symm ek)]at L;rw[XV γ g ek]at A;exact hD j k s D p L K b W A
  have O:=cq i C o M u γ w hG (N i C y) Q _ cM;unfold wpOp;simp only[M];split
  ·rename_i hw;rw[if_pos hw]at O;exact .inl O
  ·rename_i hw;rw[if_neg hw]at O;exact O
theorem Fk{P:u7}{Q:Exit->Act->y9->Prop}{a:Act}{w:y9}{l:List Oper}(e:List Nat)(G:y9->Prop)(Φ:Nat->(Nat->z0)->(Nat->Γ)->y9->Prop)(x:Nat->Γ->Nat->Prop)(N:Nat->Γ)(A:Nat->Bool)(B:Dz l.toArray e.length A=true)(O:∀(d:Tmp) (v:z0) c a w,Q (.panic c) (a.put (some d) v) w->Q (.panic c) a w)(C:((List.range e.length).all λi=>((l.toArray[i]?).bind (·.dst))==e[i]?)=true)(D:Em e=true)(_hlt:e.all (·<a.tmps.size)=true)(R:G w.drew)(E:∀i u γ w w',i<e.length->Below w.heap.size w w'->Φ i u γ w->Φ i u γ w')(F:∀i u L γ M w,i<e.length->(∀j,j=i\/Rch l.toArray i j->u j=L j/\γ j=M j)->Φ i u γ w->Φ i L M w)(H:∀i,i<e.length->xf P l.toArray (Ah a e) G Φ x i)(p:∀i,i<e.length->A i=false->(∀g b,¬ x i g b)/\gO P l.toArray (Ah a e) G Φ i)(q:∀u γ w',G w'->(∀i,i<e.length->Φ i u γ w')->(∀i,i<e.length->∀b,x i (γ i) b->w.heap.size<=b/\b<w'.heap.size)->(∀i j,i<e.length->j<e.length->i≠j->∀b,x i (γ i) b->¬ x j (γ j) b)->wpList P l.toArray Q (l.drop e.length) (Ah a e u) w'): wpAny P .any l.toArray Q l.toArray.size (Array.replicate l.toArray.size false) a { w with drawn:=w.drawn+1 }:=by
 have I:=Cu D;have Z:e.length<=l.toArray.size:=by
  simp only[Dz,Lu,decide_eq_true_eq]at B;exact B.1.1.1.1.1.1
 have y:HeadInv .any l.toArray e.length (Array.replicate l.toArray.size false) :=
  ⟨x6,λj oj _ m=>(by rw[getD_replicate_false]at m;cases m),λt _ S=>getD_in (y8 S) (getD_replicate_false _ _)⟩
 have f:∀i,i<e.length->(Array.replicate l.toArray.size false).getD i true=false:=λi k=>getD_in (by simpa using(by omega:i<l.toArray.size)) (getD_replicate_false _ _)
 have r:left e.length (Array.replicate l.toArray.size false)=e.length:=by
  unfold left;rw[List.filter_eq_self.2 (λi k=>by rw[f i (Lr.1 k)];rfl),Sz]
 have n:∀i,i<e.length->∃d,e[i]?=some d/\∀o,l.toArray[i]?=some o->o.dst=some d:=λi k=>by
  have T:=Lc.1 C i (Lr.2 k);have J:((l.toArray[i]?).bind (·.dst))=e[i]?:=y8 T;refine⟨e[i],by simp[k],λo z=>?_⟩;rw[z]at J;have U:e[i]?=some e[i]:=by simp[k]
  rw[U]at J;exact J
 have h:=mY (Q:=Q) (l:=l) rfl (Ah a e) G Φ x w.heap.size A B O (λi o k z=>by obtain⟨d,_,s⟩:=n i k;exact⟨d,s o z⟩) (λu i v o k z=>by
   obtain⟨d,V,s⟩:=n i k;rw[s o z];exact bD I u V v) E F H p (λi=>a.tmps.getD (e.getD i 0) undef) (λu γ w' _ K W X Y=>q u γ w' K W X Y) e.length _ (λi=>a.tmps.getD (e.getD i 0) undef) N w.drew r y (λ_ _=>rfl) R (L8 _)
   (λi k m=>(by rw[f i k]at m;cases m)) (λi k m=>(by rw[f i k]at m;cases m)) (λi j k hj m=>(by rw[f i k]at m;cases m))
 rw[show e.length+(l.toArray.size-e.length)=l.toArray.size by omega]at h;rw[<- PR a e]at h;exact h
end
inductive SV where
 | val (y:Value)
 | ptr (b o:Nat)
 | sli (b o n c:Nat)
 | clo (fn:Fn) (l m:List SV)
 | agg (l:List SV)
 | tup (l:List SV)
 | han (i:Nat)
structure Env where
 b:Nat->Nat
 x:Nat->Value
 S:Nat->Nat->Prop
mutual
def SV.den(r:Env): SV->z0
 | .val y=>y
 | .ptr b o=>.pointer (some ⟨r.b b,o,none⟩)
 | .sli b o n c=>.slice (some ⟨r.b b,o,none⟩) n c
 | .clo fn l m=>.func fn (QJ r l).toArray (QJ r m).toArray
 | .agg l=>.agg (QJ r l).toArray
 | .tup l=>.tuple (QJ r l).toArray
 | .han i=>r.x i
def QJ(r:Env): List SV->a8
 | []=>[]
 | s::l=>s.den r::QJ r l
end
mutual
def SV.ok(β ξ:Nat->Bool): SV->Bool
 | .val _=>true
 | .ptr b _=>β b
 | .sli b _ _ _=>β b
 | .clo _ l m=>GA β ξ l&&GA β ξ m
 | .agg l=>GA β ξ l
 | .tup l=>GA β ξ l
 | .han i=>ξ i
def GA(β ξ:Nat->Bool): List SV->Bool
 | []=>true
 | s::l=>s.ok β ξ&&GA β ξ l
end
mutual
theorem Zc(β ξ:Nat->Bool){r r':Env}(a:∀i,β i=true->r.b i=r'.b i)(c:∀i,ξ i=true->r.x i=r'.x i): ∀s:SV,s.ok β ξ=true->s.den r=s.den r'
 | .val _,_=>rfl
 | .ptr b _,h=>by simp only[SV.den,a b h]
 | .sli b _ _ _,h=>by simp only[SV.den,a b h]
 | .clo _ l m,h=>by
  have d:=L6.1 h;simp only[SV.den,Xt _ _ a c l d.1,Xt _ _ a c m d.2]
 | .agg l,h=>by simp only[SV.den,Xt _ _ a c l h]
 | .tup l,h=>by simp only[SV.den,Xt _ _ a c l h]
 | .han i,h=>c i h
theorem Xt(β ξ:Nat->Bool){r r':Env}(a:∀i,β i=true->r.b i=r'.b i)(c:∀i,ξ i=true->r.x i=r'.x i): ∀l:List SV,GA β ξ l=true->QJ r l=QJ r' l
 | [],_=>rfl
 | s::l,h=>by
  have d:=L6.1 h;simp only[QJ,Zc _ _ a c s d.1,Xt _ _ a c l d.2]
end
mutual
theorem Ke{β ξ d e:Nat->Bool}(a:∀i,β i=true->d i=true)(c:∀i,ξ i=true->e i=true): ∀s:SV,s.ok β ξ=true->s.ok d e=true
 | .val _,_=>rfl
 | .ptr b _,h=>a b h
 | .sli b _ _ _,h=>a b h
 | .clo _ l m,h=>by
  have f:=L6.1 h;exact L6.2 ⟨Z9 a c l f.1,Z9 a c m f.2⟩
 | .agg l,h=>Z9 a c l h
 | .tup l,h=>Z9 a c l h
 | .han i,h=>c i h
theorem Z9{β ξ a b:Nat->Bool}(c:∀i,β i=true->a i=true)(d:∀i,ξ i=true->b i=true): ∀l:List SV,GA β ξ l=true->GA a b l=true
 | [],_=>rfl
 | s::l,h=>by
  have e:=L6.1 h;exact L6.2 ⟨Ke c d s e.1,Z9 c d l e.2⟩
end
theorem Q1{a b:Nat}(h:Nat.blt a b=true): a<b:=L3 h
theorem YA{a b:Nat}(h:a<b): Nat.blt a b=true:=Nat.ble_eq_true_of_le h
theorem XE(r:Env): ∀l:List SV,QJ r l=l.map (·.den r)
 | []=>rfl
 | s::l=>by simp[QJ,XE r l]
theorem J6(r:Env)(l:List SV): (QJ r l).length=l.length:=by simp[XE]
theorem DR(r:Env)(l:a8): QJ r (l.map SV.val)=l:=by induction l<;>simp_all [QJ,SV.den]
theorem RM(β ξ:Nat->Bool)(l:a8): GA β ξ (l.map SV.val)=true:=by induction l<;>simp_all [GA,SV.ok]
theorem okL_all{β ξ:Nat->Bool}: ∀ {l:List SV},GA β ξ l=true↔∀s,s∈l->s.ok β ξ=true
 | []=>by simp[GA]
 | s::l=>by simp[GA,@okL_all β ξ l]
def YQ{α:Type}(k:Nat): List (Nat×α)->Option α
 | []=>none
 | (j,s)::l=>bif Nat.beq j k then some s else YQ k l
def Xe{α:Type}: List (Option α)->Nat->Option α
 | [],_=>none
 | x::_,0=>x
 | _::l,n+1=>Xe l n
def VV{α:Type}: List (Option α)->Nat->α->List (Option α)
 | [],_,_=>[]
 | _::l,0,y=>some y::l
 | x::l,n+1,y=>x::VV l n y
theorem XC{α:Type}: ∀ {l:List (Option α)} {i:Nat} {y:α},Xe l i=some y->i<l.length
 | [],_,_,h=>by cases h
 | _::_,0,_,_=>S6 _
 | _::l,_+1,_,h=>Uo (XC (l:=l) h)
theorem XH{α:Type}: ∀(l:List (Option α)) (i:Nat) (y:α),(VV l i y).length=l.length
 | [],_,_=>rfl
 | _::_,0,_=>rfl
 | _::l,n+1,y=>Ly Nat.succ (XH l n y)
theorem BQ{α:Type}: ∀ {l:List (Option α)} {i j:Nat} {y z:α},Xe (VV l i y) j=some z->(j=i/\z=y)\/(j≠i/\Xe l j=some z)
 | [],_,_,_,_,h=>by cases h
 | _::_,0,0,_,_,h=>.inl ⟨rfl,(hW h).symm⟩
 | _::_,0,_+1,_,_,h=>.inr ⟨x6,h⟩
 | _::_,_+1,0,_,_,h=>.inr ⟨x6,h⟩
 | _::l,i+1,j+1,_,_,h=>by
  rcases BQ (l:=l) (i:=i) (j:=j) h with⟨e,a⟩|⟨e,a⟩
  ·exact .inl ⟨by rw[e],a⟩
  ·exact .inr ⟨y8 e,a⟩
theorem Cv{α:Type}: ∀ {l:List (Option α)} {x:Option α} {i:Nat} {y:α},Xe (l++[x]) i=some y->Xe l i=some y\/(i=l.length/\x=some y)
 | [],_,0,_,h=>.inr ⟨rfl,h⟩
 | [],_,_+1,_,h=>by cases h
 | _::_,_,0,_,h=>.inl h
 | _::l,_,i+1,_,h=>(Cv (l:=l) (i:=i) h).imp id λ⟨e,a⟩=>⟨Ly Nat.succ e,a⟩
structure Res where
 φ:Value->(Nat->Prop)->World->Prop
 one:∀v S w,φ v S w->v.oneCell'=true
 loc:∀v S w w',(∀b,S b->w'.heap[b]?=w.heap[b]?)->φ v S w->φ v S w'
structure St where
 n:Nat
 ts:List (Nat×SV)
 bs:List (Option (TypeId×List SV))
 rs:List (Option Res)
def St.lt(σ:St)(s:SV): Bool:=s.ok (λi=>Nat.blt i σ.bs.length) (λi=>Nat.blt i σ.rs.length)
def St.ltL(σ:St)(l:List SV): Bool:=GA (λi=>Nat.blt i σ.bs.length) (λi=>Nat.blt i σ.rs.length) l
structure See (w0:World) (σ:St) (r:Env) (a:Act) (w:World):Prop where
 low:Below w0.heap.size w0 w
 size:a.tmps.size=σ.n
 ts:∀k s,YQ k σ.ts=some s->a.tmps.getD k undef=s.den r/\σ.lt s=true
 bs:∀i t cs,Xe σ.bs i=some (t,cs)->Bx w (r.b i) t (QJ r cs).toArray/\σ.ltL cs=true
 rs:∀i R,Xe σ.rs i=some R->R.φ (r.x i) (r.S i) w/\∀b,r.S i b->b<w.heap.size
 one:∀i,i<σ.rs.length->(r.x i).oneCell'=true
structure Sep (w0:World) (σ:St) (r:Env):Prop where
 own:∀i p,Xe σ.bs i=some p->w0.heap.size<=r.b i
 inj:∀i j p q,Xe σ.bs i=some p->Xe σ.bs j=some q->i≠j->r.b i≠r.b j
 ownS:∀i R,Xe σ.rs i=some R->∀b,r.S i b->w0.heap.size<=b
 disj:∀i j R R',Xe σ.rs i=some R->Xe σ.rs j=some R'->i≠j->∀b,r.S i b->¬ r.S j b
 apart:∀i j p R,Xe σ.bs i=some p->Xe σ.rs j=some R->¬ r.S j (r.b i)
structure Sat (w0:World) (σ:St) (r:Env) (a:Act) (w:World):Prop where
 see:See w0 σ r a w
 sep:Sep w0 σ r
 defers:a.defers=[]
theorem See.later{w0:y9}{σ:St}{r:Env}{a:Act}{w w':y9}(h:See w0 σ r a w)(d:Below w.heap.size w w'): See w0 σ r a w' :=
 ⟨nxt h.low d,h.size,h.ts,λi t cs c=>⟨(h.bs i t cs c).1.later d,(h.bs i t cs c).2⟩,λi R c=>⟨R.loc _ _ _ _ (λb e=>d.block b ((h.rs i R c).2 b e)) (h.rs i R c).1,λb e=>Lb ((h.rs i R c).2 b e) d.size⟩,h.one⟩
structure Out where
 s:SV
 b:Option (TypeId×List SV):=none
 r:Option Res:=none
structure Gh where
 b:Nat
 x:Value
 S:Nat->Prop
def Gh.no:Gh:=⟨0,.bool false,λ_=>False⟩
def Env.add(r:Env)(nb nx:Nat)(γ:Gh): Env:=⟨Y9 r.b nb γ.b,Y9 r.x nx γ.x,Y9 r.S nx γ.S⟩
def Env.add'(r:Env)(σ:St)(γ:Gh): Env:=r.add σ.bs.length σ.rs.length γ
theorem NP{σ:St}{s:SV}(h:σ.lt s=true)(r:Env)(γ:Gh): s.den (r.add' σ γ)=s.den r :=
 Zc _ _ (λ_ a=>XV _ _ (Ry (Q1 a))) (λ_ a=>XV _ _ (Ry (Q1 a))) s h
theorem PB{σ:St}{l:List SV}(h:σ.ltL l=true)(r:Env)(γ:Gh): QJ (r.add' σ γ) l=QJ r l :=
 Xt _ _ (λ_ a=>XV _ _ (Ry (Q1 a))) (λ_ a=>XV _ _ (Ry (Q1 a))) l h
structure Made (r':Env) (o:Out) (γ:Gh) (w w':World):Prop where
 one:γ.x.oneCell'=true
 b:∀t cs,o.b=some (t,cs)->Bx w' γ.b t (QJ r' cs).toArray/\w.heap.size<=γ.b
 r:∀R,o.r=some R->R.φ γ.x γ.S w'/\∀b,γ.S b->w.heap.size<=b/\b<w'.heap.size
 apart:∀p R,o.b=some p->o.r=some R->¬ γ.S γ.b
def Vr{α:Type}: List α->α->List α
 | [],y=>[y]
 | x::l,y=>x::Vr l y
theorem XY{α:Type}: ∀(l:List α) (y:α),Vr l y=l++[y]
 | [],_=>rfl
 | x::l,y=>Ly (x::·) (XY l y)
def St.fits(σ:St)(o:Out): Bool :=
 (o.s.ok (λi=>Nat.blt i (match o.b with|some _=>σ.bs.length+1|none=>σ.bs.length)) (λi=>Nat.blt i (match o.r with|some _=>σ.rs.length+1|none=>σ.rs.length))) &&
 (match o.b with|some (_,cs)=>σ.ltL cs|none=>true)
def St.grow(σ:St)(o:Out): St:={ σ with bs:=match o.b with|some x=>Vr σ.bs (some x)|none=>σ.bs,rs:=match o.r with|some R=>Vr σ.rs (some R)|none=>σ.rs }
def St.push(σ:St)(d:Option Tmp)(s:SV): St:=match d with|some d=>{ σ with ts:=(d,s)::σ.ts } | none=>σ
theorem N8{σ:St}{o:Out}: σ.bs.length<=(σ.grow o).bs.length:=by
 unfold St.grow;cases o.b<;>simp[XY]
theorem N9{σ:St}{o:Out}: σ.rs.length<=(σ.grow o).rs.length:=by
 unfold St.grow;cases o.r<;>simp[XY]
theorem oW{σ:St}{o:Out}{s:SV}(h:σ.lt s=true): (σ.grow o).lt s=true :=
 Ke (λ_ a=>YA (Lb (Q1 a) N8)) (λ_ a=>YA (Lb (Q1 a) N9)) s h
theorem P2{σ:St}{o:Out}{l:List SV}(h:σ.ltL l=true): (σ.grow o).ltL l=true :=
 Z9 (λ_ a=>YA (Lb (Q1 a) N8)) (λ_ a=>YA (Lb (Q1 a) N9)) l h
theorem Cd{σ:St}{o:Out}{i:Nat}{p:u6×List SV}(h:Xe (σ.grow o).bs i=some p): Xe σ.bs i=some p\/(i=σ.bs.length/\o.b=some p):=by
 unfold St.grow at h;cases e:o.b with
 | none=>rw[e]at h;exact .inl h
 | some x =>
  rw[e]at h;simp only[XY]at h;exact(Cv h).imp id λ⟨a,c⟩=>⟨a,c⟩
theorem Ce{σ:St}{o:Out}{i:Nat}{R:Res}(h:Xe (σ.grow o).rs i=some R): Xe σ.rs i=some R\/(i=σ.rs.length/\o.r=some R):=by
 unfold St.grow at h;cases e:o.r with
 | none=>rw[e]at h;exact .inl h
 | some x =>
  rw[e]at h;simp only[XY]at h;exact(Cv h).imp id λ⟨a,b⟩=>⟨a,b⟩
theorem om{σ:St}{o:Out}(h:σ.fits o=true): (σ.grow o).lt o.s=true:=by
 unfold St.fits at h;have c:=(L6.1 h).1;refine Ke (λi a=>?_) (λi a=>?_) o.s c
 ·unfold St.grow;cases e:o.b<;>simp only[e,XY,Lq,Rc,Sl]at a ⊢<;>exact a
 ·unfold St.grow;cases e:o.r<;>simp only[e,XY,Lq,Rc,Sl]at a ⊢<;>exact a
theorem jd{σ:St}{o:Out}(h:σ.fits o=true){t:u6}{cs:List SV}(e:o.b=some (t,cs)): σ.ltL cs=true:=by
 unfold St.fits at h;have a:=(L6.1 h).2;rw[e]at a;exact a
section
variable {w0:World} {σ:St} {r:Env} {a:Act} {w w':World} {o:Out} {γ:Gh}
theorem JQ{i:Nat}{p:u6×List SV}(h:Xe σ.bs i=some p): (r.add' σ γ).b i=r.b i:=XV _ _ (Ry (XC h))
theorem Mm{i:Nat}(h:i<σ.rs.length): (r.add' σ γ).x i=r.x i:=XV _ _ (Ry h)
theorem JP{i:Nat}{R:Res}(h:Xe σ.rs i=some R): (r.add' σ γ).S i=r.S i:=XV _ _ (Ry (XC h))
theorem See.grow(h:See w0 σ r a w)(l:Below w.heap.size w w')(m:σ.fits o=true)(g:Made (r.add' σ γ) o γ w w'): See w0 (σ.grow o) (r.add' σ γ) a w':=by
 have d:=h.later l;refine⟨d.low,d.size,λk s n=>?_,λi t cs e=>?_,λi R e=>?_,λi e=>?_⟩
 ·have c:=d.ts k s n;exact⟨by rw[NP c.2];exact c.1,oW c.2⟩
 ·rcases Cd e with c|⟨rfl,c⟩
  ·obtain⟨f,j⟩:=d.bs i t cs c;rw[PB j,JQ c];exact⟨f,P2 j⟩
  ·have f:=(g.b t cs c).1;refine⟨?_,P2 (jd m c)⟩;rw[show(r.add' σ γ).b σ.bs.length=γ.b from Xp _ _ _];exact f
 ·rcases Ce e with c|⟨rfl,c⟩
  ·rw[Mm (XC c),JP c];exact d.rs i R c
  ·rw[show(r.add' σ γ).x σ.rs.length=γ.x from Xp _ _ _,show(r.add' σ γ).S σ.rs.length=γ.S from Xp _ _ _];exact⟨(g.r R c).1,λb p=>((g.r R c).2 b p).2⟩
 ·rcases Lx i σ.rs.length with c|c
  ·rw[Mm c];exact h.one i c
  ·have f:i=σ.rs.length:=by
    have:(σ.grow o).rs.length<=σ.rs.length+1:=by
     unfold St.grow;cases o.r<;>simp[XY]
    have q:i<(σ.grow o).rs.length:=e;omega
   subst f;rw[show(r.add' σ γ).x σ.rs.length=γ.x from Xp _ _ _];exact g.one
theorem Sep.grow(h:Sep w0 σ r)(n:See w0 σ r a w)(_hb:Below w.heap.size w w')(l:Made (r.add' σ γ) o γ w w'): Sep w0 (σ.grow o) (r.add' σ γ):=by
 have s:(r.add' σ γ).b σ.bs.length=γ.b:=Xp _ _ _;have t:(r.add' σ γ).S σ.rs.length=γ.S:=Xp _ _ _;have x:=n.low.size;have m:∀i p,Xe σ.bs i=some p->r.b i<w.heap.size:=λi p g=>(n.bs i p.1 p.2 g).1.lt
 refine⟨λi p g=>?_,λi j p q g u k=>?_,λi R g b e=>?_,λi j R v g u k b e f=>?_,λi j p R g u e=>?_⟩
 ·rcases Cd g with c|⟨rfl,c⟩
  ·rw[JQ c];exact h.own i p c
  ·rw[s];have:=(l.b p.1 p.2 c).2;omega
 ·rcases Cd g with c|⟨rfl,c⟩<;>rcases Cd u with d|⟨rfl,d⟩
  ·rw[JQ c,JQ d];exact h.inj i j p q c d k
  ·rw[JQ c,s];have:=(l.b q.1 q.2 d).2;have:=m i p c;omega
  ·rw[JQ d,s];have:=(l.b p.1 p.2 c).2;have:=m j q d;omega
  ·exact absurd rfl k
 ·rcases Ce g with c|⟨rfl,c⟩
  ·rw[JP c]at e;exact h.ownS i R c b e
  ·rw[t]at e;have:=((l.r R c).2 b e).1;omega
 ·rcases Ce g with c|⟨rfl,c⟩<;>rcases Ce u with d|⟨rfl,d⟩
  ·rw[JP c]at e;rw[JP d]at f;exact h.disj i j R v c d k b e f
  ·rw[JP c]at e;rw[t]at f
   have:=((l.r v d).2 b f).1;have:=(n.rs i R c).2 b e;omega
  ·rw[JP d]at f;rw[t]at e
   have:=((l.r R c).2 b e).1;have:=(n.rs j v d).2 b f;omega
  ·exact absurd rfl k
 ·rcases Cd g with c|⟨rfl,c⟩<;>rcases Ce u with d|⟨rfl,d⟩
  ·rw[JQ c,JP d]at e;exact h.apart i j p R c d e
  ·rw[JQ c,t]at e;have:=((l.r R d).2 _ e).1;have:=m i p c;omega
  ·rw[s,JP d]at e;have:=(l.b p.1 p.2 c).2;have:=(n.rs j R d).2 _ e;omega
  ·rw[s,t]at e;exact l.apart p R c d e
theorem See.push(h:See w0 σ r a w){d:Option Tmp}{s:SV}(g:∀k,d=some k->k<σ.n)(i:σ.lt s=true): See w0 (σ.push d s) r (a.put d (s.den r)) w:=by
 cases d with
 | none=>exact h
 | some d =>
  have c:d<a.tmps.size:=by rw[h.size];exact g d rfl
  refine⟨h.low,by simpa [Act.put,St.push]using h.size,λk u b=>?_,h.bs,h.rs,h.one⟩;simp only[St.push,YQ]at b;cases e:Nat.beq d k with
  | true =>
   have:d=k:=Le e;subst this;rw[e]at b;obtain rfl:=hW b;exact⟨by simp[Act.put,c],i⟩
  | false =>
   have f:d≠k:=Nat.ne_of_beq_eq_false e;rw[e]at b;obtain⟨j,l⟩:=h.ts k u b;refine⟨?_,l⟩;rw[<- j];show(a.tmps.setIfInBounds d _).getD k undef=a.tmps.getD k undef;simp[f]
end
open Go Go.RowKit
inductive TK where
 | struct (fs:List (Nat×Nat×Option Bool))
 | array (n e sz:Nat) (ag:Option Bool)
 | slice (e sz:Nat) (ag:Option Bool)
 | ptr (e:Nat)
 | str
 | int (k:IntKind)
 | bool
 | other
structure TI where
 size:Nat
 zero:List Value
 k:TK
def O5(P:u7)(t:u6): Nat:=match P.info? t with|some i=>i.size|none=>0
def agD:TypeDesc->Bool
 | .struct _=>true
 | .array _ _=>true
 | _=>false
def UE(P:u7)(t:u6): Option Bool:=match P.underlying t with|some d=>some (agD d)|none=>none
def TK.agg:TK->Bool
 | .struct _=>true
 | .array ..=>true
 | _=>false
def Ba(P:u7): TypeDesc->TK
 | .struct a=>.struct (a.toList.map λf=>(f.offset,O5 P f.type,UE P f.type))
 | .array n e=>.array n e (O5 P e) (UE P e)
 | .slice e=>.slice e (O5 P e) (UE P e)
 | .pointer e=>.ptr e
 | .string=>.str
 | .int k=>.int k
 | .bool=>.bool
 | _=>.other
def YH(P:u7)(t:u6): Option TI:=match P.info? t,P.underlying t with
 | some i,some d=>some ⟨i.size,match i.zero with|some z=>z.cells.toList|none=>[],Ba P d⟩
 | _,_=>none
def YF(P:u7)(tt:List (Nat×TI)): Prop:=∀t ti,YQ t tt=some ti->YH P t=some ti
theorem s9{P:u7}: ∀ {tt:List (Nat×TI)},tt.map (λp=>YH P p.1)=tt.map (λp=>some p.2)->YF P tt
 | [],_=>λ_ _ h=>by cases h
 | (j,x)::l,h=>λt ti a=>by
  simp only[T9,List.cons.injEq]at h;unfold YQ at a;cases e:Nat.beq j t with
  | true =>
   rw[e]at a;obtain rfl:=hW a;rw[<- Le e];exact h.1
  | false=>rw[e]at a;exact s9 h.2 t ti a
section
variable {P:Program} {t:TypeId} {ti:TI}
theorem Jy(h:YH P t=some ti): ∃i d,P.info? t=some i/\P.underlying t=some d/\ti.size=i.size/\ti.k=Ba P d/\(∀z,i.zero=some z->ti.zero=z.cells.toList)/\(i.zero=none->ti.zero=[]):=by
 unfold YH at h;split at h
 ·rename_i i d b c;obtain rfl:=hW h;refine⟨i,d,b,c,rfl,rfl,λz a=>by simp only[a],λa=>by simp only[a]⟩
 ·cases h
theorem Va{n:Nat}(h:O5 P t=n)(a:n≠0)(w:y9): (sizeOf t).run P w=.ok n w:=by
 unfold O5 at h;cases e:P.info? t with
 | none=>rw[e]at h;exact absurd h.symm a
 | some i=>rw[e]at h;simp only at h;subst h;simp[sizeOf,typeInfo,e]
theorem CK(h:YH P t=some ti)(w:y9): (sizeOf t).run P w=.ok ti.size w:=by
 obtain⟨i,d,a,_,b,_⟩:=Jy h;simp[sizeOf,typeInfo,a,b]
theorem Ya{d:TypeDesc}(h:P.underlying t=some d)(w:y9): (underlying t).run P w=.ok d w:=by simp[underlying,h]
theorem UF{b:Bool}(h:UE P t=some b)(w:y9): (isAgg t).run P w=.ok b w:=by
 unfold UE at h;cases e:P.underlying t with
 | none=>rw[e]at h;cases h
 | some d =>
  rw[e]at h;obtain rfl:=hW h;unfold isAgg;rw[p0,Ya e];cases d<;>rfl
theorem OU(h:YH P t=some ti)(w:y9): (isAgg t).run P w=.ok ti.k.agg w:=by
 obtain⟨i,d,_,a,_,b,_⟩:=Jy h;refine UF ?_ w;unfold UE;rw[a,b]
 cases d<;>rfl
theorem FR(h:YH P t=some ti)(a:ti.zero≠[])(w:y9): ∃z,(zeroValue t).run P w=.ok z w/\z.cells.toList=ti.zero:=by
 obtain⟨i,d,b,_,_,_,c,f⟩:=Jy h;cases e:i.zero with
 | none=>exact absurd (f e) a
 | some z=>exact⟨z,by simp[zeroValue,typeInfo,b,e],(c z e).symm⟩
theorem K0{e b:Nat}(h:YH P t=some ti)(a:ti.k=.slice e b ag): P.underlying t=some (.slice e)/\O5 P e=b/\UE P e=ag:=by
 obtain⟨i,d,_,c,_,f,_⟩:=Jy h;rw[f]at a;cases d<;>simp[Ba]at a
 obtain⟨rfl,rfl,rfl⟩:=a;exact⟨c,rfl,rfl⟩
theorem GZ{n e b:Nat}(h:YH P t=some ti)(a:ti.k=.array n e b ag): P.underlying t=some (.array n e)/\O5 P e=b/\UE P e=ag:=by
 obtain⟨i,d,_,c,_,f,_⟩:=Jy h;rw[f]at a;cases d<;>simp[Ba]at a
 obtain⟨rfl,rfl,rfl,rfl⟩:=a;exact⟨c,rfl,rfl⟩
theorem B3{b:List (Nat×Nat×Option Bool)}(h:YH P t=some ti)(a:ti.k=.struct b): ∃fd:Array Field,P.underlying t=some (.struct fd)/\b=fd.toList.map λf=>(f.offset,O5 P f.type,UE P f.type):=by
 obtain⟨i,d,_,c,_,e,_⟩:=Jy h;rw[e]at a;cases d<;>simp[Ba]at a
 exact⟨_,c,a.symm⟩
theorem mj{k:IntKind}(h:YH P t=some ti)(a:ti.k=.int k): P.underlying t=some (.int k):=by
 obtain⟨i,d,_,b,_,c,_⟩:=Jy h;rw[c]at a;cases d<;>simp[Ba]at a
 subst a;exact b
theorem mn(h:YH P t=some ti)(a:ti.k=.str): P.underlying t=some .string:=by
 obtain⟨i,d,_,b,_,c,_⟩:=Jy h;rw[c]at a;cases d<;>simp[Ba]at a
 exact b
theorem ml{e:Nat}(h:YH P t=some ti)(a:ti.k=.ptr e): P.underlying t=some (.pointer e):=by
 obtain⟨i,d,_,b,_,c,_⟩:=Jy h;rw[c]at a;cases d<;>simp[Ba]at a
 subst a;exact b
end
def SV.cells:SV->List SV
 | .val y=>y.cells.toList.map SV.val
 | .agg l=>l
 | z=>[z]
theorem Mc{v:z0}(h:v.oneCell'=true): v.cells=#[v]:=by cases v<;>first|rfl|(simp[Value.oneCell']at h)
def SV.okCell:SV->Bool
 | .val y=>y.oneCell'
 | .agg _=>false
 | .tup _=>false
 | _=>true
section
variable {w0:World} {σ:St} {r:Env} {a:Act} {w:World}
theorem jX(h:See w0 σ r a w){i:Nat}(b:σ.lt (.han i)=true): (r.x i).oneCell'=true:=h.one i (Q1 b)
theorem CY(h:See w0 σ r a w){s:SV}(b:σ.lt s=true): QJ r s.cells=(s.den r).cells.toList:=by
 cases s with
 | val y=>simp[SV.cells,SV.den,DR]
 | agg l=>simp[SV.cells,SV.den,Value.cells]
 | han i=>simp[SV.cells,QJ,SV.den,Mc (jX h b)]
 | _=>simp[SV.cells,QJ,SV.den,Value.cells]
theorem F5{s:SV}(a:σ.lt s=true): σ.ltL s.cells=true:=by
 cases s with
 | val y=>exact RM _ _ _
 | agg l=>exact a
 | _=>exact L6.2 ⟨a,rfl⟩
theorem WL(h:See w0 σ r a w){s:SV}(c:σ.lt s=true)(b:s.okCell=true): (s.den r).oneCell'=true:=by
 cases s with
 | val y=>exact b
 | han i=>exact jX h c
 | agg l=>cases b
 | tup l=>cases b
 | _=>rfl
end
def spl{α:Type}: List α->Nat->List α->List α
 | [],_,_=>[]
 | x::l,_,[]=>x::l
 | _::l,0,v::vs=>v::spl l 0 vs
 | x::l,n+1,v::vs=>x::spl l n (v::vs)
theorem Kh{α:Type}(l:List α)(n:Nat): spl l n []=l:=by cases l<;>rfl
theorem Vs{α:Type}: ∀(l:List α) (n:Nat) (a:List α),(spl l n a).length=l.length
 | [],_,_=>rfl
 | _::_,_,[]=>by rw[Kh]
 | _::l,0,v::a=>Ly Nat.succ (Vs l 0 a)
 | _::l,n+1,v::a=>Ly Nat.succ (Vs l n (v::a))
theorem CE{α:Type}: ∀(l:List α) (n:Nat) (v:α) (a:List α),spl l n (v::a)=spl (l.set n v) (n+1) a
 | [],_,_,_=>rfl
 | x::l,0,v,[]=>by simp[spl,Kh]
 | x::l,0,v,u::a=>rfl
 | x::l,n+1,v,[]=>by
  rw[Kh];show x::spl l n [v]=x::l.set n v;rw[CE l n v [],Kh]
 | x::l,n+1,v,u::a=>Ly (x::·) (CE l n v (u::a))
theorem FN{α β:Type}(f:α->β): ∀(l:List α) (n:Nat) (a:List α),(spl l n a).map f=spl (l.map f) n (a.map f)
 | [],_,_=>rfl
 | _::_,_,[]=>by rw[Kh];exact(Kh _ _).symm
 | _::l,0,v::a=>Ly (f v::·) (FN f l 0 a)
 | x::l,n+1,v::a=>Ly (f x::·) (FN f l n (v::a))
theorem FI{β ξ:Nat->Bool}: ∀ {l:List SV} {n:Nat} {a:List SV},GA β ξ l=true->GA β ξ a=true->GA β ξ (spl l n a)=true
 | [],_,_,_,_=>rfl
 | _::_,_,[],h,_=>by rw[Kh];exact h
 | _::l,0,v::a,h,k=>L6.2 ⟨(L6.1 k).1,FI (l:=l) (n:=0) (L6.1 h).2 (L6.1 k).2⟩
 | x::l,n+1,v::a,h,k=>L6.2 ⟨(L6.1 h).1,FI (l:=l) (n:=n) (L6.1 h).2 k⟩
theorem SC:∀(a:a8) (k:Nat) (l:a8),ql l.toArray k a=(spl l k a).toArray
 | [],k,l=>by rw[Kh];rfl
 | v::a,k,l=>by
  show ql (l.toArray.setIfInBounds k v) (k+1) a=_;rw[CE,Ru,SC a (k+1)]
theorem PO:∀(a:a8) (k o:Nat) (l:a8),(a.zipIdx k).foldl (λcs (x:z0×Nat)=>cs.setIfInBounds (o+x.2) x.1) l.toArray=(spl l (o+k) a).toArray
 | [],k,o,l=>by rw[Kh];rfl
 | v::a,k,o,l=>by
  rw[List.zipIdx_cons,List.foldl_cons,CE,Ru,PO a (k+1) o];rfl
def MF(place:Nat->Option (Nat×Nat)): List SV->List (Nat×SV)->Option (List SV)
 | cells,[]=>some cells
 | cells,(i,s)::l=>match place i with
  | none=>none
  | some (off,size)=>bif Nat.beq s.cells.length size&&Nat.ble (off+s.cells.length) cells.length then MF place (spl cells off s.cells) l else none
section
variable {w0:World} {σ:St} {r:Env} {a:Act} {w:World}
theorem A9(h:See w0 σ r a w)(place:Nat->Option (Nat×Nat)): ∀(c:List (Nat×SV)) (cells l:List SV),(∀p,p∈c->σ.lt p.2=true)->σ.ltL cells=true->MF place cells c=some l ->
  Instr.fill place (QJ r cells).toArray (c.map λp=>(p.1,p.2.den r))=some (QJ r l).toArray
 | [],cells,l,_,_,e=>by
  obtain rfl:=hW e;rfl
 | (i,s)::c,cells,l,j,n,e=>by
  have k:σ.lt s=true:=j (i,s) x6;simp only[MF]at e;simp only[T9,Instr.fill];cases m:place i with
  | none=>rw[m]at e;cases e
  | some q =>
   obtain⟨off,size⟩:=q;rw[m]at e;dsimp only at e ⊢;cases d:Nat.beq s.cells.length size&&Nat.ble (off+s.cells.length) cells.length with
   | false=>rw[d]at e;cases e
   | true =>
    rw[d]at e;obtain⟨o,t⟩:=L6.1 d;have u:=Le o;have A:=L3 t;have b:=CY h k;have v:(s.den r).cells.size=s.cells.length:=by rw[<- S7,<- b,J6]
    have y:¬((s.den r).cells.size≠size||off+(s.den r).cells.size>(QJ r cells).toArray.size)=true:=by
     simp[v,u,J6];omega
    rw[if_neg y];have B:(s.den r).cells.zipIdx.foldl (λcs x=>cs.setIfInBounds (off+x.2) x.1) (QJ r cells).toArray=(QJ r (spl cells off s.cells)).toArray:=by
     have f:=PO (s.den r).cells.toList 0 off (QJ r cells);rw[Sw,<- b,XE r s.cells,XE r cells,<- FN]at f;simp only[<- XE]at f;rw[<- f,b,<- Array.toList_zipIdx,<- Array.foldl_toList]
    have z:=A9 h place c (spl cells off s.cells) l (λp g=>j p (by simp[g])) (FI n (F5 k)) e;rw[<- z];congr 1
end
def wS(σ:St): b8->Option SV
 | .tmp k=>YQ k σ.ts
 | .const v=>some (.val v)
 | .global g=>some (.val (.pointer (some ⟨g,0,none⟩)))
 | .func f=>some (.clo (.func f) [] [])
def K3(σ:St)(x:b8)(K:SV->Prop): Prop:=match wS σ x with|some s=>K s|none=>False
def gJ(σ:St): List b8->(List SV->Prop)->Prop
 | [],K=>K []
 | x::l,K=>K3 σ x λs=>gJ σ l λm=>K (s::m)
def zW(σ:St): List (Nat×b8)->(List (Nat×SV)->Prop)->Prop
 | [],K=>K []
 | (i,x)::l,K=>K3 σ x λs=>zW σ l λm=>K ((i,s)::m)
def Fj(tt:List (Nat×TI))(t:u6)(K:TI->Prop): Prop:=match YQ t tt with|some ti=>K ti|none=>False
def ZV{α:Type}(o:Option α)(K:α->Prop): Prop:=match o with|some y=>K y|none=>False
def pm{α:Type}: List α->Bool
 | []=>false
 | _::_=>true
def qp(z:a8): Nat->a8
 | 0=>[]
 | n+1=>z++qp z n
section
variable {w0:World} {σ:St} {r:Env} {a:Act} {w:World}
theorem Qy(h:See w0 σ r a w){x:b8}{s:SV}(e:wS σ x=some s): a.eval x=s.den r/\σ.lt s=true:=by
 cases x with
 | tmp k=>exact h.ts k s e
 | const v=>obtain rfl:=hW e;exact⟨rfl,rfl⟩
 | global g=>obtain rfl:=hW e;exact⟨rfl,rfl⟩
 | func f=>obtain rfl:=hW e;exact⟨rfl,rfl⟩
theorem QF{x:b8}{K:SV->Prop}(e:K3 σ x K): ∃s,wS σ x=some s/\K s:=by
 unfold K3 at e;split at e
 ·exact⟨_,by assumption,e⟩
 ·exact e.elim
theorem Z5(w0:y9):∀ {l:List b8} {K:List SV->Prop},gJ σ l K->∃m,K m/\∀r a w,See w0 σ r a w->l.map a.eval=QJ r m/\σ.ltL m=true
 | [],K,e=>⟨[],e,λ_ _ _ _=>⟨rfl,rfl⟩⟩
 | x::l,K,e=>by
  obtain⟨s,b,c⟩:=QF e;obtain⟨m,d,f⟩:=Z5 _ (l:=l) c;refine⟨s::m,d,λr a w h=>?_⟩;obtain⟨g,i⟩:=f r a w h;obtain⟨j,k⟩:=Qy h b;exact⟨by simp[QJ,g,j],L6.2 ⟨k,i⟩⟩
theorem Hk:∀ {l:List (Nat×b8)} {K:List (Nat×SV)->Prop},zW σ l K->∃m,K m/\∀r a w,See w0 σ r a w->l.map (λp=>(p.1,a.eval p.2))=m.map (λp=>(p.1,p.2.den r))/\∀p,p∈m->σ.lt p.2=true
 | [],K,e=>⟨[],e,λ_ _ _ _=>⟨rfl,λ_ h=>by cases h⟩⟩
 | (i,x)::l,K,e=>by
  obtain⟨s,c,d⟩:=QF e;obtain⟨m,f,g⟩:=Hk (l:=l) d;refine⟨(i,s)::m,f,λr a w h=>?_⟩;obtain⟨j,k⟩:=g r a w h;obtain⟨n,o⟩:=Qy h c;refine⟨by simp[j,n],λp b=>?_⟩;rcases Ll.1 b with rfl|b
  ·exact o
  ·exact k p b
theorem Xz{tt:List (Nat×TI)}{P:u7}(a:YF P tt){t:u6}{K:TI->Prop}(e:Fj tt t K): ∃ti,YH P t=some ti/\K ti:=by
 unfold Fj at e;split at e
 ·exact⟨_,a t _ (by assumption),e⟩
 ·exact e.elim
theorem QH{α:Type}{o:Option α}{K:α->Prop}(e:ZV o K): ∃y,o=some y/\K y:=by
 unfold ZV at e;split at e
 ·exact⟨_,rfl,e⟩
 ·exact e.elim
theorem Ys{b:Bool}{p:Prop}(e:bif b then p else False): b=true/\p:=by cases b<;>simp_all
end
def gQ(P:u7)(w0:y9)(o:Oper)(σ:St)(K:Out->Prop): Prop :=
 ∀r a w,See w0 σ r a w->∀(Q:Exit->Act->y9->Prop) (next:Act->y9->Prop),
  (∀out γ w',K out->Below w.heap.size w w'->Made (r.add' σ γ) out γ w w'->next (a.put o.dst (out.s.den (r.add' σ γ))) w')->o.wp P a w next Q
def UA(P:u7)(w0:y9)(o:Oper)(σ:St)(K:Out->Prop): Prop:=∃out,K out/\gQ P w0 o σ λu=>u=out
section
variable {P:Program} {w0:World} {o:Oper} {σ:St} {K:Out->Prop}
theorem oY(r:Env)(s:SV)(w:y9): Made r ⟨s,none,none⟩ Gh.no w w :=
 ⟨rfl,(λ_ _ h=>nomatch h),(λ_ h=>nomatch h),(λ_ _ h=>nomatch h)⟩
theorem yX(s:SV)(h:K ⟨s,none,none⟩)(c:σ.lt s=true)(d:∀r a w,See w0 σ r a w->(execOp a.eval o).run P w=.ok (.value (s.den r)) w): UA P w0 o σ K:=⟨_,h,λr a w e Q next f=>by
 have b:=f _ Gh.no w rfl (l3 _ _) (oY _ _ _);rw[NP c]at b;unfold Oper.wp;rw[d r a w e];exact b⟩
theorem la(s:SV)(t:u6)(cs:List SV)(h:K ⟨s,some (t,cs),none⟩)(b:σ.ltL cs=true)(c:∀r a w,See w0 σ r a w->(execOp a.eval o).run P w=.ok (.value (s.den (r.add' σ ⟨w.heap.size,.bool false,λ_=>False⟩))) (w.alloc (.cells (QJ r cs).toArray t))): UA P w0 o σ K:=⟨_,h,λr a w d Q next f=>by
 unfold Oper.wp;rw[c r a w d];refine f _ ⟨w.heap.size,.bool false,λ_=>False⟩ _ rfl (b1 w _) ⟨rfl,λi g e=>?_,(λ_ h=>nomatch h),(λ_ _ _ h=>nomatch h)⟩;simp only[Option.some.injEq,Prod.mk.injEq]at e;obtain⟨rfl,rfl⟩:=e;rw[PB b];exact⟨Bx.new w _ _,L8 _⟩⟩
end
def VQ{α:Type}: List α->Nat->Option α
 | [],_=>none
 | x::_,0=>some x
 | _::l,n+1=>VQ l n
theorem FH{α:Type}: ∀(l:List α) (n:Nat),VQ l n=l[n]?
 | [],_=>by simp[VQ]
 | x::l,0=>rfl
 | x::l,n+1=>by simpa [VQ]using FH l n
def Mb(n:Nat): Bool:=!Nat.beq n 0
theorem Gi{n:Nat}(h:Mb n=true): n≠0:=by
 rintro rfl;cases h
theorem FG{α:Type}{l:List α}(h:pm l=true): l≠[]:=by
 rintro rfl;cases h
theorem GO{r:Env}{l:List SV}{n:Nat}{s:SV}(h:VQ l n=some s): (QJ r l)[n]?=some (s.den r):=by
 rw[XE,List.getElem?_map,<- FH,h];rfl
theorem Fs(r:Env)(l:List SV)(o n:Nat): QJ r ((l.drop o).take n)=((QJ r l).drop o).take n:=by simp[XE,List.map_take,List.map_drop]
section
variable {P:Program} {w:World} {g o:Nat} {t bt:TypeId} {cs:List Value} {ti:TI}
theorem If(b:YH P t=some ti)(e:ti.k.agg=true)(f:Bx w g bt cs.toArray)(i:o+ti.size<=cs.length):
  (Instr.loadAt t (.pointer (some ⟨g,o,none⟩))).run P w=.ok (.agg ((cs.drop o).take ti.size).toArray) w:=by
 have c:((cs.drop o).take ti.size).length=ti.size:=by rw[Lk,Lf];omega
 have d:=run_loadCells_list (P:=P) w ⟨g,o,none⟩ ((cs.drop o).take ti.size) (λj v a=>by
  rw[Yc,f.cel];have h:j<ti.size:=by rw[<- c];exact(sT.1 a).1
  rw[o4 h,List.getElem?_drop]at a;simpa using a)
 rw[c]at d;simp[Instr.loadAt,Instr.sureAddr,loadVar,OU b,e,CK b,d]
theorem Ig{v:z0}(a:YH P t=some ti)(b:ti.k.agg=false)(c:Bx w g bt cs.toArray)(d:cs[o]?=some v):
  (Instr.loadAt t (.pointer (some ⟨g,o,none⟩))).run P w=.ok v w:=by
 have e:w.cell? ⟨g,o,none⟩=some v:=by rw[c.cel];simpa using d
 simp[Instr.loadAt,Instr.sureAddr,loadVar,OU a,b,e]
theorem JY:∀(a:a8) (k:Nat) (w:y9) (g:Nat),(Dm w g k a).heap.size=w.heap.size
 | [],_,_,_=>rfl
 | v::a,k,w,g=>by
  show(Dm (w.setCell ⟨g,k,none⟩ v) g (k+1) a).heap.size=_;rw[JY a];simp[World.setCell]
theorem Be:∀(a:a8) (i:Nat) (w:y9) (cs:b7),Bx w g bt cs->o+i+a.length<=cs.size->(∀v,v∈a->v.oneCell'=true) ->
  (storeCells ⟨g,o,none⟩ a i).run P w=.ok () (Dm w g (o+i) a)
 | [],i,w,cs,_,_,_=>rfl
 | v::a,i,w,cs,b,d,e=>by
  have c:o+i<cs.size:=by simp at d;omega
  have f:w.cell? ⟨g,o+i,none⟩=some cs[o+i]:=by
   rw[b.cel];exact Array.getElem?_eq_getElem c
  have h:=Be a (i+1) (w.setCell ⟨g,o+i,none⟩ v) (cs.setIfInBounds (o+i) v) (b.set (o+i) v) (by simp at d ⊢;omega) (λu j=>e u (by simp[j]));unfold storeCells;rw[p0,Yc,run_store _ _ _ _ _ (e v x6),f];simp only[b.free,Tp,if_false,p7];rw[h];rfl
theorem GW(P:u7)(t:u6)(o:Nat)(v:z0)(c:YH P t=some ti)(d:Bx w g bt cs.toArray)(a:v.cells.size=ti.size)(f:o+ti.size<=cs.length)(e:∀u,u∈v.cells.toList->u.oneCell'=true):
  (Instr.storeAt t (.pointer (some ⟨g,o,none⟩)) v).run P w=.ok () (Dm w g o v.cells.toList):=by
 have b:=Be (P:=P) (g:=g) (bt:=bt) (o:=o) v.cells.toList 0 w cs.toArray d (by simp[a];omega) e;simp[Instr.storeAt,Instr.sureAddr,storeVar,CK c,a]at b ⊢;exact b
theorem jh{fd:Array Field}{k off a:Nat}(h:VQ (fd.toList.map λf=>(f.offset,O5 P f.type,UE P f.type)) k=some (off,a,ag)): ∃f,fd[k]?=some f/\f.offset=off/\O5 P f.type=a/\UE P f.type=ag:=by
 rw[FH,List.getElem?_map]at h;cases e:fd.toList[k]? with
 | none=>rw[e]at h;cases h
 | some f =>
  rw[e]at h;simp only[Tj,Option.some.injEq,Prod.mk.injEq]at h;exact⟨f,y8 e,h.1,h.2.1,h.2.2⟩
theorem A8{a:List (Nat×Nat×Option Bool)}{k off b:Nat}(d:YH P t=some ti)(e:ti.k=.struct a)(h:VQ a k=some (off,b,ag))(c:b≠0):
  (Instr.fieldAt t (.pointer (some ⟨g,o,none⟩)) k).run P w=.ok (.pointer (some ⟨g,o+off,none⟩)) w:=by
 obtain⟨fd,i,rfl⟩:=B3 d e;obtain⟨f,j,rfl,l,_⟩:=jh h;simp[Instr.fieldAt,Ya i,j,Instr.sureAddr,fieldPlace,Va l c,c,Yc]
theorem RU{e a:Nat}{l:a8}(c:UE P e=some true)(d:O5 P e=a)(b:a≠0)(off:Nat): (part e l.toArray off).run P w=.ok (.agg ((l.drop off).take a).toArray) w:=by
 simp[part,UF c,Va d b]
theorem RV{e:Nat}{l:a8}{v:z0}(a:UE P e=some false){off:Nat}(b:l[off]?=some v): (part e l.toArray off).run P w=.ok v w:=by
 simp[part,UF a,b]
theorem eY{b:List (Nat×Nat×Option Bool)}{k off a:Nat}{l:a8}(c:YH P t=some ti)(d:ti.k=.struct b)(h:VQ b k=some (off,a,some true))(e:a≠0):
  (Instr.field t (.agg l.toArray) k).run P w=.ok (.agg ((l.drop off).take a).toArray) w:=by
 obtain⟨fd,g,rfl⟩:=B3 c d;obtain⟨f,i,rfl,j,m⟩:=jh h;simp[Instr.field,Ya g,i,asAgg,RU m j e]
theorem eZ{a:List (Nat×Nat×Option Bool)}{k off b:Nat}{l:a8}{v:z0}(c:YH P t=some ti)(d:ti.k=.struct a)(h:VQ a k=some (off,b,some false))(e:l[off]?=some v):
  (Instr.field t (.agg l.toArray) k).run P w=.ok v w:=by
 obtain⟨fd,g,rfl⟩:=B3 c d;obtain⟨f,i,rfl,m,j⟩:=jh h;simp[Instr.field,Ya g,i,asAgg,RV j e]
theorem fo{n e a m:Nat}{k:IntKind}(b:YH P t=some ti)(c:ti.k=.array n e a ag)(d:m<n)(f:a≠0):
  (Instr.indexAt t (.pointer (some ⟨g,o,none⟩)) (.int k (Int.ofNat m))).run P w=.ok (.pointer (some ⟨g,o+m*a,none⟩)) w:=by
 obtain⟨h,i,_⟩:=GZ b c;simp[Instr.indexAt,asIntOf,Ya h,Instr.sureAddr,d,Va i f,Yc]
theorem MO{n c e a m:Nat}{k:IntKind}(b:YH P t=some ti)(d:ti.k=.slice e a ag)(f:m<n)(h:a≠0):
  (Instr.indexAt t (.slice (some ⟨g,o,none⟩) n c) (.int k (Int.ofNat m))).run P w=.ok (.pointer (some ⟨g,o+m*a,none⟩)) w:=by
 obtain⟨i,j,_⟩:=K0 b d;simp[Instr.indexAt,asIntOf,Ya i,f,Va j h,Yc]
theorem fm{n e a m:Nat}{k:IntKind}{l:a8}(d:YH P t=some ti)(f:ti.k=.array n e a (some true))(g:m<n)(b:a≠0):
  (Instr.index t (.agg l.toArray) (.int k (Int.ofNat m))).run P w=.ok (.agg ((l.drop (m*a)).take a).toArray) w:=by
 obtain⟨h,c,i⟩:=GZ d f;simp[Instr.index,asIntOf,Ya h,g,Va c b,RU i c b]
theorem fq{n e a m:Nat}{k:IntKind}{l:a8}{v:z0}(b:YH P t=some ti)(c:ti.k=.array n e a (some false))(d:m<n)(f:a≠0)(g:l[m*a]?=some v):
  (Instr.index t (.agg l.toArray) (.int k (Int.ofNat m))).run P w=.ok v w:=by
 obtain⟨h,i,j⟩:=GZ b c;simp[Instr.index,asIntOf,Ya h,d,Va i f,RV j g]
theorem Mp{m y:Nat}{k:IntKind}{c:BoundsCode}(h:m<=y): (Instr.sliceBound (.int k (m:Int)) y c).run P w=.ok m w:=by
 have a:(m:Int)<=(y:Int):=x3;simp[Instr.sliceBound,asIntOf,a]
def MV(x:Option z0)(m:Nat): Prop:=(x=none/\m=0)\/∃k,x=some (.int k (Int.ofNat m))
def C6(x:Option z0)(n m:Nat): Prop:=(x=none/\m=n)\/∃k,x=some (.int k (Int.ofNat m))
theorem G5{isS:Bool}{len cap l h:Nat}{lo hi:Option z0}(a:MV lo l)(b:C6 hi len h)(c:l<=h)(d:h<=cap): (Instr.sliceBounds isS len cap lo hi none).run P w=.ok (l,h,cap) w:=by
 rcases a with⟨rfl,rfl⟩|⟨k,rfl⟩<;>rcases b with⟨rfl,rfl⟩|⟨e,rfl⟩ <;>
  simp[Instr.sliceBounds,Mp c,Mp d]
theorem gc{n e a l h:Nat}{c d:Option z0}(b:YH P t=some ti)(f:ti.k=.array n e a ag)(i:a≠0)(j:MV c l)(m:C6 d n h)(p:l<=h)(q:h<=n):
  (Instr.sliceAt t (.pointer (some ⟨g,o,none⟩)) c d none).run P w=.ok (.slice (some ⟨g,if n=l then o else o+l*a,none⟩) (h-l) (n-l)) w:=by
 obtain⟨r,s,_⟩:=GZ b f;simp[Instr.sliceAt,Ya r,Instr.sureAddr,G5 j m p q,Va s i];split<;>simp_all [Yc]
theorem gd{n e f a l h:Nat}{i:TI}{j m:Option z0}(b:YH P t=some ti)(p:ti.k=.ptr f)(c:YH P f=some i)(d:i.k=.array n e a ag)(q:a≠0)(r:MV j l)(s:C6 m n h)(u:l<=h)(v:h<=n):
  (Instr.sliceAt t (.pointer (some ⟨g,o,none⟩)) j m none).run P w=.ok (.slice (some ⟨g,if n=l then o else o+l*a,none⟩) (h-l) (n-l)) w:=by
 have x:=ml b p;obtain⟨y,z,_⟩:=GZ c d;simp[Instr.sliceAt,Instr.slice,Ya x,Ya y,asAddr,G5 r s u v,Va z q];split<;>simp_all [Yc]
theorem J0(P:u7)(w:y9)(g o n c l h:Nat)(lo hi:Option z0){e a:Nat}(b:YH P t=some ti)(d:ti.k=.slice e a ag)(f:a≠0)(i:MV lo l)(j:C6 hi n h)(m:l<=h)(p:h<=c):
  (Instr.sliceAt t (.slice (some ⟨g,o,none⟩) n c) lo hi none).run P w=.ok (.slice (some ⟨g,if c=l then o else o+l*a,none⟩) (h-l) (c-l)) w:=by
 obtain⟨q,r,_⟩:=K0 b d;simp[Instr.sliceAt,Instr.slice,Ya q,G5 i j m p,Va r f];split<;>simp_all [Yc]
theorem eg(a:YH P t=some ti)(b:ti.zero≠[]): (Instr.alloc t true (.tuple #[])).run P w=.ok (.pointer (some ⟨w.heap.size,0,none⟩)) (w.alloc (.cells ti.zero.toArray t)):=by
 obtain⟨z,c,d⟩:=FR a b w;have e:z.cells=ti.zero.toArray:=by rw[<- d]
 simp[Instr.alloc,c,newVar,newRow,e]
theorem nE(v:z0): (Instr.box t v).run P w=.ok (.pointer (some ⟨w.heap.size,0,none⟩)) (w.alloc (.cells v.cells t)):=by
 simp[Instr.box,newVar,newRow]
end
def one(s:SV): Out:=⟨s,none,none⟩
def lit(b:Bool): Out:=⟨.val (.bool b),none,none⟩
def uq(op:BinOp)(k:IntKind)(a b:Int)(K:Out->Prop): Prop:=match op with
 | .add=>K (one (.val (.int k (k.wrap (a+b)))))
 | .sub=>K (one (.val (.int k (k.wrap (a-b)))))
 | .mul=>K (one (.val (.int k (k.wrap (a*b)))))
 | .eql=>K (lit (a==b))
 | .neq=>K (lit (a != b))
 | .lss=>K (lit (decide (a<b)))
 | .leq=>K (lit (decide (a<=b)))
 | .gtr=>K (lit (decide (a>b)))
 | .geq=>K (lit (decide (a>=b)))
 | _=>False
def bM(k a:IntKind): Bool:=match k,a with
 | .i8,.i8=>true | .i16,.i16=>true | .i32,.i32=>true | .i64,.i64=>true
 | .u8,.u8=>true | .u16,.u16=>true | .u32,.u32=>true | .u64,.u64=>true
 | _,_=>false
theorem Ib{k a:IntKind}(h:bM k a=true): k=a:=by cases k<;>cases a<;>first|rfl|(cases h)
def pg(op:BinOp)(K:Out->Prop): Prop:=match op with
 | .eql=>K (lit false)
 | .neq=>K (lit true)
 | _=>False
def tx(tt:List (Nat×TI))(op:BinOp)(t:u6)(x y:SV)(K:Out->Prop): Prop:=match x,y with
 | .val (.int k a),.val (.int c b)=>bif bM k c then uq op k a b K else False
 | .ptr _ _,.val (.pointer none)=>Fj tt t λti=>match ti.k with | .ptr _=>pg op K|_=>False
 | .sli _ _ _ _,.val (.slice none _ _)=>Fj tt t λti=>match ti.k with | .slice _ _ _=>pg op K|_=>False
 | _,_=>False
def unS(op:UnOp)(x:SV)(K:Out->Prop): Prop:=match op,x with
 | .not,.val (.bool b)=>K (lit (!b))
 | .neg,.val (.int k n)=>K (one (.val (.int k (k.wrap (0-n)))))
 | _,_=>False
def bT(s:SV)(K:List SV->Prop): Prop:=match s with
 | .agg l=>K l
 | .val (.agg cs)=>K (cs.toList.map SV.val)
 | _=>False
def mE(s:SV)(K:List SV->Prop): Prop:=match s with
 | .tup l=>K l
 | .val (.tuple cs)=>K (cs.toList.map SV.val)
 | _=>False
def fD(s:SV)(K:Nat->Prop): Prop:=match s with
 | .val (.int _ (.ofNat m))=>K m
 | _=>False
def uF(σ:St)(x:Option b8)(K:Nat->Prop): Prop:=match x with
 | none=>K 0
 | some x=>K3 σ x λs=>fD s K
def bI(σ:St)(x:Option b8)(n:Nat)(K:Nat->Prop): Prop:=match x with
 | none=>K n
 | some x=>K3 σ x λs=>fD s K
def cX(l:List SV)(off a:Nat)(ag:Option Bool)(K:Out->Prop): Prop:=match ag with
 | some true=>bif Mb a then K (one (.agg ((l.drop off).take a)))else False
 | some false=>ZV (VQ l off) λc=>K (one c)
 | none=>False
def wb(b o _n c l h a:Nat)(K:Out->Prop): Prop:=bif Mb a&&Nat.ble l h&&Nat.ble h c then K (one (.sli b (bif Nat.beq c l then o else o+l*a) (h-l) (c-l)))else False
def xl(tt:List (Nat×TI))(t:u6)(K:Nat->Nat->Prop): Prop:=Fj tt t λti=>match ti.k with
 | .array n _ a _=>K n a
 | .ptr e=>Fj tt e λb=>match b.k with
  | .array n _ a _=>K n a
  | _=>False
 | _=>False
def yg(tt:List (Nat×TI))(t:u6)(x:SV)(K:Out->Prop): Prop:=Fj tt t λti=>match ti.k with
 | .str=>(match x with
  | .val (.string s)=>K (one (.val (.int .i64 s.size)))
  | _=>False)
 | .slice _ _ _=>(match x with
  | .val (.slice _ n _)=>K (one (.val (.int .i64 n)))
  | .sli _ _ n _=>K (one (.val (.int .i64 n)))
  | _=>False)
 | _=>False
def vh:Option (Nat×Nat×Option Bool)->Option (Nat×Nat)
 | some q=>some (q.1,q.2.1)
 | none=>none
def yC(tt:List (Nat×TI))(σ:St)(o:Op)(K:Out->Prop): Prop:=match o with
 | .move x=>K3 σ x λs=>K (one s)
 | .assign x=>K3 σ x λs=>K (one s)
 | .alloc e=>Fj tt e λti=>bif pm ti.zero then K ⟨.ptr σ.bs.length 0,some (e,ti.zero.map SV.val),none⟩else False
 | .box e x=>K3 σ x λs=>K ⟨.ptr σ.bs.length 0,some (e,s.cells),none⟩
 | .build t g=>zW σ g.toList λg=>Fj tt t λti=>bif pm ti.zero then(match ti.k with
  | .struct r=>bif r.all (λq=>Mb q.2.1)then ZV (MF (λi=>vh (VQ r i)) (ti.zero.map SV.val) g) λl=>K (one (.agg l))else False
  | .array _ _ a _=>bif Mb a then ZV (MF (λi=>some (i*a,a)) (ti.zero.map SV.val) g) λl=>K (one (.agg l))else False
  | _=>False)else False
 | .buildSlice t n g=>zW σ g.toList λg=>Fj tt t λti=>match ti.k with
  | .slice e a _=>Fj tt e λw=>bif pm w.zero&&Nat.beq w.size a&&Nat.beq w.zero.length a&&Nat.ble (n*a) 16777216 then
    ZV (MF (λi=>some (i*a,a)) ((qp w.zero n).map SV.val) g) λl=>K ⟨.sli σ.bs.length 0 n n,some (e,l),none⟩else False
  | _=>False
 | .load t x=>K3 σ x λs=>match s with
  | .ptr b o=>ZV (Xe σ.bs b) λp=>Fj tt t λti=>match ti.k.agg with
   | true=>bif Nat.ble (o+ti.size) p.2.length then K (one (.agg ((p.2.drop o).take ti.size)))else False
   | false=>ZV (VQ p.2 o) λc=>K (one c)
  | _=>False
 | .nilCheck x=>K3 σ x λs=>match s with
  | .ptr _ _=>K (one s)
  | .clo (.func _) _ _=>K (one s)
  | .val (.pointer (some p))=>K (one (.val (.pointer (some p))))
  | _=>False
 | .fieldAddr t x f=>K3 σ x λs=>match s with
  | .ptr b o=>Fj tt t λti=>match ti.k with
   | .struct r=>ZV (VQ r f) λq=>bif Mb q.2.1 then K (one (.ptr b (o+q.1)))else False
   | _=>False
  | _=>False
 | .field t x f=>K3 σ x λs=>bT s λl=>Fj tt t λti=>match ti.k with
  | .struct r=>ZV (VQ r f) λq=>cX l q.1 q.2.1 q.2.2 K
  | _=>False
 | .extract x i=>K3 σ x λs=>mE s λl=>ZV (VQ l i) λc=>K (one c)
 | .makeFunc fn l m=>gJ σ l.toList λl=>gJ σ m.toList λm=>K (one (.clo fn l m))
 | .indexAddr t x i=>K3 σ x λs=>K3 σ i λj=>fD j λm=>match s with
  | .ptr b o=>Fj tt t λti=>match ti.k with
   | .array n _ a _=>bif Mb a&&Nat.blt m n then K (one (.ptr b (o+m*a)))else False
   | _=>False
  | .sli b o n _=>Fj tt t λti=>match ti.k with
   | .slice _ a _=>bif Mb a&&Nat.blt m n then K (one (.ptr b (o+m*a)))else False
   | _=>False
  | _=>False
 | .index t x i=>K3 σ x λs=>K3 σ i λj=>fD j λm=>bT s λl=>Fj tt t λti=>match ti.k with
  | .array n _ a ag=>bif Mb a&&Nat.blt m n then cX l (m*a) a ag K else False
  | _=>False
 | .slice t x A z none=>K3 σ x λs=>uF σ A λl=>match s with
  | .ptr b o=>xl tt t λn a=>bI σ z n λh=>wb b o n n l h a K
  | .sli b o n c=>Fj tt t λti=>match ti.k with
   | .slice _ a _=>bI σ z n λh=>wb b o n c l h a K
   | _=>False
  | _=>False
 | .binOp op t x y _=>K3 σ x λs=>K3 σ y λu=>tx tt op t s u K
 | .unOp op _ x=>K3 σ x λs=>unS op s K
 | .convert s d x=>K3 σ x λu=>Fj tt s λ_=>Fj tt d λti=>match ti.k with
  | .int k=>(match u with
   | .val (.int _ n)=>K (one (.val (.int k (k.wrap n))))
   | _=>False)
  | _=>False
 | .pick c x y=>K3 σ c λs=>match s with
  | .val (.bool v)=>(match v with
   | true=>K3 σ x λs=>K (one s)
   | false=>K3 σ y λs=>K (one s))
  | _=>False
 | .call c=>match c.callee with
  | .builtin .len=>match c.args.toList,c.argTypes.toList with
   | [x],[t]=>K3 σ x λs=>yg tt t s K
   | _,_=>False
  | _=>False
 | _=>False
section
variable {P:Program} {tt:List (Nat×TI)} {w0:World} {σ:St} {K:Out->Prop}
theorem bW(a:∀out,K out->σ.fits out=true){s:SV}(h:K (one s)): σ.lt s=true:=(L6.1 (a _ h)).1
theorem XI{x:Sem z0}{v:z0}{w w':y9}(h:x.run P w=.ok v w'): (do pure (.value (<- x)):Sem Next).run P w=.ok (.value v) w':=by
 simp[h]
theorem YV(b:∀out,K out->σ.fits out=true){o:Oper}(s:SV)(h:K (one s))(c:∀r a w,See w0 σ r a w->(execOp a.eval o).run P w=.ok (.value (s.den r)) w): UA P w0 o σ K :=
 yX s h (bW b h) c
theorem RT(e:∀out,K out->σ.fits out=true){o:Oper}{l:List SV}{off b:Nat}(h:cX l off b ag K)(f:ag=some true->b≠0->∀r a w,See w0 σ r a w->(execOp a.eval o).run P w=.ok (.value (.agg (((QJ r l).drop off).take b).toArray)) w)(g:ag=some false->∀r a w v,See w0 σ r a w->(QJ r l)[off]?=some v->(execOp a.eval o).run P w=.ok (.value v) w): UA P w0 o σ K:=by
 unfold cX at h;split at h
 ·obtain⟨i,h⟩:=Ys h;refine YV e _ h λr a w d=>?_
  simp only[SV.den,Fs];exact f rfl (Gi i) r a w d
 ·obtain⟨c,j,h⟩:=QH h;exact YV e _ h λr a w d=>g rfl r a w _ d (GO j)
 ·exact h.elim
theorem Ie{s:SV}{K:List SV->Prop}(h:bT s K): ∃l,K l/\∀r,s.den r=.agg (QJ r l).toArray:=by
 unfold bT at h;split at h
 ·exact⟨_,h,λr=>rfl⟩
 ·exact⟨_,h,λr=>by simp[SV.den,DR]⟩
 ·exact h.elim
theorem EI{s:SV}{K:List SV->Prop}(h:mE s K): ∃l,K l/\∀r,s.den r=.tuple (QJ r l).toArray:=by
 unfold mE at h;split at h
 ·exact⟨_,h,λr=>rfl⟩
 ·exact⟨_,h,λr=>by simp[SV.den,DR]⟩
 ·exact h.elim
theorem BL{s:SV}{K:Nat->Prop}(h:fD s K): ∃k m,s=.val (.int k (.ofNat m))/\K m:=by
 unfold fD at h;split at h
 ·exact⟨_,_,rfl,h⟩
 ·exact h.elim
theorem fy{x:Option b8}{K:Nat->Prop}(h:uF σ x K): ∃m,K m/\∀r a w,See w0 σ r a w->MV (x.map a.eval) m:=by
 unfold uF at h;split at h
 ·exact⟨0,h,λ_ _ _ _=>.inl ⟨rfl,rfl⟩⟩
 ·obtain⟨s,b,c⟩:=QF h;obtain⟨k,m,rfl,d⟩:=BL c;exact⟨m,d,λr a w e=>.inr ⟨k,by rw[Tj,(Qy e b).1];rfl⟩⟩
theorem Hz{x:Option b8}{n:Nat}{K:Nat->Prop}(h:bI σ x n K): ∃m,K m/\∀r a w,See w0 σ r a w->C6 (x.map a.eval) n m:=by
 unfold bI at h;split at h
 ·exact⟨n,h,λ_ _ _ _=>.inl ⟨rfl,rfl⟩⟩
 ·obtain⟨s,b,c⟩:=QF h;obtain⟨k,m,rfl,d⟩:=BL c;exact⟨m,d,λr a w e=>.inr ⟨k,by rw[Tj,(Qy e b).1];rfl⟩⟩
theorem dD(i:∀out,K out->σ.fits out=true){o:Oper}{b p n c l h d:Nat}(f:wb b p n c l h d K)(j:d≠0->l<=h->h<=c->∀r a w,See w0 σ r a w->(execOp a.eval o).run P w=.ok (.value (.slice (some ⟨r.b b,if c=l then p else p+l*d,none⟩) (h-l) (c-l))) w): UA P w0 o σ K:=by
 obtain⟨g,f⟩:=Ys f;obtain⟨g,k⟩:=L6.1 g;obtain⟨m,q⟩:=L6.1 g;refine YV i _ f λr a w s=>?_
 rw[j (Gi m) (L3 q) (L3 k) r a w s];simp only[SV.den];congr 5;by_cases e:c=l
 ·rw[if_pos e,show Nat.beq c l=true from by subst e;exact Nat.beq_refl c];rfl
 ·rw[if_neg e];cases t:Nat.beq c l with
  | true=>exact absurd (Le t) e
  | false=>rfl
theorem eh(p:YF P tt){t:u6}{K:Nat->Nat->Prop}(h:xl tt t K): ∃n e,K n e/\(e≠0->∀(w:y9) g o c d l h,MV c l->C6 d n h->l<=h->h<=n ->
  (Instr.sliceAt t (.pointer (some ⟨g,o,none⟩)) c d none).run P w=.ok (.slice (some ⟨g,if n=l then o else o+l*e,none⟩) (h-l) (n-l)) w):=by
 obtain⟨ti,q,h⟩:=Xz p h;split at h
 ·rename_i f;exact⟨_,_,h,λi w g o c d l r j k a b=>gc q f i j k a b⟩
 ·rename_i f;obtain⟨u,s,h⟩:=Xz p h;split at h
  ·rename_i m;exact⟨_,_,h,λi w g o c d l r j k a b=>gd q f s m i j k a b⟩
  ·exact h.elim
 ·exact h.elim
theorem lj(z:a8)(b:z≠[]): ∀(n i:Nat),i<n*z.length->(qp z n)[i]?=z[i % z.length]?
 | 0,i,h=>by simp at h
 | n+1,i,h=>by
  have c:0<z.length:=List.length_pos_iff.2 b;rw[Rm]at h;show(z++qp z n)[i]?=_;rcases Lx i z.length with a|a
  ·rw[List.getElem?_append_left a,R8 a]
  ·rw[c6 a,lj z b n (i-z.length) x3,<- Nat.mod_eq_sub_mod a]
theorem dl(z:a8): ∀n,(qp z n).length=n*z.length
 | 0=>by simp[qp]
 | n+1=>by simp[qp,dl z n,Rm];omega
theorem fS(z:b7)(a:z.toList≠[])(n:Nat): (Array.range (n*z.size)).map (λi=>z[i % z.size]!)=(qp z.toList n).toArray:=by
 apply Array.ext';apply List.ext_getElem?;intro i;have c:0<z.size:=by rw[<- S7];exact List.length_pos_iff.2 a
 by_cases b:i<n*z.size
 ·have d:=lj z.toList a n i (y8 b);have e:i % z.size<z.size:=Ra _ c;rw[d];simp[b,e]
 ·rw[m1 x7,m1 (by rw[dl];simp;omega)]
end
section
variable {P:Program} {tt:List (Nat×TI)} {w0:World} {σ:St} {K:Out->Prop}
theorem P4{α β:Type}{g:α->Sem β}{f:α->β}{w:y9}: ∀ {l:List α},(∀x,x∈l->(g x).run P w=.ok (f x) w)->(l.mapM g).run P w=.ok (l.map f) w
 | [],_=>rfl
 | x::l,h=>by
  rw[List.mapM_cons,p0,h x x6,p7,p0,P4 (l:=l) λy a=>h y (by simp[a])];rfl
theorem WR{fd:Array Field}(h:∀f,f∈fd.toList->O5 P f.type≠0)(w:y9): (fd.mapM λ(f:Field)=>(do pure (f.offset,<- sizeOf f.type):Sem (Nat×Nat))).run P w=.ok (fd.map λf=>(f.offset,O5 P f.type)) w:=by
 rw[Array.mapM_eq_mapM_toList,Sem.run_map,P4 (f:=λf=>(f.offset,O5 P f.type)) λf a=>by simp[Va rfl (h f a)]];rw[p7];congr 1;apply Array.ext';simp
theorem NG(_hT:YF P tt){t:u6}{ti:TI}{b:List (Nat×Nat×Option Bool)}(d:YH P t=some ti)(g:ti.zero≠[])(j:ti.k=.struct b)(m:(b.all λq=>Mb q.2.1)=true){w:y9}{e:Array (Nat×z0)}{l:a8}(h:Instr.fill (λi=>vh (VQ b i)) ti.zero.toArray e.toList=some l.toArray): (Instr.build t e).run P w=.ok (.agg l.toArray) w:=by
 obtain⟨fd,n,rfl⟩:=B3 d j;obtain⟨z,o,p⟩:=FR d g w;have r:z.cells=ti.zero.toArray:=by rw[<- p]
 have a:∀f,f∈fd.toList->O5 P f.type≠0:=λf c=>by
  have:=Lc.1 m (f.offset,O5 P f.type,UE P f.type) (Ri.2 ⟨f,c,rfl⟩);exact Gi this
 have s:(λi=>((fd.map λf=>(f.offset,O5 P f.type))[i]?:Option (Nat×Nat)))=λi=>vh (VQ (fd.toList.map λf=>(f.offset,O5 P f.type,UE P f.type)) i):=by
  funext i;rw[FH,List.getElem?_map,Array.getElem?_map];simp only[Array.getElem?_toList];cases fd[i]?<;>rfl
 unfold Instr.build;rw[p0,o,p7,p0,Ya n,p7];simp only[p0,WR a,p7,r];rw[s,h];rfl
theorem Pi(_hT:YF P tt){t:u6}{ti:TI}{n e a:Nat}(b:YH P t=some ti)(d:ti.zero≠[])(f:ti.k=.array n e a ag)(g:a≠0){w:y9}{c:Array (Nat×z0)}{l:a8}(h:Instr.fill (λi=>some (i*a,a)) ti.zero.toArray c.toList=some l.toArray): (Instr.build t c).run P w=.ok (.agg l.toArray) w:=by
 obtain⟨j,m,_⟩:=GZ b f;obtain⟨z,o,p⟩:=FR b d w;have q:z.cells=ti.zero.toArray:=by rw[<- p]
 unfold Instr.build;rw[p0,o,p7,p0,Ya j,p7];simp only[p0,Va m g,p7,q,h];rfl
theorem Pj{t:u6}{ti b:TI}{e a n:Nat}(v:YH P t=some ti)(x:ti.k=.slice e a ag)(c:YH P e=some b)(d:b.zero≠[])(p:b.size=a)(q:b.zero.length=a)(y:n*a<=16777216){w:y9}{g:Array (Nat×z0)}{l:a8}(h:Instr.fill (λi=>some (i*a,a)) (qp b.zero n).toArray g.toList=some l.toArray): (Instr.buildSlice t n g).run P w=.ok (.slice (some ⟨w.heap.size,0,none⟩) n n) (w.alloc (.cells l.toArray e)):=by
 obtain⟨A,_,_⟩:=K0 v x;obtain⟨z,B,j⟩:=FR c d w;have C:z.cells=b.zero.toArray:=by rw[<- j]
 have r:=fS z.cells (by rw[j];exact d) n;have s:z.cells.size=a:=by rw[C];simpa using q
 rw[j,s]at r;have u:¬ n*a>2^24:=y8 y;unfold Instr.buildSlice;rw[p0,Ya A,p7];by_cases m:n*a=0
 ·have D:a≠0:=λe0=>d (Rz (q.trans e0))
  have o:n=0:=(Nat.mul_eq_zero.1 m).resolve_right D;subst o;have E:Instr.fill (λi=>some (i*a,a)) #[] g.toList=some l.toArray:=h;simp only[p0,CK c,p,p7,if_neg u,if_pos m,Sem.run_pure];have F:∀f:Nat->z0,Array.map f (Array.range 0)=#[]:=λf=>(by apply Array.eq_empty_of_size_eq_zero;simp)
  simp[F,E,newRow]
 ·simp only[p0,CK c,p,p7,if_neg u,if_neg m,Sem.run_pure,B,s,r,h];simp[newRow]
theorem oA(d:∀out,K out->σ.fits out=true){o:Oper}{t u:u6}{x:b8}{k:IntKind}{a b:Int}(e:o.op=.binOp op t x y u)(h:uq op k a b K)(f:∀r A w,See w0 σ r A w->A.eval x=.int k a)(g:∀r A w,See w0 σ r A w->A.eval y=.int k b): UA P w0 o σ K:=by
 have key:∀s,K (one s)->(∀r w,(binOp op t (.int k a) (.int k b)).run P w=.ok (s.den r) w)->UA P w0 o σ K:=λs i j=>YV d s i λr A w c=>by
  have l:execOp A.eval o=(do pure (.value (<- (do eqGuard op t x y (A.eval x) (A.eval y);binOp op t (A.eval x) (A.eval y)))):Sem Next):=by
   unfold execOp;rw[e]
  rw[l];refine XI ?_
  rw[f r A w c,g r A w c];have m:(eqGuard op t x y (.int k a) (.int k b)).run P w=.ok () w:=by
   unfold eqGuard;cases op<;>rfl
  simp[m,j r w]
 unfold uq at h;split at h
 ·exact key _ h λr w=>by simp[binOp,Op.intArith,SV.den]
 ·exact key _ h λr w=>by simp[binOp,Op.intArith,SV.den]
 ·exact key _ h λr w=>by simp[binOp,Op.intArith,SV.den]
 ·exact key _ h λr w=>by simp[binOp,Op.intCmp,SV.den]
 ·exact key _ h λr w=>by simp[binOp,Op.intCmp,SV.den]
 ·exact key _ h λr w=>by simp[binOp,Op.intCmp,SV.den]
 ·exact key _ h λr w=>by simp[binOp,Op.intCmp,SV.den]
 ·exact key _ h λr w=>by simp[binOp,Op.intCmp,SV.den]
 ·exact key _ h λr w=>by simp[binOp,Op.intCmp,SV.den]
 ·exact h.elim
theorem Qac{t:u6}{x:b8}{v u:z0}{b:Bool}{w:y9}(a:op=.eql/\b=false\/op=.neq/\b=true)(g:(∃p e,v=.pointer (some p)/\u=.pointer none/\P.underlying t=some (.pointer e))\/∃p n c d f e,v=.slice (some p) n c/\u=.slice none d f/\P.underlying t=some (.slice e)):
  (do eqGuard op t x y v u;binOp op t v u:Sem z0).run P w=.ok (.bool b) w:=by
 have k:(eqGuard op t x y v u).run P w=.ok () w:=by
  unfold eqGuard;rcases a with⟨rfl,_⟩|⟨rfl,_⟩<;>rcases g with⟨p,e,rfl,rfl,_⟩|⟨p,n,c,d,f,e,rfl,rfl,_⟩<;>rfl
 rw[p0,k,p7];have j:(Op.equal t v u).run P w=.ok false w:=by
  unfold Op.equal;rw[show Op.maxDepth=9999+1 from rfl];unfold Op.equalIn;rcases g with⟨p,e,rfl,rfl,h⟩|⟨p,n,c,d,f,e,rfl,rfl,h⟩<;>(rw[p0,Ya h,p7];rfl)
 rcases a with⟨rfl,rfl⟩|⟨rfl,rfl⟩
 ·have i:binOp .eql t v u=(do pure (.bool (<- Op.equal t v u)):Sem z0):=by rcases g with⟨p,e,rfl,rfl,h⟩|⟨p,n,c,d,f,e,rfl,rfl,h⟩<;>rfl
  simp[i,j]
 ·have i:binOp .neq t v u=(do pure (.bool (!(<- Op.equal t v u))):Sem z0):=by rcases g with⟨p,e,rfl,rfl,h⟩|⟨p,n,c,d,f,e,rfl,rfl,h⟩<;>rfl
  simp[i,j]
theorem cB(b:∀out,K out->σ.fits out=true){o:Oper}{t u:u6}{x:b8}(g:o.op=.binOp op t x y u)(h:pg op K)(d:∀r A w,See w0 σ r A w->(∃p e,A.eval x=.pointer (some p)/\A.eval y=.pointer none/\P.underlying t=some (.pointer e))\/∃p n c i j e,A.eval x=.slice (some p) n c/\A.eval y=.slice none i j/\P.underlying t=some (.slice e)): UA P w0 o σ K:=by
 have f:∀A:Act,execOp A.eval o=(do pure (.value (<- (do eqGuard op t x y (A.eval x) (A.eval y);binOp op t (A.eval x) (A.eval y)))):Sem Next):=λA=>by
  unfold execOp;rw[g]
 unfold pg at h;split at h
 ·exact YV b _ h λr A w a=>by rw[f];exact XI (Qac (.inl ⟨rfl,rfl⟩) (d r A w a))
 ·exact YV b _ h λr A w a=>by rw[f];exact XI (Qac (.inr ⟨rfl,rfl⟩) (d r A w a))
 ·exact h.elim
end
section
variable {P:Program} {tt:List (Nat×TI)} {w0:World} {σ:St} {K:Out->Prop}
theorem JB{α β:Type}(f:α->β)(x:Array α)(l:List β)(h:x.toList.map f=l): x.map f=l.toArray:=by
 apply Array.ext';simpa using h
theorem nB(i:YF P tt)(c:∀out,K out->σ.fits out=true){o:Oper}{t u:u6}{x:b8}(d:o.op=.binOp op t x y u){s j:SV}(k:wS σ x=some s)(l:wS σ y=some j)(h:tx tt op t s j K): UA P w0 o σ K:=by
 have e:=λr A w (a:See w0 σ r A w)=>(Qy a k).1
 have f:=λr A w (a:See w0 σ r A w)=>(Qy a l).1
 unfold tx at h;split at h
 ·obtain⟨b,m⟩:=Ys h;clear h;obtain rfl:=Ib b;exact oA c d m (λr A w a=>e r A w a) (λr A w a=>f r A w a)
 ·obtain⟨ti,g,h⟩:=Xz i h;split at h
  ·rename_i b;exact cB c d h λr A w a=>.inl ⟨_,_,e r A w a,f r A w a,ml g b⟩
  ·exact h.elim
 ·obtain⟨ti,g,h⟩:=Xz i h;split at h
  ·rename_i b;exact cB c d h λr A w a=>.inr ⟨_,_,_,_,_,_,e r A w a,f r A w a,(K0 g b).1⟩
  ·exact h.elim
 ·exact h.elim
theorem oK(f:YF P tt)(g:∀out,K out->σ.fits out=true){o:Oper}{_ty:u6}{x:b8}{t:u6}{c:Call}(i:o.op=.call c)(j:c.callee=.builtin .len)(k:c.args=#[x])(l:c.argTypes=#[t]){s:SV}(e:wS σ x=some s)(h:yg tt t s K): UA P w0 o σ K:=by
 have key:∀n:Int,K (one (.val (.int .i64 n)))->(∀r A w,See w0 σ r A w->(Builtin.len_ #[t] o.type #[A.eval x]).run P w=.ok (.int .i64 n) w)->UA P w0 o σ K:=λn b m=>YV g _ b λr A w a=>by
  have p:=m r A w a;unfold execOp;rw[i];simp[resolve,j,k,l,invoke,builtin,p,SV.den]
 obtain⟨ti,b,h⟩:=Xz f h;split at h
 ·rename_i d;split at h
  ·exact key _ h λr A w a=>by rw[(Qy a e).1];simp[Builtin.len_,Ya (mn b d),SV.den,goInt]
  ·exact h.elim
 ·rename_i d;split at h
  ·exact key _ h λr A w a=>by rw[(Qy a e).1];simp[Builtin.len_,Ya (K0 b d).1,SV.den,goInt]
  ·exact key _ h λr A w a=>by rw[(Qy a e).1];simp[Builtin.len_,Ya (K0 b d).1,SV.den,goInt]
  ·exact h.elim
 ·exact h.elim
theorem WN(F:YF P tt)(C:∀out,K out->σ.fits out=true){o:Oper}(h:yC tt σ o.op K): UA P w0 o σ K:=by
 have B:∀ {op:Op},o.op=op->∀V,execOp V o=execOp V { o with op:=op }:=λe V=>by rw[<- e]
 cases e:o.op<;>rw[e]at h
 case move x =>
  obtain⟨s,g,h⟩:=QF h;exact YV C _ h λr A w b=>by rw[B e,<- (Qy b g).1];rfl
 case assign x =>
  obtain⟨s,g,h⟩:=QF h;exact YV C _ h λr A w b=>by rw[B e,<- (Qy b g).1];rfl
 case alloc t =>
  obtain⟨ti,g,h⟩:=Xz F h;obtain⟨G,h⟩:=Ys h;refine la _ _ _ h (RM _ _ _) λr A w b=>?_
  rw[B e,DR];have z:=XI (eg (w:=w) g (FG G));refine z.trans ?_
  simp only[SV.den,Env.add',Env.add,Xp]
 case box t x =>
  obtain⟨s,g,h⟩:=QF h;refine la _ _ _ h (L6.1 (C _ h)).2 λr A w b=>?_
  rw[B e,CY b (Qy b g).2];refine(XI (nE _)).trans ?_
  rw[(Qy b g).1];simp only[SV.den,Env.add',Env.add,Xp]
 case nilCheck x =>
  obtain⟨s,g,h⟩:=QF h;split at h
  ·exact YV C _ h λr A w b=>by
    have z:=(Qy b g).1;rw[B e];unfold execOp;simp only[z,SV.den];rfl
  ·exact YV C _ h λr A w b=>by
    have z:=(Qy b g).1;rw[B e];unfold execOp;simp only[z,SV.den];rfl
  ·exact YV C _ h λr A w b=>by
    have z:=(Qy b g).1;rw[B e];unfold execOp;simp only[z,SV.den];rfl
  ·exact h.elim
 case extract x i =>
  obtain⟨s,g,h⟩:=QF h;obtain⟨l,h,L⟩:=EI h;obtain⟨c,R,h⟩:=QH h;refine YV C _ h λr A w b=>?_
  rw[B e];refine XI ?_
  rw[(Qy b g).1,L];simp[Instr.extract,GO R]
 case makeFunc fn l m =>
  obtain⟨l',h,g⟩:=Z5 w0 h;obtain⟨m',h,z⟩:=Z5 w0 h;refine YV C _ h λr A w b=>?_
  rw[B e];refine XI ?_
  rw[JB _ _ _ (g r A w b).1,JB _ _ _ (z r A w b).1];rfl
 case load t x =>
  obtain⟨s,g,h⟩:=QF h;split at h
  ·obtain⟨p,z,h⟩:=QH h;obtain⟨ti,D,h⟩:=Xz F h;split at h
   ·rename_i H;obtain⟨I,h⟩:=Ys h;refine YV C _ h λr A w b=>?_
    rw[B e];refine XI ?_
    rw[(Qy b g).1];simp only[SV.den,Fs];exact If D H (b.bs _ p.1 p.2 z).1 (by rw[J6];exact L3 I)
   ·rename_i H;obtain⟨c,R,h⟩:=QH h;refine YV C _ h λr A w b=>?_
    rw[B e];refine XI ?_
    rw[(Qy b g).1];exact Ig D H (b.bs _ p.1 p.2 z).1 (GO R)
  ·exact h.elim
 case fieldAddr t x f =>
  obtain⟨s,g,h⟩:=QF h;split at h
  ·obtain⟨ti,D,h⟩:=Xz F h;split at h
   ·rename_i E;obtain⟨q,J,h⟩:=QH h;obtain⟨G,h⟩:=Ys h;refine YV C _ h λr A w b=>?_
    rw[B e];refine XI ?_
    rw[(Qy b g).1];exact A8 D E J (Gi G)
   ·exact h.elim
  ·exact h.elim
 case field t x f =>
  obtain⟨s,g,h⟩:=QF h;obtain⟨l,h,L⟩:=Ie h;obtain⟨ti,D,h⟩:=Xz F h;split at h
  ·rename_i E;obtain⟨q,J,h⟩:=QH h;obtain⟨off,Y,ag⟩:=q;refine RT C h (λH G r A w b=>?_) (λH r A w v b W=>?_)
   ·simp only at H;subst H
    rw[B e];refine XI ?_
    rw[(Qy b g).1,L];exact eY D E J G
   ·simp only at H;subst H
    rw[B e];refine XI ?_
    rw[(Qy b g).1,L];exact eZ D E J W
  ·exact h.elim
 case index t x i =>
  obtain⟨s,g,h⟩:=QF h;obtain⟨j,z,h⟩:=QF h;obtain⟨k,m,rfl,h⟩:=BL h;obtain⟨l,h,L⟩:=Ie h;obtain⟨ti,D,h⟩:=Xz F h;split at h
  ·rename_i E;obtain⟨I,h⟩:=Ys h;obtain⟨G,M⟩:=L6.1 I;refine RT C h (λH X r A w b=>?_) (λH r A w v b W=>?_)
   ·subst H;rw[B e];refine XI ?_
    rw[(Qy b g).1,(Qy b z).1,L];exact fm D E (Q1 M) X
   ·subst H;rw[B e];refine XI ?_
    rw[(Qy b g).1,(Qy b z).1,L];exact fq D E (Q1 M) (Gi G) W
  ·exact h.elim
 case indexAddr t x i =>
  obtain⟨s,g,h⟩:=QF h;obtain⟨j,z,h⟩:=QF h;obtain⟨k,m,rfl,h⟩:=BL h;split at h
  ·obtain⟨ti,D,h⟩:=Xz F h;split at h
   ·rename_i E;obtain⟨I,h⟩:=Ys h;obtain⟨G,M⟩:=L6.1 I;refine YV C _ h λr A w b=>?_
    rw[B e];refine XI ?_
    rw[(Qy b g).1,(Qy b z).1];exact fo D E (Q1 M) (Gi G)
   ·exact h.elim
  ·obtain⟨ti,D,h⟩:=Xz F h;split at h
   ·rename_i E;obtain⟨I,h⟩:=Ys h;obtain⟨G,M⟩:=L6.1 I;refine YV C _ h λr A w b=>?_
    rw[B e];refine XI ?_
    rw[(Qy b g).1,(Qy b z).1];exact MO D E (Q1 M) (Gi G)
   ·exact h.elim
  ·exact h.elim
 case slice t x lo hi Z =>
  cases Z with
  | some _=>exact False.elim h
  | none =>
   obtain⟨s,g,h⟩:=QF h;obtain⟨l,h,L⟩:=fy (w0:=w0) h;split at h
   ·obtain⟨n,Y,h,S⟩:=eh F h;obtain⟨m,h,M⟩:=Hz (w0:=w0) h;refine dD C h λG z D r A w b=>?_
    rw[B e];refine XI ?_
    rw[(Qy b g).1];exact S G w _ _ _ _ _ _ (L r A w b) (M r A w b) z D
   ·obtain⟨ti,J,h⟩:=Xz F h;split at h
    ·rename_i E;obtain⟨m,h,M⟩:=Hz (w0:=w0) h;refine dD C h λG z D r A w b=>?_
     rw[B e];refine XI ?_
     rw[(Qy b g).1];exact J0 _ _ _ _ _ _ _ _ _ _ J E G (L r A w b) (M r A w b) z D
    ·exact h.elim
   ·exact h.elim
 case binOp op t x y u =>
  obtain⟨s,g,h⟩:=QF h;obtain⟨s',z,h⟩:=QF h;exact nB F C e g z h
 case unOp op t x =>
  obtain⟨s,g,h⟩:=QF h;unfold unS at h;split at h
  ·exact YV C _ h λr A w b=>by
    rw[B e];refine XI ?_
    rw[(Qy b g).1];rfl
  ·exact YV C _ h λr A w b=>by
    rw[B e];refine XI ?_
    rw[(Qy b g).1];rfl
  ·exact h.elim
 case convert a d x =>
  obtain⟨s,g,h⟩:=QF h;obtain⟨ta,z,h⟩:=Xz F h;obtain⟨td,D,h⟩:=Xz F h;split at h
  ·rename_i E;split at h
   case h_2=>exact h.elim
   refine YV C _ h λr A w b=>?_
   obtain⟨_,da,_,Q,_⟩:=Jy z;rw[B e];refine XI ?_
   rw[(Qy b g).1];unfold Go.convert;rw[p0,Ya Q,p7,p0,Ya (mj D E),p7];cases da<;>rfl
  ·exact h.elim
 case pick c x y =>
  obtain⟨s,g,h⟩:=QF h;split at h
  ·split at h
   ·obtain⟨u,z,h⟩:=QF h;refine YV C _ h λr A w b=>?_
    rw[B e,<- (Qy b z).1];have D:=(Qy b g).1;unfold execOp;simp only[D,SV.den,asBool];rfl
   ·obtain⟨u,z,h⟩:=QF h;refine YV C _ h λr A w b=>?_
    rw[B e,<- (Qy b z).1];have D:=(Qy b g).1;unfold execOp;simp only[D,SV.den,asBool];rfl
  ·exact h.elim
 case call c =>
  dsimp only[yC]at h;split at h
  ·rename_i R;split at h
   ·rename_i x t H ht;obtain⟨s,g,h⟩:=QF h;exact oK (_ty:=0) F C e R (by apply Array.ext';exact H) (by apply Array.ext';exact ht) g h
   ·exact h.elim
  ·exact h.elim
 case build t ps =>
  obtain⟨N,h,g⟩:=Hk (w0:=w0) h;obtain⟨ti,z,h⟩:=Xz F h;obtain⟨G,h⟩:=Ys h;split at h
  ·rename_i E;obtain⟨hf,h⟩:=Ys h;obtain⟨l,J,h⟩:=QH h;refine YV C _ h λr A w b=>?_
   obtain⟨Q,T⟩:=g r A w b;have O:=A9 b _ N _ l T (RM _ _ _) J;rw[DR]at O;rw[B e];refine XI (NG F z (FG G) E hf ?_);rw[Ui,Q];exact O
  ·rename_i E;obtain⟨hs,h⟩:=Ys h;obtain⟨l,J,h⟩:=QH h;refine YV C _ h λr A w b=>?_
   obtain⟨Q,T⟩:=g r A w b;have O:=A9 b _ N _ l T (RM _ _ _) J;rw[DR]at O;rw[B e];refine XI (Pi F z (FG G) E (Gi hs) ?_);rw[Ui,Q];exact O
  ·exact h.elim
 case buildSlice t n ps =>
  obtain⟨N,h,g⟩:=Hk (w0:=w0) h;obtain⟨ti,z,h⟩:=Xz F h;split at h
  ·rename_i E;obtain⟨te,D,h⟩:=Xz F h;obtain⟨I,h⟩:=Ys h;obtain⟨I,b5⟩:=L6.1 I;obtain⟨I,b3⟩:=L6.1 I;obtain⟨b1,b2⟩:=L6.1 I;obtain⟨l,J,h⟩:=QH h;have U:=(L6.1 (C _ h)).2;refine la _ _ _ h U λr A w b=>?_
   obtain⟨Q,T⟩:=g r A w b;have O:=A9 b _ N _ l T (RM _ _ _) J;rw[DR]at O;rw[B e];refine(XI (Pj z E D (FG b1) (Le b2) (Le b3) (L3 b5) (l:=QJ r l) ?_)).trans ?_
   ·rw[Ui,Q];exact O
   ·simp only[SV.den,Env.add',Env.add,Xp]
  ·exact h.elim
 all_goals exact False.elim h
end
def Zp(f:Nat->a8): Nat->a8|0=>[] | n+1=>Zp f n++f n
theorem C4{f:Nat->a8}{k:Nat}(h:∀j,(f j).length=k): ∀n,(Zp f n).length=n*k
 | 0=>by simp[Zp]
 | n+1=>by
  show(Zp f n++f n).length=_;rw[Lq,C4 h n,h n,Rm]
theorem Ca{f:Nat->a8}{k:Nat}(h:∀j,(f j).length=k): ∀ {n j i:Nat},j<n->i<k->(Zp f n)[j*k+i]?=(f j)[i]?
 | n+1,j,i,d,a=>by
  show(Zp f n++f n)[j*k+i]?=_;have b:=C4 h n;by_cases e:j=n
  ·subst e;rw[c6 x3,b,Tb]
  ·have g:j*k+i<n*k:=by
    have c:(j+1)*k<=n*k:=Lo _ x3;rw[Rm]at c;omega
   rw[List.getElem?_append_left x3];exact Ca h x3 a
theorem KR{f g:Nat->a8}: ∀ {n:Nat},(∀j,j<n->f j=g j)->Zp f n=Zp g n
 | 0,_=>rfl
 | n+1,h=>by
  show Zp f n++f n=Zp g n++g n;rw[KR λj a=>h j x3,h n x3]
theorem MI(f:Nat->a8)(n:Nat): ∀m,Zp f (n+m)=Zp f n++Zp (λj=>f (n+j)) m
 | 0=>by simp[Zp]
 | m+1=>by
  show Zp f (n+m)++f (n+m)=Zp f n++(Zp (λj=>f (n+j)) m++f (n+m));rw[MI f n m,List.append_assoc]
def OwnK(w:y9)(base:Nat)(e:u6)(k:Nat)(v:z0)(n:Nat)(f:Nat->a8): Prop:=w.ownsRow base e k v n (Zp f n)
theorem OwnK.nil_(w:y9)(base:Nat)(e:u6)(k:Nat)(f:Nat->a8): OwnK w base e k (.slice none 0 0) 0 f:=⟨by simp[Zp],.inl ⟨rfl,rfl⟩⟩
theorem OwnK.congr{w:y9}{base:Nat}{e:u6}{k:Nat}{v:z0}{n:Nat}{f f':Nat->a8}(h:OwnK w base e k v n f)(a:∀j,j<n->f j=f' j): OwnK w base e k v n f':=by
 unfold OwnK at *;rwa [<- KR a]
theorem OwnK.below{w w':y9}{base:Nat}{e:u6}{k:Nat}{v:z0}{n:Nat}{f:Nat->a8}(h:OwnK w base e k v n f)(a:Below w.heap.size w w'): OwnK w' base e k v n f :=
 World.ownsRow.kept (row:=none) h (GK a none) (by
  rcases h.2 with⟨rfl,_⟩|⟨g,cap,b,rfl,_⟩
  ·exact .inl rfl
  ·exact .inr (by simp[Value.ownBlock]))
def RdK(w:y9)(A:u5)(n k:Nat)(f:Nat->a8): Prop:=0<n->∃b off,A=some ⟨b,off,none⟩/\∀j,j<n->∀i,i<k->w.cell? ⟨b,off+j*k+i,none⟩=(f j)[i]?
theorem OwnK.rd{w:y9}{base:Nat}{e:u6}{k:Nat}{v:z0}{n:Nat}{f:Nat->a8}(l:∀j,(f j).length=k)(h:OwnK w base e k v n f): ∃A c,v=.slice A n c/\n<=c/\RdK w A n k f/\(∀a,A=some a->base<=a.block)/\(A=none->n=0/\c=0):=by
 rcases h.2 with⟨rfl,rfl⟩|⟨g,cap,d,rfl,m,o,p,_,u,q⟩
 ·exact⟨none,0,rfl,L8 _,λh=>absurd h x4,(λa b=>by cases b),λ_=>⟨rfl,rfl⟩⟩
 ·refine⟨_,cap,rfl,p,λ_=>⟨g,0,rfl,λj r i s=>?_⟩,(λa b=>by injection b with b;subst b;exact m),λh=>by cases h⟩;rw[Lj,cell_of_row w g (j*k+i) d e (0,0) o,<- Array.getElem?_toList,<- Ca l r s,<- q,o4];have t:(j+1)*k<=n*k:=Lo _ x3;rw[Rm]at t;omega
section
variable {P:Program} {w:World} {ops:Array Oper} {rest:List Oper} {o:Oper} {a:Act} {Q:Exit->Act->World->Prop}
theorem IW(G:o.guard=none)(s x:b8)(t:u6)(R:o.op=.call { callee:=.builtin .append,args:=#[s,x],argTypes:=#[t,t] })(base:Nat)(e:u6)(z:z0)(k bytes:Nat)(S:P.underlying t=some (.slice e))(q:(P.info? e).map (λi=>(i.zero,i.size,i.bytes))=some (some z,k,bytes))(H:z.cells.size=k)(r:0<k)(v:z0)(n:Nat)(f:Nat->a8)(T:a.eval s=v)(p:OwnK w base e k v n f)(A:Addr)(m c:Nat)(g:Nat->a8)(_:∀j,(f j).length=k)(N:∀j,(g j).length=k)(U:∀j u,u∈g j->u.oneCell'=true)(V:a.eval x=.slice (some A) m c)(I:A.spot=none)(y:∀j,j<m->∀i,i<k->w.cell? ⟨A.block,A.off+j*k+i,none⟩=(g j)[i]?)(W:n+m<=9223372036854775807)(l:(n+m)*bytes<=140737488355328)(b:base<=w.heap.size)(h:∀E w',OwnK w' base e k E (n+m) (λj=>if j<n then f j else g (j-n))->Below base w w'->wpList P ops Q rest (a.put o.dst E) w'):
  wpList P ops Q (o::rest) a w:=by
 obtain⟨i,X,Y,J,K⟩:=info_parts q;have O:=C4 N m;refine wpList_append_own (P:=P) _ G s x t R base e i z k bytes S X Y J K H r v n (Zp f n) T p A m c (Zp g m) V O ?_ ?_ (by unfold maxLen;omega) l b ?_
 ·intro j u B;have L:j<m*k:=by rw[<- O];exact(sT.1 B).1
  have F:j=j / k*k+j % k:=by rw[Ls];exact(T3 j k).symm
  have C:j / k<m:=(Lm r).2 L;have D:j % k<k:=Ra _ r;rw[F,Ca N C D]at B;obtain⟨blk,off,sl⟩:=A;obtain rfl:sl=none:=I;rw[Yc,F,<- Sc];exact(y _ C _ D).trans B
 ·intro u Z;have key:∀m,u∈Zp g m->u.oneCell'=true:=by
   intro m;induction m with
   | zero=>intro h;cases h
   | succ m ih =>
    intro h;rcases Rs.1 h with h|h
    ·exact ih h
    ·exact U m u h
  exact key m Z
 ·intro E w' d M _;have F:Zp f n++Zp g m=Zp (λj=>if j<n then f j else g (j-n)) (n+m):=by
   rw[MI];congr 1
   ·exact KR λj B=>by rw[if_pos B]
   ·exact KR λj _=>by rw[if_neg x3,Tb]
  rw[F]at d;exact h E w' d ((l3 _ _).grown M b (λk hk=>(p.lt k hk).1))
end
