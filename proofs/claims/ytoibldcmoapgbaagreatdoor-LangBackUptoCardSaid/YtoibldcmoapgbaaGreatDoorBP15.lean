/- Laws beneath the statement. -/
import Derived.Test.YtoibldcmoapgbaaGreatDoorBP12
namespace Go.Proofs.YtoibldcmoapgbaaGreatDoor
set_option linter.defProp false
open Go Go.RowKit
def OwnTT(w:m0)(base:Nat)(e e2:o0)(k:Nat)(v:y9)(n m:Nat)(F:Nat->Nat->o3):Prop :=
 ∃(As:Nat->m3) (cs:Nat->Nat),OwnK w base e 1 v n (λj=>[.slice (As j) m (cs j)])/\(∀j,j<n->OwnK w base e2 k (.slice (As j) m (cs j)) m (F j))/\(∀j a,j<n->As j=some a->v.ownBlock≠some a.block)/\(∀i j a b,i<n->j<n->i≠j->As i=some a->As j=some b->a.block≠b.block)
def OwnTT.nil_(w:m0)(base:Nat)(e e2:o0)(k m:Nat)(F:Nat->Nat->o3):OwnTT w base e e2 k (.slice none 0 0) 0 m F :=
 ⟨λ_=>none,λ_=>0,OwnK.nil_ _ _ _ _ _,λj a=>absurd a x3,λj _ a=>absurd a x3,λi _ _ _ b=>absurd b x3⟩
section
variable{P:z4}{w:m0}{ops:Array Oper}{rest:List Oper}{o:Oper}{a:Act}{Q:Exit->Act->m0->Prop}
def H4(ae:o.guard=none)(s x:x0h)(t:o0)(ho:o.op=.call { callee:=.builtin .append,args:=#[s,x],argTypes:=#[t,t] })(base:Nat)(e e2:o0)(z:y9)(k bytes:Nat)(ht:P.underlying t=some (.slice e))(D:(P.info? e).map (λi=>(i.zero,i.size,i.bytes))=some (some z,1,bytes))(ag:z.cells.size=1)(v:y9)(n m:Nat)(F:Nat->Nat->o3)(hs:a.eval s=v)(E:m0)(M:OwnTT E base e e2 k v n m F)(K:Below E.heap.size E w)(Y:Addr)(hx:a.eval x=.slice (some Y) 1 1)(al:Y.spot=none)(A:m3)(c:Nat)(G:w.cell? Y=some (.slice A m c))(C:OwnK w E.heap.size e2 k (.slice A m c) m (F n))(q:base<=E.heap.size)(bY:n+1<=9223372036854775807)(y:(n+1)*bytes<=140737488355328)(h:∀N w',OwnTT w' base e e2 k N (n+1) m F->Below base w w'->wpList P ops Q rest (a.put o.dst N) w'):
  wpList P ops Q (o::rest) a w:=by
 let⟨i,hi,hz,ao,aB⟩:=info_parts D;let⟨As,cs,h1,h2,h3,h4⟩:=M;let⟨bd,off,sl⟩:=Y;obtain rfl:sl=none:=al;have O:=OwnK.lt_ h1;have R:=h1.below K;have bi:=OwnK.lt_ R;have S:∀a,A=some a->E.heap.size<=a.block/\a.block<w.heap.size:=λa d=>OwnK.lt_ C a.block (by rw[d];rfl)
 have B:∀j a,j<n->As j=some a->a.block<E.heap.size:=λj a H d=>(OwnK.lt_ (h2 j H) a.block (by rw[d];rfl)).2
 refine wpList_append_own_at (P:=P) (w:=w) ae s x t ho base e i z 1 bytes ht hi hz ao aB ag x4 v n _ hs R ⟨bd,off,none⟩ 1 1 [.slice A m c] hx rfl ?_ ?_ (by unfold maxLen;omega) y (L6 q K.size) ?_
 ·intro j u H;have bk:j=0:=by
   grind
  subst bk;simp at H;subst H;exact G
 ·intro u Z;simp at Z;subst Z;rfl
 ·intro N w' I T _ ca;have J:∀g,g<w.heap.size->v.ownBlock≠some g->w'.heap[g]?=w.heap[g]?:=λg p hn=>T.block g p (λe=>hn e.symm)
  have U:∀g,g<w.heap.size->v.ownBlock≠some g->N.ownBlock≠some g:=λg p hn he=>by
   grind
  have V:∀(u:y9) (b':Nat) (f:Nat->o3),(∀g,u.ownBlock=some g->g<w.heap.size/\v.ownBlock≠some g)->OwnK w b' e2 k u m f->OwnK w' b' e2 k u m f:=λu b' f Z ⟨h0,hr⟩=>by
   refine⟨h0,?_⟩;rcases hr with hr|⟨g,cap,bl,e1,bs,hh,L⟩
   ·exact .inl hr
   ·have W:=Z g (by rw[e1];rfl);exact .inr ⟨g,cap,bl,e1,bs,(J g W.1 W.2).trans hh,L⟩
  have X:∀a,A=some a->v.ownBlock≠some a.block:=λa d he=>by have L:=(O _ he).2;have W:=S a d;omega
  refine h N w' ⟨λj=>if j=n then A else As j,λj=>if j=n then c else cs j,?_,λj H=>?_,λj a H d=>?_,λi j a b hi H bX d r=>?_⟩ ((p5 _ _).grown T (L6 q K.size) (λk hk=>(bi k hk).1))
  ·have e1:ZB (λj=>[.slice (if j=n then A else As j) m (if j=n then c else cs j)]) (n+1)=ZB (λj=>[.slice (As j) m (cs j)]) n++[.slice A m c]:=by
    grind[ZB,VB]
   show World.ownsRow _ _ _ _ _ _ _;rw[e1];exact I
  ·by_cases e:j=n
   ·subst e;simp only[if_true];have L:=V _ _ _ (λg p=>by
     cases l:A with
     |none=>rw[l]at p;cases p
     |some a =>
      rw[l]at p;injection p with p
      subst p;exact⟨(S a l).2,X a l⟩) C
    exact L.base_ q
   ·simp only[if_neg e];refine V _ _ _ (λg p=>?_) ((h2 j x3).below K);cases l:As j with
    |none=>rw[l]at p;cases p
    |some a =>
     rw[l]at p;injection p with p
     subst p;exact⟨L9 (B j a x3 l) K.size,h3 j a x3 l⟩
  ·by_cases e:j=n
   ·subst e;simp only[if_true]at d;exact U _ (S a d).2 (X a d)
   ·simp only[if_neg e]at d;exact U _ (L9 (B j a x3 d) K.size) (h3 j a x3 d)
  ·by_cases e:i=n<;>by_cases e':j=n
   ·omega
   ·simp only[if_pos e]at d;simp only[if_neg e']at r;have L:=S a d;have W:=B j b x3 r;omega
   ·simp only[if_neg e]at d;simp only[if_pos e']at r;have L:=S b r;have W:=B i a x3 d;omega
   ·simp only[if_neg e]at d;simp only[if_neg e']at r;exact h4 i j a b x3 x3 bX d r
end
def CK(f:Nat->Int)(j:Nat):o3:=[.bool (neg (f j)),.string (QJ (f j))]
section
variable{w w':m0}{base top g n:Nat}{e e2:o0}{As cs:Nat->Nat}{M:Nat->Nat->Int}
def DU(k p i:Nat):Nat:=if i=k then p else if i=p then k else i
def V5{k p i n:Nat}(a:k<n)(b:p<n)(c:i<n):DU k p i<n:=by grind[DU]
end
def Eg(k:Nat)(l:Int)(M:Nat->Nat->Int)(i j:Nat):Int:=if k<i/\k<j then(M i j*M k k-M i k*M k j) / l else M i j
def Yu(k:Nat)(l:Int)(M:Nat->Nat->Int)(i j a b:Nat):Int:=if k<a/\k<b/\(a<i\/(a=i/\b<j))then(M a b*M k k-M a k*M k b) / l else M a b
def aA(k i:Nat):DU k k i=i:=by grind[DU]
def qQ(k p:Nat):DU k p k=p:=by simp[DU]
def wU{S k:Nat}{l a b c d:Int}(g:Zr a+3<=2^k*(S+3))(h:Zr b+3<=2^k*(S+3))(i:Zr c+3<=2^k*(S+3))(j:Zr d+3<=2^k*(S+3)):Zr ((a*b-c*d) / l)+3<=2^(k+1)*(S+3):=by
 obtain⟨T,f⟩:∃T,T=2^k*(S+3):=⟨_,rfl⟩
 have e:2^(k+1)*(S+3)=2*T:=by rw[R8,f,Ls (2^k) 2,R9]
 rw[<- f]at g h i j;rw[e];have m:Zr (a*b)<=T-3+(T-3):=Js x3 x3;have n:Zr (c*d)<=T-3+(T-3):=Js x3 x3;have o:=υ m n;have p:=J0 (Tj (a*b-c*d) l);omega
def yU{S k:Nat}{a:Int}(b:Zr a+3<=2^k*(S+3)):Zr a+3<=2^(k+1)*(S+3):=by
 grind[R9]
def qR{S k:Nat}{a:Int}(b:k<=8)(d:256*(S+3)<=100000000)(e:Zr a+3<=2^k*(S+3)):Zr a<=100000000:=by
 have c:2^k<=2^8:=Lh x4 b;have f:2^k*(S+3)<=2^8*(S+3):=Lt _ c;omega
def UT(k:Nat)(l:Int)(M:Nat->Nat->Int)(a b:Nat):M a b=Yu k l M (k+1) (k+1) a b:=by
 grind[Yu]
def jG(k:Nat)(l:Int)(M:Nat->Nat->Int)(i n b a:Nat)(c:a<n):Yu k l M i n b a=Yu k l M (i+1) (k+1) b a:=by
 grind[Yu]
def jE(k:Nat)(l:Int)(M:Nat->Nat->Int)(n a b:Nat)(c:a<n):Yu k l M n (k+1) a b=Eg k l M a b:=by
 grind[Yu,Eg]
def jF(k:Nat)(l:Int)(M:Nat->Nat->Int)(i j a b:Nat)(c:k<i)(d:k<j):(if a=i/\b=j then(M i j*M k k-M i k*M k j) / l else Yu k l M i j a b)=Yu k l M i (j+1) a b:=by
 grind[Yu]
def mM(k:Nat)(l:Int)(M:Nat->Nat->Int)(i j:Nat):Yu k l M i j i j=M i j:=by simp[Yu]
def Fk(k:Nat)(l:Int)(M:Nat->Nat->Int)(i j a:Nat):Yu k l M i j a k=M a k:=by simp[Yu]
def jH(k:Nat)(l:Int)(M:Nat->Nat->Int)(i j a:Nat):Yu k l M i j k a=M k a:=by simp[Yu]
