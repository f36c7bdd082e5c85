/- Laws beneath the statement. -/
import Derived.Test.YtoibldcmoapgbaaGreatDoorQP13
import Derived.Test.YtoibldcmoapgbaaGreatDoorQP4
namespace Go.Proofs.YtoibldcmoapgbaaGreatDoor
open Go Go.RowKit
def OwnTT(w:y9)(base:Nat)(e e2:u6)(k:Nat)(v:z0)(n m:Nat)(F:Nat->Nat->a8): Prop :=
 ∃(As:Nat->u5) (cs:Nat->Nat),OwnK w base e 1 v n (λj=>[.slice (As j) m (cs j)])/\(∀j,j<n->OwnK w base e2 k (.slice (As j) m (cs j)) m (F j))/\(∀j a,j<n->As j=some a->v.ownBlock≠some a.block)/\(∀i j a b,i<n->j<n->i≠j->As i=some a->As j=some b->a.block≠b.block)
theorem OwnTT.nil_(w:y9)(base:Nat)(e e2:u6)(k m:Nat)(F:Nat->Nat->a8): OwnTT w base e e2 k (.slice none 0 0) 0 m F :=
 ⟨λ_=>none,λ_=>0,OwnK.nil_ _ _ _ _ _,λj a=>absurd a x3,λj _ a=>absurd a x3,λi _ _ _ b=>absurd b x3⟩
section
variable {P:Program} {w:World} {ops:Array Oper} {rest:List Oper} {o:Oper} {a:Act} {Q:Exit->Act->World->Prop}
theorem Fl(ae:o.guard=none)(s x:b8)(t:u6)(ho:o.op=.call { callee:=.builtin .append,args:=#[s,x],argTypes:=#[t,t] })(base:Nat)(e e2:u6)(z:z0)(k bytes:Nat)(ht:P.underlying t=some (.slice e))(E:(P.info? e).map (λi=>(i.zero,i.size,i.bytes))=some (some z,1,bytes))(ag:z.cells.size=1)(v:z0)(n m:Nat)(F:Nat->Nat->a8)(hs:a.eval s=v)(G:y9)(N:OwnTT G base e e2 k v n m F)(K:Below G.heap.size G w)(ad:Addr)(hx:a.eval x=.slice (some ad) 1 1)(al:ad.spot=none)(A:u5)(c:Nat)(H:w.cell? ad=some (.slice A m c))(D:OwnK w G.heap.size e2 k (.slice A m c) m (F n))(q:base<=G.heap.size)(bX:n+1<=9223372036854775807)(y:(n+1)*bytes<=140737488355328)(h:∀O w',OwnTT w' base e e2 k O (n+1) m F->Below base w w'->wpList P ops Q rest (a.put o.dst O) w'):
  wpList P ops Q (o::rest) a w:=by
 obtain⟨i,hi,hz,ao,aw⟩:=info_parts E;obtain⟨As,cs,h1,h2,h3,h4⟩:=N;obtain⟨blk,off,sl⟩:=ad;obtain rfl:sl=none:=al;have R:=OwnK.lt_ h1;have S:=h1.below K;have aB:=OwnK.lt_ S;have T:∀a,A=some a->G.heap.size<=a.block/\a.block<w.heap.size:=λa d=>OwnK.lt_ D a.block (by rw[d];rfl)
 have B:∀j a,j<n->As j=some a->a.block<G.heap.size:=λj a C d=>(OwnK.lt_ (h2 j C) a.block (by rw[d];rfl)).2
 refine wpList_append_own_at (P:=P) (w:=w) ae s x t ho base e i z 1 bytes ht hi hz ao aw ag x4 v n _ hs S ⟨blk,off,none⟩ 1 1 [.slice A m c] hx rfl ?_ ?_ (by unfold maxLen;omega) y (L9 q K.size) ?_
 ·intro j u C;have bd:j=0:=by
   rcases j with _|j
   ·rfl
   ·simp at C
  subst bd;simp at C;subst C;exact H
 ·intro u hu;simp at hu;subst hu;rfl
 ·intro O w' I U _ bi;have J:∀g,g<w.heap.size->v.ownBlock≠some g->w'.heap[g]?=w.heap[g]?:=λg p hn=>U.block g p (λe=>hn e.symm)
  have V:∀g,g<w.heap.size->v.ownBlock≠some g->O.ownBlock≠some g:=λg p hn L=>by
   rcases bi with W|W
   ·exact hn (W▸L)
   ·rw[W]at L;injection L with L;omega
  have X:∀(u:z0) (b':Nat) (f:Nat->a8),(∀g,u.ownBlock=some g->g<w.heap.size/\v.ownBlock≠some g)->OwnK w b' e2 k u m f->OwnK w' b' e2 k u m f:=λu b' f hu ⟨W,hr⟩=>by
   refine⟨W,?_⟩;rcases hr with hr|⟨g,cap,bk,e1,bl,hh,M⟩
   ·exact .inl hr
   ·have Y:=hu g (by rw[e1];rfl);exact .inr ⟨g,cap,bk,e1,bl,(J g Y.1 Y.2).trans hh,M⟩
  have Z:∀a,A=some a->v.ownBlock≠some a.block:=λa d L=>by have M:=(R _ L).2;have Y:=T a d;omega
  refine h O w' ⟨λj=>if j=n then A else As j,λj=>if j=n then c else cs j,?_,λj C=>?_,λj a C d=>?_,λi j a b hi C bs d r=>?_⟩ ((l3 _ _).grown U (L9 q K.size) (λk hk=>(aB k hk).1))
  ·have e1:Zp (λj=>[.slice (if j=n then A else As j) m (if j=n then c else cs j)]) (n+1)=Zp (λj=>[.slice (As j) m (cs j)]) n++[.slice A m c]:=by
    show Zp _ n++_=_;rw[KR (g:=λj=>[Value.slice (As j) m (cs j)]) (λj C=>by simp[show ¬ j=n by omega])];simp
   show World.ownsRow _ _ _ _ _ _ _;rw[e1];exact I
  ·by_cases e:j=n
   ·subst e;simp only[if_true];have M:=X _ _ _ (λg p=>by
     cases l:A with
     | none=>rw[l]at p;cases p
     | some a =>
      rw[l]at p;injection p with p
      subst p;exact⟨(T a l).2,Z a l⟩) D
    exact M.base_ q
   ·simp only[if_neg e];refine X _ _ _ (λg p=>?_) ((h2 j x3).below K);cases l:As j with
    | none=>rw[l]at p;cases p
    | some a =>
     rw[l]at p;injection p with p
     subst p;exact⟨Lb (B j a x3 l) K.size,h3 j a x3 l⟩
  ·by_cases e:j=n
   ·subst e;simp only[if_true]at d;exact V _ (T a d).2 (Z a d)
   ·simp only[if_neg e]at d;exact V _ (Lb (B j a x3 d) K.size) (h3 j a x3 d)
  ·by_cases e:i=n<;>by_cases e':j=n
   ·omega
   ·simp only[if_pos e]at d;simp only[if_neg e']at r;have M:=T a d;have Y:=B j b x3 r;omega
   ·simp only[if_neg e]at d;simp only[if_pos e']at r;have M:=T b r;have Y:=B i a x3 d;omega
   ·simp only[if_neg e]at d;simp only[if_neg e']at r;exact h4 i j a b x3 x3 bs d r
end
def DQ(f:Nat->Int)(j:Nat): a8:=[.bool (neg (f j)),.string (Qx (f j))]
structure TabI (w:World) (base top g n:Nat) (e e2:TypeId) (As cs:Nat->Nat) (M:Nat->Nat->Int):Prop where
 tb:base<=g/\g<top
 tc:∃T G,Cel w g e T G/\n<=T/\∀i,i<n->G i=.slice (some ⟨As i,0,none⟩) n (cs i)
 rb:∀i,i<n->base<=As i/\As i<top/\As i≠g/\n<=cs i
 rc:∀i,i<n->∃T F,Cel w (As i) e2 T F/\n*2<=T/\∀j,j<n->F (j*2)=.bool (neg (M i j))/\F (j*2+1)=.string (Qx (M i j))
 inj:∀i j,i<n->j<n->i≠j->As i≠As j
section
variable {w w':World} {base top g n:Nat} {e e2:TypeId} {As cs:Nat->Nat} {M:Nat->Nat->Int}
theorem TabI.keep(h:TabI w base top g n e e2 As cs M)(k:∀b,b<top->w'.heap[b]?=w.heap[b]?): TabI w' base top g n e e2 As cs M:=by
 obtain⟨c,⟨T,G,a,l,m⟩,d,o,p⟩:=h;have f:∀b t T F,b<top->Cel w b t T F->Cel w' b t T F:=λb t T F q ⟨cs,s,r⟩=>⟨cs,(k b q).trans s,r⟩
 exact⟨c,⟨T,G,f _ _ _ _ c.2 a,l,m⟩,d,λi j=>by
  obtain⟨T,F,a,r⟩:=o i j;exact⟨T,F,f _ _ _ _ (d i j).2.1 a,r⟩,p⟩
theorem TabI.later(h:TabI w base top g n e e2 As cs M)(a:Below w.heap.size w w')(d:top<=w.heap.size): TabI w' base top g n e e2 As cs M:=h.keep λb c=>a.block b x3
theorem TabI.far(h:TabI w base top g n e e2 As cs M){p:Addr}(a:top<=p.block)(u:z0): TabI (w.setCell p u) base top g n e e2 As cs M:=h.keep λb c=>S5 w p u b x3
theorem TabI.congr{a:Nat->Nat->Int}(h:TabI w base top g n e e2 As cs M)(d:∀i j,i<n->j<n->M i j=a i j): TabI w base top g n e e2 As cs a:=by
 obtain⟨f,k,l,m,o⟩:=h;refine⟨f,k,l,λi b=>?_,o⟩;obtain⟨T,F,p,q,r⟩:=m i b;exact⟨T,F,p,q,λj c=>by rw[<- d i j b c];exact r j c⟩
theorem TabI.row(h:TabI w base top g n e e2 As cs M){i:Nat}(b:i<n): w.cell? ⟨g,i,none⟩=some (.slice (some ⟨As i,0,none⟩) n (cs i))/\w.frozen? ⟨g,i,none⟩=false:=by
 obtain⟨T,G,a,d,c⟩:=h.tc;rw[<- c i b];exact⟨a.cell x3,a.frozen _⟩
theorem TabI.at(h:TabI w base top g n e e2 As cs M){i j:Nat}(b:i<n)(c:j<n): w.cell? ⟨As i,j*2,none⟩=some (.bool (neg (M i j)))/\w.cell? ⟨As i,j*2+1,none⟩=some (.string (Qx (M i j)))/\w.frozen? ⟨As i,j*2,none⟩=false/\w.frozen? ⟨As i,j*2+1,none⟩=false:=by
 obtain⟨T,F,a,l,d⟩:=h.rc i b;obtain⟨f,k⟩:=d j c;exact⟨f▸a.cell x3,k▸a.cell x3,a.frozen _,a.frozen _⟩
theorem TabI.put(h:TabI w base top g n e e2 As cs M){i j:Nat}(o:i<n)(E:j<n)(z:Int):
  TabI ((w.setCell ⟨As i,j*2,none⟩ (.bool (neg z))).setCell ⟨As i,j*2+1,none⟩ (.string (Qx z))) base top g n e e2 As cs (λa b=>if a=i/\b=j then z else M a b):=by
 obtain⟨v,⟨T,G,x,y,A⟩,s,B,q⟩:=h;have k:=s i o;refine⟨v,⟨T,G,(x.far (p:=⟨As i,j*2,none⟩) (λe=>k.2.2.1 e.symm) _).far (p:=⟨As i,j*2+1,none⟩) (λe=>k.2.2.1 e.symm) _,y,A⟩,s,λa c=>?_,q⟩;obtain⟨t,F,l,m,u⟩:=B a c;by_cases d:a=i
 ·subst d;refine⟨t,_,(l.set_ (j*2) _).set_ (j*2+1) _,m,λb f=>?_⟩;by_cases r:b=j
  ·subst r;simp
  ·obtain⟨C,D⟩:=u b f;rw[if_neg x3,if_neg x3,if_neg x3,if_neg x3,if_neg x3];exact⟨C,D⟩
 ·refine⟨t,F,(l.far (p:=⟨As i,j*2,none⟩) (q a i c o d) _).far (p:=⟨As i,j*2+1,none⟩) (q a i c o d) _,m,λb f=>?_⟩;rw[if_neg x3];exact u b f
def GB(k p i:Nat): Nat:=if i=k then p else if i=p then k else i
theorem Ki{k p i n:Nat}(a:k<n)(b:p<n)(c:i<n): GB k p i<n:=by unfold GB;split<;>(try split)<;>omega
theorem wk{k p i j:Nat}(h:i≠j): GB k p i≠GB k p j:=by
 unfold GB;split<;>(try split)<;>(try split)<;>(try split)<;>omega
theorem TabI.swap(h:TabI w base top g n e e2 As cs M){k p:Nat}(d:k<n)(f:p<n):
  TabI ((w.setCell ⟨g,k,none⟩ (.slice (some ⟨As p,0,none⟩) n (cs p))).setCell ⟨g,p,none⟩ (.slice (some ⟨As k,0,none⟩) n (cs k))) base top g n e e2 (λi=>As (GB k p i)) (λi=>cs (GB k p i)) (λi j=>M (GB k p i) j):=by
 obtain⟨s,⟨T,G,t,u,v⟩,l,x,y⟩:=h;refine⟨s,⟨T,_,(t.set_ k _).set_ p _,u,λi c=>?_⟩,λi c=>l _ (Ki d f c),λi c=>?_,λi j c z m=>y _ _ (Ki d f c) (Ki d f z) (wk m)⟩
 ·unfold GB;by_cases a:i=k<;>by_cases b:i=p
  ·subst a;subst b;simp
  ·subst a;simp[b]
  ·subst b;simp[a]
  ·simp only[if_neg a,if_neg b];exact v i c
 ·have o:=Ki d f c;obtain⟨A,F,q,r⟩:=x _ o;exact⟨A,F,(q.far (p:=⟨g,k,none⟩) (l _ o).2.2.1 _).far (p:=⟨g,p,none⟩) (l _ o).2.2.1 _,r⟩
theorem OwnTT.tab{v:z0}(h:OwnTT w base e e2 2 v n n (λi=>DQ (M i)))(K:0<n): ∃g c As cs,v=.slice (some ⟨g,0,none⟩) n c/\n<=c/\TabI w base w.heap.size g n e e2 As cs M:=by
 obtain⟨As,cs,y,q,C,D⟩:=h;obtain⟨g,c,rfl⟩:∃g c,v=.slice (some ⟨g,0,none⟩) n c:=by
  rcases y.2 with⟨_,E⟩|⟨g,cap,r,rfl,_⟩
  ·omega
  ·exact⟨g,cap,rfl⟩
 obtain⟨G,z,s,_,t,H⟩:=OwnK.cel (k:=1) (λ_=>rfl) y;have key:∀i,i<n->∃b,As i=some ⟨b,0,none⟩:=λi a=>by
  rcases(q i a).2 with⟨_,E⟩|⟨b,cap,r,f,_⟩
  ·omega
  ·injection f with f
   exact⟨b,f⟩
 have m:∀i,i<n->As i=some ⟨((As i).getD ⟨0,0,none⟩).block,0,none⟩:=λi a=>by
  obtain⟨b,f⟩:=key i a;rw[f];rfl
 refine⟨g,c,λi=>((As i).getD ⟨0,0,none⟩).block,cs,rfl,s,⟨t,z.lt⟩,⟨c*1,G,z,x3,λi a=>?_⟩,λi a=>?_,λi a=>?_,λi j a o u=>D i j ⟨_,0,none⟩ ⟨_,0,none⟩ a o u (m i a) (m j o)⟩
 ·have A:=H i a 0 x4;rw[Sm,Sw]at A;rw[<- m i a];simpa using A.symm
 ·have p:=q i a;rw[m i a]at p;obtain⟨F,l,d,_,x,_⟩:=OwnK.cel (k:=2) (λ_=>rfl) p;exact⟨x,l.lt,λf=>C i _ a (m i a) (by rw[<- f];rfl),d⟩
 ·have p:=q i a;rw[m i a]at p;obtain⟨F,l,d,_,_,B⟩:=OwnK.cel (k:=2) (λ_=>rfl) p;refine⟨_,F,l,Lo 2 d,λj o=>?_⟩;have I:=B j o 0 x4;have J:=B j o 1 x4;exact⟨by simpa [DQ]using I.symm,by simpa [DQ]using J.symm⟩
end
def AX(k:Nat)(l:Int)(M:Nat->Nat->Int)(i j:Nat): Int:=if k<i/\k<j then(M i j*M k k-M i k*M k j) / l else M i j
def JT(k:Nat)(l:Int)(M:Nat->Nat->Int)(i j a b:Nat): Int:=if k<a/\k<b/\(a<i\/(a=i/\b<j))then(M a b*M k k-M a k*M k b) / l else M a b
theorem TA(k i:Nat): GB k k i=i:=by unfold GB;split<;>(try split)<;>omega
theorem l8(k p:Nat): GB k p k=p:=by unfold GB;rw[if_pos rfl]
theorem re{S k:Nat}{l a b c d:Int}(g:Zq a+3<=2^k*(S+3))(h:Zq b+3<=2^k*(S+3))(i:Zq c+3<=2^k*(S+3))(j:Zq d+3<=2^k*(S+3)): Zq ((a*b-c*d) / l)+3<=2^(k+1)*(S+3):=by
 obtain⟨T,f⟩:∃T,T=2^k*(S+3):=⟨_,rfl⟩
 have e:2^(k+1)*(S+3)=2*T:=by rw[R9,f,Ls (2^k) 2,R5]
 rw[<- f]at g h i j;rw[e];have m:Zq (a*b)<=T-3+(T-3):=ZZ x3 x3;have n:Zq (c*d)<=T-3+(T-3):=ZZ x3 x3;have o:=F2 m n;have p:=KG (Tu (a*b-c*d) l);omega
theorem s6{S k:Nat}{a:Int}(b:Zq a+3<=2^k*(S+3)): Zq a+3<=2^(k+1)*(S+3):=by
 have e:2^(k+1)*(S+3)=2*(2^k*(S+3)):=by rw[R9,Ls (2^k) 2,R5]
 omega
theorem l9{S k:Nat}{a:Int}(b:k<=8)(d:256*(S+3)<=100000000)(e:Zq a+3<=2^k*(S+3)): Zq a<=100000000:=by
 have c:2^k<=2^8:=Li x4 b;have f:2^k*(S+3)<=2^8*(S+3):=Lo _ c;omega
theorem PG(k:Nat)(l:Int)(M:Nat->Nat->Int)(a b:Nat): M a b=JT k l M (k+1) (k+1) a b:=by
 unfold JT;rw[if_neg x3]
theorem eQ(k:Nat)(l:Int)(M:Nat->Nat->Int)(i n a b:Nat)(c:b<n): JT k l M i n a b=JT k l M (i+1) (k+1) a b:=by
 unfold JT;by_cases h:k<a/\k<b/\(a<i\/(a=i/\b<n))
 ·rw[if_pos h,if_pos x3]
 ·rw[if_neg h,if_neg x3]
theorem eN(k:Nat)(l:Int)(M:Nat->Nat->Int)(n a b:Nat)(c:a<n): JT k l M n (k+1) a b=AX k l M a b:=by
 unfold JT AX;by_cases h:k<a/\k<b
 ·rw[if_pos h,if_pos x3]
 ·rw[if_neg h,if_neg x3]
theorem eP(k:Nat)(l:Int)(M:Nat->Nat->Int)(i j a b:Nat)(d:k<i)(e:k<j): (if a=i/\b=j then(M i j*M k k-M i k*M k j) / l else JT k l M i j a b)=JT k l M i (j+1) a b:=by
 unfold JT;by_cases h:a=i/\b=j
 ·obtain⟨rfl,rfl⟩:=h;rw[if_pos ⟨rfl,rfl⟩,if_pos x3]
 ·rw[if_neg h];by_cases c:k<a/\k<b/\(a<i\/(a=i/\b<j))
  ·rw[if_pos c,if_pos x3]
  ·rw[if_neg c,if_neg x3]
theorem i6(k:Nat)(l:Int)(M:Nat->Nat->Int)(i j:Nat): JT k l M i j i j=M i j:=by unfold JT;rw[if_neg x3]
theorem eO(k:Nat)(l:Int)(M:Nat->Nat->Int)(i j a:Nat): JT k l M i j a k=M a k:=by unfold JT;rw[if_neg x3]
theorem eR(k:Nat)(l:Int)(M:Nat->Nat->Int)(i j a:Nat): JT k l M i j k a=M k a:=by unfold JT;rw[if_neg x3]
theorem oa(k:Nat)(l:Int)(M:Nat->Nat->Int): AX k l M k k=M k k:=by unfold AX;rw[if_neg x3]
theorem fe(M:Nat->Nat->Int)(k m:Nat): ∃d,d<=m/\(∀j,j<d->M (k+j) k=0)/\(d<m->M (k+d) k≠0):=by
 induction m with
 | zero=>exact⟨0,L8 _,λj f=>absurd f x3,λh=>absurd h x3⟩
 | succ m i =>
  obtain⟨d,a,b,c⟩:=i;by_cases h:d<m
  ·exact⟨d,x3,b,λ_=>c h⟩
  ·obtain rfl:d=m:=x3;by_cases g:M (k+d) k=0
   ·refine⟨d+1,L8 _,λj f=>?_,λh=>absurd h x3⟩;by_cases e:j=d
    ·subst e;exact g
    ·exact b j x3
   ·exact⟨d,x3,b,λ_=>g⟩
