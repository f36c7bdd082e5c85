/- Laws beneath the statement. -/
import Derived.Test.YtoibldcmoapgbaaGreatDoorBP15
import Derived.Test.YtoibldcmoapgbaaGreatDoorBP16
namespace Go.Proofs.YtoibldcmoapgbaaGreatDoor
set_option linter.defProp false
def IK(k:Nat)(x:Int):Int:=if k % 2=1 then -x else x
def KI:Nat->(Nat->Nat->Int)->Int
 |0,_=>1
 |n+1,M=>VL (λk=>IK k (M 0 k*KI n (λi j=>M (bf 0 i) (bf k j)))) (n+1)
def qP(f:Nat->Int)(e:Int):∀n,SL (λk=>dy (f k) e) n=dy (VL f n) e
 |0=>(Jj _).symm
 |n+1=>by
  show SL _ n+dy (f n) e=dy (VL f n+f n) e;rw[qP f e n,PK]
def zf(k:Nat)(m e:Int):sO k (dy m e)=dy (IK k m) e:=by
 grind[sO,IK,bZ]
def mr(e:Int):∀(n:Nat) (M:Nat->Nat->Int),K4 n (λi j=>dy (M i j) e)=dy (KI n M) (e*n)
 |0,_=>by rw[show(e*((0:Nat):Int))=0 by simp];exact dy_one.symm
 |n+1,M=>by
  show SL (λk=>sO k (dy (M 0 k) e*K4 n (sn 0 k (λi j=>dy (M i j) e)))) (n+1)=_;have h:∀k,sO k (dy (M 0 k) e*K4 n (sn 0 k (λi j=>dy (M i j) e)))=dy (IK k (M 0 k*KI n (λi j=>M (bf 0 i) (bf k j)))) (e*((n+1:Nat):Int)):=λk=>by
   have a:K4 n (sn 0 k (λi j=>dy (M i j) e))=dy (KI n (λi j=>M (bf 0 i) (bf k j))) (e*n):=mr e n (λi j=>M (bf 0 i) (bf k j));rw[a,zK,zf];congr 1;rw[Int.natCast_add,Int.mul_add];simp;omega
  rw[funext h,qP];rfl
def d3(a b c d e f g h i:Int):Int:=a*(e*i-f*h)-b*(d*i-f*g)+c*(d*h-e*g)
def d4(m n o p a b c d e f g h i j k l:Int):Int :=
 m*d3 b c d f g h j k l-n*d3 a c d e g h i k l+o*d3 a b d e f h i j l-p*d3 a b c e f g i j k
theorem mq(A:Nat->Nat->Int):KI 1 A=A 0 0:=by
 simp[KI,VL,IK]
theorem bO(A:Nat->Nat->Int):KI 2 A=A 0 0*A 1 1-A 0 1*A 1 0:=by
 grind[KI,VL,IK,bf]
theorem bP(A:Nat->Nat->Int):KI 3 A=d3 (A 0 0) (A 0 1) (A 0 2) (A 1 0) (A 1 1) (A 1 2) (A 2 0) (A 2 1) (A 2 2):=by
 simp[KI,VL,IK,bf,d3];grind
theorem PD(A:Nat->Nat->Int):KI 4 A=d4 (A 0 0) (A 0 1) (A 0 2) (A 0 3) (A 1 0) (A 1 1) (A 1 2) (A 1 3) (A 2 0) (A 2 1) (A 2 2) (A 2 3) (A 3 0) (A 3 1) (A 3 2) (A 3 3):=by
 simp[KI,VL,IK,bf,d4,d3];grind
def mi:Nat->(Nat->Nat->Int)->Nat->Nat->Int
 |0,A,i,j=>A i j
 |1,A,i,j=>A i j*A 0 0-A i 0*A 0 j
 |2,A,i,j=>d3 (A 0 0) (A 0 1) (A 0 j) (A 1 0) (A 1 1) (A 1 j) (A i 0) (A i 1) (A i j)
 |_,A,i,j=>d4 (A 0 0) (A 0 1) (A 0 2) (A 0 j) (A 1 0) (A 1 1) (A 1 2) (A 1 j) (A 2 0) (A 2 1) (A 2 2) (A 2 j) (A i 0) (A i 1) (A i 2) (A i j)
def ls:Nat->(Nat->Nat->Int)->Int
 |0,_=>1
 |k+1,A=>mi k A k k
def P8(k:Nat)(a:k<3)(A:Nat->Nat->Int)(i j:Nat):mi k A i j*mi k A k k-mi k A i k*mi k A k j=mi (k+1) A i j*ls k A:=by
 have h:k=0\/k=1\/k=2:=x3;rcases h with rfl|rfl|rfl
 ·simp[mi,ls]
 ·simp only[mi,ls,d3];grind
 ·simp only[mi,ls,d3,d4];grind
theorem FH(n:Nat)(a:n<=4)(A:Nat->Nat->Int):ls n A=KI n A:=by
 have h:n=0\/n=1\/n=2\/n=3\/n=4:=x3;rcases h with rfl|rfl|rfl|rfl|rfl
 ·rfl
 all_goals grind[mq,bO,mi,ls,bP,PD]
def B6{a b:Int}(h:a*b=0)(c:b≠0):a=0:=by grind[Int.mul_eq_zero]
theorem mu(n k:Nat)(m:n<=4)(o:k<n)(A:Nat->Nat->Int)(h:∀q,k<=q->q<n->mi k A q k=0)(f:∀q,q<k->ls (q+1) A≠0):KI n A=0:=by
 have l:(n=1/\k=0)\/(n=2/\k=0)\/(n=2/\k=1)\/(n=3/\k=0)\/(n=3/\k=1)\/(n=3/\k=2)\/(n=4/\k=0)\/(n=4/\k=1)\/(n=4/\k=2)\/(n=4/\k=3):=x3;rcases l with⟨rfl,rfl⟩|⟨rfl,rfl⟩|⟨rfl,rfl⟩|⟨rfl,rfl⟩|⟨rfl,rfl⟩|⟨rfl,rfl⟩|⟨rfl,rfl⟩|⟨rfl,rfl⟩|⟨rfl,rfl⟩|⟨rfl,rfl⟩
 ·rw[mq];exact h 0 x4 x4
 ·have g:A 0 0=0:=h 0 x4 x4;have a:A 1 0=0:=h 1 x4 x4
  grind[bO]
 ·have a:=h 1 x4 x4;rw[<- FH 2 x4];exact a
 ·have g:A 0 0=0:=h 0 x4 x4;have a:A 1 0=0:=h 1 x4 x4;have b:A 2 0=0:=h 2 x4 x4
  grind[bP,d3]
 ·have a:=h 1 x4 x4;have b:=h 2 x4 x4;have c:=P8 1 x4 A 2 2;have d:ls 1 A≠0:=f 0 x4;rw[a,b]at c;rw[<- FH 3 x4];exact B6 (by rw[show ls 3 A=mi 2 A 2 2 from rfl,<- c];simp) d
 ·rw[<- FH 3 x4];exact h 2 x4 x4
 ·have g:A 0 0=0:=h 0 x4 x4;have a:A 1 0=0:=h 1 x4 x4;have b:A 2 0=0:=h 2 x4 x4;have c:A 3 0=0:=h 3 x4 x4;rw[PD,g,a,b,c];simp[d4,d3]
 ·have a:=h 1 x4 x4;have b:=h 2 x4 x4;have c:=h 3 x4 x4;have d:ls 1 A≠0:=f 0 x4;have key:KI 4 A*(ls 1 A*ls 1 A)=d3 (mi 1 A 1 1) (mi 1 A 1 2) (mi 1 A 1 3) (mi 1 A 2 1) (mi 1 A 2 2) (mi 1 A 2 3) (mi 1 A 3 1) (mi 1 A 3 2) (mi 1 A 3 3):=by
   rw[PD];simp only[mi,ls,d3,d4];grind
  rw[a,b,c]at key;exact B6 (by rw[key];simp[d3]) (λe=>d ((Int.mul_eq_zero.1 e).elim id id))
 ·have b:=h 2 x4 x4;have c:=h 3 x4 x4;have j:=P8 2 x4 A 3 3;have i:ls 2 A≠0:=f 1 x4;rw[b,c]at j;rw[<- FH 4 x4];exact B6 (by rw[show ls 4 A=mi 3 A 3 3 from rfl,<- j];simp) i
 ·rw[<- FH 4 x4];exact h 3 x4 x4
variable{k:Nat}
theorem Km{p r:Nat}(a:k<=p)(b:r<k):DU k p r=r:=by grind[DU]
theorem dC(k p:Nat)(a:k<4)(b:k<=p)(A:Nat->Nat->Int)(i j:Nat):mi k (λi j=>A (DU k p i) j) i j=mi k A (DU k p i) j:=by
 have h:k=0\/k=1\/k=2\/k=3:=x3
 grind[mi,Km]
theorem oe(k p q:Nat)(a:k<4)(b:k<=p)(c:q<=k)(A:Nat->Nat->Int):ls q (λi j=>A (DU k p i) j)=ls q A:=by
 have h:q=0\/(q=1/\1<=k)\/(q=2/\2<=k)\/(q=3/\3<=k):=x3
 grind[ls,mi,Km]
theorem tD(n k p:Nat)(b:n<=4)(c:k<p)(d:p<n)(A:Nat->Nat->Int):KI n (λi j=>A (DU k p i) j)=-KI n A:=by
 have a:(n=2/\k=0/\p=1)\/(n=3/\k=0/\p=1)\/(n=3/\k=0/\p=2)\/(n=3/\k=1/\p=2)\/(n=4/\k=0/\p=1)\/(n=4/\k=0/\p=2)\/(n=4/\k=0/\p=3)\/(n=4/\k=1/\p=2)\/(n=4/\k=1/\p=3)\/(n=4/\k=2/\p=3):=x3;rcases a with⟨rfl,rfl,rfl⟩|⟨rfl,rfl,rfl⟩|⟨rfl,rfl,rfl⟩|⟨rfl,rfl,rfl⟩|⟨rfl,rfl,rfl⟩|⟨rfl,rfl,rfl⟩|⟨rfl,rfl,rfl⟩|⟨rfl,rfl,rfl⟩|⟨rfl,rfl,rfl⟩|⟨rfl,rfl,rfl⟩ <;>
  simp only[bO,bP,PD,DU,d4,d3]<;>simp<;>grind
structure BInv (n S:Nat) (M0:Nat->Nat->Int) (k:Nat) (M:Nat->Nat->Int) (l:Int) (tb:Bool):Prop where
 at_:∃A:Nat->Nat->Int,(∀i j,k<=i->i<n->k<=j->j<n->M i j=mi k A i j)/\l=ls k A/\(∀q,q<k->ls (q+1) A≠0)/\KI n M0=if tb then -KI n A else KI n A
 sl:Zr l+3<=2^k*(S+3)
 sm:∀i j,i<n->j<n->Zr (M i j)+3<=2^k*(S+3)
theorem Qdz{A:Nat->Nat->Int}(h:∀q,q<k->ls (q+1) A≠0):ls k A≠0:=by
 rcases T5 k with a|a
 ·subst a;show(1:Int)≠0;decide
 ·obtain⟨q,rfl⟩:∃q,k=q+1:=⟨k-1,x3⟩
  grind
variable{a M:Nat->Nat->Int}{b:Bool}{S:Nat}
theorem BInv.ne{n:Nat}{l:Int}(h:BInv n S a k M l b):l≠0:=by
 let⟨A,_,d,c,_⟩:=h.at_
 grind[Qdz]
def BInv.start{n:Nat}(e:1<=S)(h:∀i j,i<n->j<n->Zr (a i j)<=S):BInv n S a 0 a 1 false :=
 ⟨⟨a,λ_ _ _ _ _ _=>rfl,rfl,λ_ b=>absurd b (R4 _),rfl⟩,by rw[Tx,Tl];have:Zr 1<=1:=DY x4;omega,λi j c d=>by rw[Tx,Tl];have:=h i j c d;omega⟩
theorem BInv.done{n:Nat}{l:Int}(h:BInv n S a n M l b)(c:n<=4):KI n a=if b then -l else l:=by
 let⟨A,_,d,_,e⟩:=h.at_
 grind[FH]
theorem BInv.zero{n:Nat}{l:Int}(h:BInv n S a k M l b)(d:n<=4)(e:k<n)(f:∀q,k<=q->q<n->M q k=0):KI n a=0:=by
 let⟨A,g,_,c,i⟩:=h.at_
 grind[mu]
def BInv.step{n:Nat}{y:Nat->Nat->Int}{p:Nat}{l:Int}{o:Bool}(h:BInv n S y k M l o)(z:n<=4)(b:k<n)(f:k<=p)(a:p<n)(t:M p k≠0):
  (∀i j,k<i->i<n->k<j->j<n->(M (DU k p i) j*M (DU k p k) k-M (DU k p i) k*M (DU k p k) j) % l=0)/\BInv n S y (k+1) (Eg k l (λi j=>M (DU k p i) j)) (M p k) (if p=k then o else !o):=by
 let⟨A,g,B,u,C⟩:=h.at_;have c:k<4:=x3;have r:∀i,k<=i->i<n->k<=DU k p i:=λi s d=>by unfold DU;split<;>(try split)<;>omega
 have e:∀i j,k<i->i<n->k<j->j<n->M (DU k p i) j*M (DU k p k) k-M (DU k p i) k*M (DU k p k) j=mi (k+1) (λi j=>A (DU k p i) j) i j*l:=λi j s d v m=>by
  simp only[g _ _ (r i x3 d) (V5 b a d) (show k<=j by omega) m,g _ _ (r k (L4 _) b) (V5 b a b) (L4 k) b,g _ _ (r i x3 d) (V5 b a d) (L4 k) b,g _ _ (r k (L4 _) b) (V5 b a b) (show k<=j by omega) m,<- dC k p c f A];rw[P8 k x3,oe k p k c f (L4 _),B]
 refine⟨λi j s d v m=>by rw[e i j s d v m];exact Int.mul_emod_left _ _,⟨λi j=>A (DU k p i) j,λi j s d v m=>?_,?_,λq D=>?_,?_⟩,yU (h.sm p k a b),λi j w x=>?_⟩
 ·unfold Eg;rw[if_pos x3,e i j x3 d x3 m];exact Int.mul_ediv_cancel _ h.ne
 ·rw[g p k f a (L4 _) b];show _=mi k (λi j=>A (DU k p i) j) k k;rw[dC k p c f,qQ]
 ·by_cases e:q=k
  ·subst e;show mi q (λi j=>A (DU q p i) j) q q≠0;rw[dC q p c f,qQ,<- g p q f a (L4 _) b];exact t
  ·rw[oe k p (q+1) c f x3];exact u q x3
 ·rw[C];by_cases e:p=k
  ·subst e;rw[if_pos rfl,show(λi j=>A (DU p p i) j)=A from funext λi=>funext λj=>by rw[aA]]
  ·rw[if_neg e,tD n k p z x3 a];cases o<;>simp
 ·unfold Eg;split
  ·exact wU (h.sm _ _ (V5 b a w) x) (h.sm _ _ (V5 b a b) b) (h.sm _ _ (V5 b a w) b) (h.sm _ _ (V5 b a b) x)
  ·exact yU (h.sm _ _ (V5 b a w) x)
theorem lJ(k:Nat)(x:Int):Zr (IK k x)=Zr x:=by
 grind[IK,H8]
theorem fj{S:Nat}:∀(n:Nat) (M:Nat->Nat->Int),(∀i j,Zr (M i j)<=S)->Zr (KI n M)<=S*n+(1+n*n)
 |0,_,_=>by show Zr 1<=_;exact L6 (DY (z:=1) (n:=1) x4) x3
 |n+1,M,h=>by
  have a:∀k,Zr (IK k (M 0 k*KI n (λi j=>M (bf 0 i) (bf k j))))<=S+(S*n+(1+n*n)):=λk=>by
   rw[lJ];exact Js (h 0 k) (fj n _ λi j=>h _ _)
  have b:=IP a (n+1);have c:S*(n+1)=S*n+S:=Nat.mul_succ S n;have d:(n+1)*(n+1)=n*n+n+n+1:=by grind
  show Zr (VL _ (n+1))<=_;omega
