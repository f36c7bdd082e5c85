/- Laws beneath the statement. -/
import Derived.Test.YtemkmhpfjefbmaaGreatDoorLP13
import Derived.Test.YtemkmhpfjefbmaaGreatDoorLP10
namespace Go.Proofs.YtemkmhpfjefbmaaGreatDoor
set_option linter.defProp false
section
def bf(r i:Nat):Nat:=if i<r then i else i+1
def sn(r q:Nat)(a:Nat->Nat->Dyadic):Nat->Nat->Dyadic:=λi j=>a (bf r i) (bf q j)
def sO(k:Nat)(x:Dyadic):Dyadic:=if k % 2=1 then -x else x
def K4:Nat->(Nat->Nat->Dyadic)->Dyadic
 |0,_=>1
 |n+1,a=>SL (λk=>sO k (a 0 k*K4 n (sn 0 k a))) (n+1)
variable{L T:Nat}
theorem Ga{x:Dyadic}(k:Nat)(h:DB L T x):DB L T (sO k x):=by
 grind[sO,zx]
def Z8{n:Nat}(a:n+1<=8)(h:(L+T+8)*8<=1000000):L*(n+1)+((T+8)*(n+1)+1)<=1000001:=by
 rw[<- Sf,<- S8];have b:(L+(T+8))*(n+1)<=(L+(T+8))*8:=Rb _ a;omega
theorem Gd{L T:Nat}:∀(n:Nat) (a:Nat->Nat->Dyadic),n<=8->(∀i j,DB L T (a i j))->DB (L*n) ((T+8)*n+1) (K4 n a)
 |0,_,_,_=>by rw[Nat.mul_zero,Nat.mul_zero];exact km
 |n+1,a,c,h=>by
  have b:∀k,DB (L*(n+1)) (T+((T+8)*n+1)) (sO k (a 0 k*K4 n (sn 0 k a))):=λk=>by
   have d:=Ma (h 0 k) (Gd n (sn 0 k a) x3 (λi j=>h _ _))
   grind[Ga]
  exact UJ (Ml b (n+1)) (L4 _) (by rw[Rp];omega)
variable{a:Nat->Nat->Dyadic}
def gz{n:Nat}(b:n+1<=8)(h:∀i j,DB L T (a i j))(k:Nat):DB (L*(n+1)) ((T+8)*(n+1)+1) (a 0 k*K4 n (sn 0 k a)) :=
 UJ (Ma (h 0 k) (Gd n (sn 0 k a) x3 (λi j=>h _ _))) (by rw[Rp];omega) (by rw[Rp];omega)
theorem Dz{n:Nat}(c:n+1<=8)(h:∀i j,DB L T (a i j))(k:Nat)(d:k<=8):DB (L*(n+1)) ((T+8)*(n+1)+1) (SL (λk=>sO k (a 0 k*K4 n (sn 0 k a))) k):=by
 have b:∀k,DB (L*(n+1)) (T+((T+8)*n+1)) (sO k (a 0 k*K4 n (sn 0 k a))):=λk=>by
  have e:=Ma (h 0 k) (Gd n (sn 0 k a) x3 (λi j=>h _ _))
  grind[Ga]
 exact UJ (Ml b k) (L4 _) (by rw[Rp];omega)
end
section
def IK(k:Nat)(x:Int):Int:=if k % 2=1 then -x else x
def KI:Nat->(Nat->Nat->Int)->Int
 |0,_=>1
 |n+1,M=>VL (λk=>IK k (M 0 k*KI n (λi j=>M (bf 0 i) (bf k j)))) (n+1)
def qP(f:Nat->Int)(e:Int):∀n,SL (λk=>dy (f k) e) n=dy (VL f n) e
 |0=>(Jj _).symm
 |n+1=>by
  show SL _ n+dy (f n) e=dy (VL f n+f n) e;rw[qP f e n,PK]
def zf(k:Nat)(m e:Int):sO k (dy m e)=dy (IK k m) e:=by
 grind[sO,IK,bZ]
def mr(e:Int):∀(n:Nat) (M:Nat->Nat->Int),K4 n (λi j=>dy (M i j) e)=dy (KI n M) (e*n)
 |0,_=>by rw[show(e*((0:Nat):Int))=0 by simp];exact dy_one.symm
 |n+1,M=>by
  show SL (λk=>sO k (dy (M 0 k) e*K4 n (sn 0 k (λi j=>dy (M i j) e)))) (n+1)=_;have h:∀k,sO k (dy (M 0 k) e*K4 n (sn 0 k (λi j=>dy (M i j) e)))=dy (IK k (M 0 k*KI n (λi j=>M (bf 0 i) (bf k j)))) (e*((n+1:Nat):Int)):=λk=>by
   have a:K4 n (sn 0 k (λi j=>dy (M i j) e))=dy (KI n (λi j=>M (bf 0 i) (bf k j))) (e*n):=mr e n (λi j=>M (bf 0 i) (bf k j));rw[a,zK,zf];congr 1;rw[Int.natCast_add,Int.mul_add];simp;omega
  rw[funext h,qP];rfl
def d3(a b c d e f g h i:Int):Int:=a*(e*i-f*h)-b*(d*i-f*g)+c*(d*h-e*g)
def d4(m n o p a b c d e f g h i j k l:Int):Int :=
 m*d3 b c d f g h j k l-n*d3 a c d e g h i k l+o*d3 a b d e f h i j l-p*d3 a b c e f g i j k
theorem mq(A:Nat->Nat->Int):KI 1 A=A 0 0:=by
 simp[KI,VL,IK]
theorem bO(A:Nat->Nat->Int):KI 2 A=A 0 0*A 1 1-A 0 1*A 1 0:=by
 grind[KI,VL,IK,bf]
theorem bP(A:Nat->Nat->Int):KI 3 A=d3 (A 0 0) (A 0 1) (A 0 2) (A 1 0) (A 1 1) (A 1 2) (A 2 0) (A 2 1) (A 2 2):=by
 simp[KI,VL,IK,bf,d3];grind
theorem PD(A:Nat->Nat->Int):KI 4 A=d4 (A 0 0) (A 0 1) (A 0 2) (A 0 3) (A 1 0) (A 1 1) (A 1 2) (A 1 3) (A 2 0) (A 2 1) (A 2 2) (A 2 3) (A 3 0) (A 3 1) (A 3 2) (A 3 3):=by
 simp[KI,VL,IK,bf,d4,d3];grind
def mi:Nat->(Nat->Nat->Int)->Nat->Nat->Int
 |0,A,i,j=>A i j
 |1,A,i,j=>A i j*A 0 0-A i 0*A 0 j
 |2,A,i,j=>d3 (A 0 0) (A 0 1) (A 0 j) (A 1 0) (A 1 1) (A 1 j) (A i 0) (A i 1) (A i j)
 |_,A,i,j=>d4 (A 0 0) (A 0 1) (A 0 2) (A 0 j) (A 1 0) (A 1 1) (A 1 2) (A 1 j) (A 2 0) (A 2 1) (A 2 2) (A 2 j) (A i 0) (A i 1) (A i 2) (A i j)
def ls:Nat->(Nat->Nat->Int)->Int
 |0,_=>1
 |k+1,A=>mi k A k k
def P8(k:Nat)(a:k<3)(A:Nat->Nat->Int)(i j:Nat):mi k A i j*mi k A k k-mi k A i k*mi k A k j=mi (k+1) A i j*ls k A:=by
 have h:k=0\/k=1\/k=2:=x3;rcases h with rfl|rfl|rfl
 ·simp[mi,ls]
 ·simp only[mi,ls,d3];grind
 ·simp only[mi,ls,d3,d4];grind
theorem FH(n:Nat)(a:n<=4)(A:Nat->Nat->Int):ls n A=KI n A:=by
 have h:n=0\/n=1\/n=2\/n=3\/n=4:=x3;rcases h with rfl|rfl|rfl|rfl|rfl
 ·rfl
 all_goals grind[mq,bO,mi,ls,bP,PD]
def B6{a b:Int}(h:a*b=0)(c:b≠0):a=0:=by grind[Int.mul_eq_zero]
theorem mu(n k:Nat)(m:n<=4)(o:k<n)(A:Nat->Nat->Int)(h:∀q,k<=q->q<n->mi k A q k=0)(f:∀q,q<k->ls (q+1) A≠0):KI n A=0:=by
 have l:(n=1/\k=0)\/(n=2/\k=0)\/(n=2/\k=1)\/(n=3/\k=0)\/(n=3/\k=1)\/(n=3/\k=2)\/(n=4/\k=0)\/(n=4/\k=1)\/(n=4/\k=2)\/(n=4/\k=3):=x3;rcases l with⟨rfl,rfl⟩|⟨rfl,rfl⟩|⟨rfl,rfl⟩|⟨rfl,rfl⟩|⟨rfl,rfl⟩|⟨rfl,rfl⟩|⟨rfl,rfl⟩|⟨rfl,rfl⟩|⟨rfl,rfl⟩|⟨rfl,rfl⟩
 ·rw[mq];exact h 0 x4 x4
 ·have g:A 0 0=0:=h 0 x4 x4;have a:A 1 0=0:=h 1 x4 x4
  grind[bO]
 ·have a:=h 1 x4 x4;rw[<- FH 2 x4];exact a
 ·have g:A 0 0=0:=h 0 x4 x4;have a:A 1 0=0:=h 1 x4 x4;have b:A 2 0=0:=h 2 x4 x4
  grind[bP,d3]
 ·have a:=h 1 x4 x4;have b:=h 2 x4 x4;have c:=P8 1 x4 A 2 2;have d:ls 1 A≠0:=f 0 x4;rw[a,b]at c;rw[<- FH 3 x4];exact B6 (by rw[show ls 3 A=mi 2 A 2 2 from rfl,<- c];simp) d
 ·rw[<- FH 3 x4];exact h 2 x4 x4
 ·have g:A 0 0=0:=h 0 x4 x4;have a:A 1 0=0:=h 1 x4 x4;have b:A 2 0=0:=h 2 x4 x4;have c:A 3 0=0:=h 3 x4 x4;rw[PD,g,a,b,c];simp[d4,d3]
 ·have a:=h 1 x4 x4;have b:=h 2 x4 x4;have c:=h 3 x4 x4;have d:ls 1 A≠0:=f 0 x4;have key:KI 4 A*(ls 1 A*ls 1 A)=d3 (mi 1 A 1 1) (mi 1 A 1 2) (mi 1 A 1 3) (mi 1 A 2 1) (mi 1 A 2 2) (mi 1 A 2 3) (mi 1 A 3 1) (mi 1 A 3 2) (mi 1 A 3 3):=by
   rw[PD];simp only[mi,ls,d3,d4];grind
  rw[a,b,c]at key;exact B6 (by rw[key];simp[d3]) (λe=>d ((Int.mul_eq_zero.1 e).elim id id))
 ·have b:=h 2 x4 x4;have c:=h 3 x4 x4;have j:=P8 2 x4 A 3 3;have i:ls 2 A≠0:=f 1 x4;rw[b,c]at j;rw[<- FH 4 x4];exact B6 (by rw[show ls 4 A=mi 3 A 3 3 from rfl,<- j];simp) i
 ·rw[<- FH 4 x4];exact h 3 x4 x4
variable{k:Nat}
theorem Km{p r:Nat}(a:k<=p)(b:r<k):DU k p r=r:=by grind[DU]
theorem dC(k p:Nat)(a:k<4)(b:k<=p)(A:Nat->Nat->Int)(i j:Nat):mi k (λi j=>A (DU k p i) j) i j=mi k A (DU k p i) j:=by
 have h:k=0\/k=1\/k=2\/k=3:=x3
 grind[mi,Km]
theorem oe(k p q:Nat)(a:k<4)(b:k<=p)(c:q<=k)(A:Nat->Nat->Int):ls q (λi j=>A (DU k p i) j)=ls q A:=by
 have h:q=0\/(q=1/\1<=k)\/(q=2/\2<=k)\/(q=3/\3<=k):=x3
 grind[ls,mi,Km]
theorem tD(n k p:Nat)(b:n<=4)(c:k<p)(d:p<n)(A:Nat->Nat->Int):KI n (λi j=>A (DU k p i) j)=-KI n A:=by
 have a:(n=2/\k=0/\p=1)\/(n=3/\k=0/\p=1)\/(n=3/\k=0/\p=2)\/(n=3/\k=1/\p=2)\/(n=4/\k=0/\p=1)\/(n=4/\k=0/\p=2)\/(n=4/\k=0/\p=3)\/(n=4/\k=1/\p=2)\/(n=4/\k=1/\p=3)\/(n=4/\k=2/\p=3):=x3;rcases a with⟨rfl,rfl,rfl⟩|⟨rfl,rfl,rfl⟩|⟨rfl,rfl,rfl⟩|⟨rfl,rfl,rfl⟩|⟨rfl,rfl,rfl⟩|⟨rfl,rfl,rfl⟩|⟨rfl,rfl,rfl⟩|⟨rfl,rfl,rfl⟩|⟨rfl,rfl,rfl⟩|⟨rfl,rfl,rfl⟩ <;>
  simp only[bO,bP,PD,DU,d4,d3]<;>simp<;>grind
structure BInv (n S:Nat) (M0:Nat->Nat->Int) (k:Nat) (M:Nat->Nat->Int) (l:Int) (tb:Bool):Prop where
 at_:∃A:Nat->Nat->Int,(∀i j,k<=i->i<n->k<=j->j<n->M i j=mi k A i j)/\l=ls k A/\(∀q,q<k->ls (q+1) A≠0)/\KI n M0=if tb then -KI n A else KI n A
 sl:Zr l+3<=2^k*(S+3)
 sm:∀i j,i<n->j<n->Zr (M i j)+3<=2^k*(S+3)
theorem Qdz{A:Nat->Nat->Int}(h:∀q,q<k->ls (q+1) A≠0):ls k A≠0:=by
 rcases T5 k with a|a
 ·subst a;show(1:Int)≠0;decide
 ·obtain⟨q,rfl⟩:∃q,k=q+1:=⟨k-1,x3⟩
  grind
variable{a M:Nat->Nat->Int}{b:Bool}{S:Nat}{l:Int}
theorem BInv.ne{n:Nat}(h:BInv n S a k M l b):l≠0:=by
 let⟨A,_,d,c,_⟩:=h.at_
 grind[Qdz]
def BInv.start{n:Nat}(e:1<=S)(h:∀i j,i<n->j<n->Zr (a i j)<=S):BInv n S a 0 a 1 false :=
 ⟨⟨a,λ_ _ _ _ _ _=>rfl,rfl,λ_ b=>absurd b (R4 _),rfl⟩,by rw[Tx,Tl];have:Zr 1<=1:=DY x4;omega,λi j c d=>by rw[Tx,Tl];have:=h i j c d;omega⟩
theorem BInv.done{n:Nat}(h:BInv n S a n M l b)(c:n<=4):KI n a=if b then -l else l:=by
 let⟨A,_,d,_,e⟩:=h.at_
 grind[FH]
theorem BInv.zero{n:Nat}(h:BInv n S a k M l b)(d:n<=4)(e:k<n)(f:∀q,k<=q->q<n->M q k=0):KI n a=0:=by
 let⟨A,g,_,c,i⟩:=h.at_
 grind[mu]
def BInv.step{n:Nat}{y:Nat->Nat->Int}{p:Nat}{o:Bool}(h:BInv n S y k M l o)(z:n<=4)(b:k<n)(f:k<=p)(a:p<n)(t:M p k≠0):
  (∀i j,k<i->i<n->k<j->j<n->(M (DU k p i) j*M (DU k p k) k-M (DU k p i) k*M (DU k p k) j) % l=0)/\BInv n S y (k+1) (Eg k l (λi j=>M (DU k p i) j)) (M p k) (if p=k then o else !o):=by
 let⟨A,g,B,u,C⟩:=h.at_;have c:k<4:=x3;have r:∀i,k<=i->i<n->k<=DU k p i:=λi s d=>by unfold DU;split<;>(try split)<;>omega
 have e:∀i j,k<i->i<n->k<j->j<n->M (DU k p i) j*M (DU k p k) k-M (DU k p i) k*M (DU k p k) j=mi (k+1) (λi j=>A (DU k p i) j) i j*l:=λi j s d v m=>by
  simp only[g _ _ (r i x3 d) (Yy b a d) (show k<=j by omega) m,g _ _ (r k (L4 _) b) (Yy b a b) (L4 k) b,g _ _ (r i x3 d) (Yy b a d) (L4 k) b,g _ _ (r k (L4 _) b) (Yy b a b) (show k<=j by omega) m,<- dC k p c f A];rw[P8 k x3,oe k p k c f (L4 _),B]
 refine⟨λi j s d v m=>by rw[e i j s d v m];exact Int.mul_emod_left _ _,⟨λi j=>A (DU k p i) j,λi j s d v m=>?_,?_,λq D=>?_,?_⟩,yU (h.sm p k a b),λi j w x=>?_⟩
 ·unfold Eg;rw[if_pos x3,e i j x3 d x3 m];exact Int.mul_ediv_cancel _ h.ne
 ·rw[g p k f a (L4 _) b];show _=mi k (λi j=>A (DU k p i) j) k k;rw[dC k p c f,gu]
 ·by_cases e:q=k
  ·subst e;show mi q (λi j=>A (DU q p i) j) q q≠0;rw[dC q p c f,gu,<- g p q f a (L4 _) b];exact t
  ·rw[oe k p (q+1) c f x3];exact u q x3
 ·rw[C];by_cases e:p=k
  ·subst e;rw[if_pos rfl,show(λi j=>A (DU p p i) j)=A from funext λi=>funext λj=>by rw[aA]]
  ·rw[if_neg e,tD n k p z x3 a];cases o<;>simp
 ·unfold Eg;split
  ·exact wU (h.sm _ _ (Yy b a w) x) (h.sm _ _ (Yy b a b) b) (h.sm _ _ (Yy b a w) b) (h.sm _ _ (Yy b a b) x)
  ·exact yU (h.sm _ _ (Yy b a w) x)
theorem lJ(k:Nat)(x:Int):Zr (IK k x)=Zr x:=by
 grind[IK,H8]
theorem fj{S:Nat}:∀(n:Nat) (M:Nat->Nat->Int),(∀i j,Zr (M i j)<=S)->Zr (KI n M)<=S*n+(1+n*n)
 |0,_,_=>by show Zr 1<=_;exact L6 (DY (z:=1) (n:=1) x4) x3
 |n+1,M,h=>by
  have a:∀k,Zr (IK k (M 0 k*KI n (λi j=>M (bf 0 i) (bf k j))))<=S+(S*n+(1+n*n)):=λk=>by
   rw[lJ];exact Js (h 0 k) (fj n _ λi j=>h _ _)
  have b:=IP a (n+1);have c:S*(n+1)=S*n+S:=Nat.mul_succ S n;have d:(n+1)*(n+1)=n*n+n+n+1:=by grind
  show Zr (VL _ (n+1))<=_;omega
end
section
open Go Go.RowKit
def QcH{B c:Nat}{a d e:xH}(h:Below B a d)(f:Below c d e)(b:B<=c):Below B a e:=h.trans (f.mono b)
def QcR(bs:Nat->Bool)(a:Nat->xM)(b:Nat->Int)(j:Nat):o3:=[.bool (bs j),.string (a j),.int .i64 (b j)]
def RdK.num{w:xH}{A:xN}{n:Nat}{bs:Nat->Bool}{d:Nat->xM}{e:Nat->Int}(h:RdK w A n 3 (QcR bs d e)):sH w A n bs d e:=λf=>by
 obtain⟨b,off,rfl,a⟩:=h f;exact⟨b,off,rfl,λj c=>⟨a j c 0 x4,a j c 1 x4,a j c 2 x4⟩⟩
def RdM(w:xH)(A:xN)(n:Nat)(a:Nat->Nat)(bs:Nat->Nat->Bool)(b:Nat->Nat->xM)(c:Nat->Nat->Int):Prop:=RdT w A n 3 a (λi=>QcR (bs i) (b i) (c i))
def RdM.below{w a:xH}{A:xN}{n:Nat}{b:Nat->Nat}{bs:Nat->Nat->Bool}{c:Nat->Nat->xM}{d:Nat->Nat->Int}(h:RdM w A n b bs c d)(e:Below w.heap.size w a):RdM a A n b bs c d:=RdT.below (λ_ _=>rfl) h e
end
section
open Tryz
open Go Go.RowKit
def bj{x:Dyadic}{L T:Nat}{w:xH}(h:DB L T x)(a:L+T<=4000000):
  xP prog 170 #[.agg #[.bool (neg (dm x)),.string (QJ (dm x)),.int .i64 (de x)]] w (.agg #[.bool (neg (dm (-x))),.string (QJ (dm (-x))),.int .i64 (de (-x))]):=by
 have d:=G8 h;have e:=Ic h;have c:=Cz (QJ (dm x)) (neg (dm x)) (de x) w x3 x3 x3;rw[Xp,F8]at c;exact c
end
section
open Tryz
set_option maxHeartbeats 4000000
set_option maxRecDepth 100000
open Go Go.RowKit
def nz:(prog.info? 30).map (λi=>(i.zero,i.size,i.bytes))=some (some (.agg #[Ξ false,x00]),2,24):=x5
def RI:(prog.info? 248).map (λi=>(i.zero,i.size,i.bytes))=some (some (x01),1,24):=x5
def ab(b:Bool)(s:xM)(e:Int)(W:xH):(Instr.field 32 (.agg #[Ξ b,Ψ s,Θ e]) 1).run prog W=.ok (Θ e) W:=x5
def lT(f:Nat->Int)(j:Nat)(u:y9)(h:u∈CK f j):u.oneCell'=true:=by
 simp[CK]at h;rcases h with rfl|rfl<;>rfl
def UH{b:Bool}{s:xM}{e:Int}{x:Dyadic}(a:ND b s e x)(W:xH)(d:TabAt 4 Lib.deBruijn64tab W):
  xP prog 59 #[.agg #[.bool b,.string s,.int .i64 e]] W (.agg #[.bool (neg (dm x)),.string (QJ (dm x)),.int .i64 (de x)]):=by
 have g:=a.size;have h:=a.lo;have i:=a.hi;have c:=KA s b e W x3 x3 x3 d;rw[a.val]at c;exact c
def zI(low:Int)(a:Nat->Nat->Dyadic)(i j:Nat):Int:=XA (dm (a i j)) (de (a i j)-low)
def qv(z n:Int)(W:xH)(c:(QJ z).size<=536870912)(d:n<=68719476736)(a:0<=n)(f:TabAt 4 Lib.deBruijn64tab W):
  xP prog 144 #[.agg #[.bool (neg z),.string (QJ z)],.int .i64 n] W (.agg #[.bool (neg (XA z n)),.string (QJ (XA z n))]):=by
 grind[CZ,Xp]
def ei(N:Nat)(L T0:Nat)(ad:L+T0<=1000000)(hn:N<=8)(A:Option Addr)(c:Nat)(bs:Nat->Nat->Bool)(I:Nat->Nat->ByteArray)(J:Nat->Nat->Int)(f:Nat->Nat->Dyadic)(w:World)(hx:∀i j,ND (bs i j) (I i j) (J i j) (f i j))(ag:∀i j,DB L T0 (f i j))(hr:RdM w A N (λ_=>N) bs I J)(hT:TabAt 4 Lib.deBruijn64tab w):
  Calls prog 148 #[.slice A N c] w λe w'=>(∃v low,e=.returned (.tuple #[v,.int .i64 (-low)])/\-(L:Int)<=low/\low<=0/\(∀i j,i<N->j<N->low<=de (f i j))/\OwnTT w' w.heap.size 248 30 2 v N N (λi=>CK (zI low f i)))/\Below w.heap.size w w':=by
 have HR:=x0f hr;have HX:=x0f hx;have K:=x0f ag;have HT:=x0f hT;have ao:=x0f ad;clear hr hx ag hT ad;go_enter func148,ntmps148
 go_wp2_with fail
 go_loopw [4,18] (λv i wr=>∃(k:Nat) (low:Int),k<=N/\i=.int .i64 (k:Nat)/\v=.int .i64 low/\Hid (-(L:Int)<=low/\low<=0/\∀i j,i<k->j<N->low<=de (f i j))/\Below w.heap.size w wr) (λ_ i _=>N-(RowKit.intOf i).toNat)
 case atStart=>exact⟨0,0,L7 _,rfl,rfl,x0f ⟨x3,Sd _,λi j hi=>absurd hi x3⟩,p5 _ _⟩
 case round =>
  obtain⟨k,low,hk,rfl,rfl,M,l⟩:=hrel;by_cases B:k<N
  ·have O:(k:Int)<(N:Int):=x3;obtain⟨b,off,rfl,hc⟩:=(HR.out.below l) x3;let⟨Ai,ci,_,bu,Q,D⟩:=hc k B;obtain⟨bi,F,rfl,G⟩:=D.num (show 0<N by omega);replace Q:wr.cell? ⟨b,off+k,none⟩=some (.slice (some ⟨bi,F,none⟩) N ci):=Q;have bv:(0:Int)<=(k:Int):=x3;have r:=x0f G;clear hc D G;have HB:=x0f l;clear l;go_wp2_with fail
   obtain⟨t,R⟩:∃x,x=wr:=⟨_,rfl⟩
   subst R;go_loopw [4,24] (λv i wr=>∃(q:Nat) (S:Int),q<=N/\i=.int .i64 (q:Nat)/\v=.int .i64 S/\Hid (-(L:Int)<=S/\S<=low/\∀j,j<q->S<=de (f k j))/\Below t.heap.size t wr) (λ_ i _=>N-(RowKit.intOf i).toNat)
   case atStart=>exact⟨0,low,L7 _,rfl,rfl,x0f ⟨M.out.1,Sd _,λj P=>absurd P x3⟩,p5 _ _⟩
   case round =>
    clear Q;obtain⟨q,S,hq,rfl,rfl,s,g⟩:=hrel;by_cases m:q<N
    ·have o:=EI g (.cells #[.bool (bs k q),.string (I k q),.int .i64 (J k q)] 32);have g2:=Lj g (r.out q m).1;have g3:=Lj g (r.out q m).2.1;have g4:=Lj g (r.out q m).2.2;have T:(q:Int)<(N:Int):=x3;have bX:(0:Int)<=(q:Int):=x3;let⟨p1,p2,p3,_,_,_⟩:=(Bx.new wr 32 #[.bool (bs k q),.string (I k q),.int .i64 (J k q)]).three;have cF:=x0f (UH (HX.out k q) (wr.alloc (.cells #[.bool (bs k q),.string (I k q),.int .i64 (J k q)] 32)) (Ql HT.out (nxt HB.out o)));have bY:=x0f o;clear g o;go_wp2_with fail
     refine cF.out.mono ?_
     rintro e w6 ⟨rfl,H⟩;have aw:=nxt bY.out H;have ca:=x0f aw;clear H cF p1 p2 p3 aw g2 g3 g4;have u:=(G8 (K.out k q)).1;obtain⟨E,U⟩:∃E,de (f k q)=E:=⟨_,rfl⟩
     rw[U]at u ⊢;have HE:=x0f (p0 U u);clear U u;go_wp2_with fail
     rw[ab];simp only[xT];go_wp2
     refine⟨⟨q+1,min S E,x3,by go_num,rfl,x0f ⟨by have h1:=HE.out.2;have h2:=s.out.1;omega,by have h1:=s.out.2.1;omega,λj P=>?_⟩,ca.out⟩,by simp[RowKit.intOf];omega⟩;by_cases e:j=q
     ·subst e;rw[HE.out.1];omega
     ·have h1:=s.out.2.2 j x3;omega
    ·obtain rfl:q=N:=x3;have T:¬(q:Int)<(q:Int):=x3;have o:=nxt HB.out g;go_wp2
     refine⟨⟨k+1,S,x3,by go_num,rfl,x0f ⟨s.out.1,T7 s.out.2.1 M.out.2.1,λi j hi P=>?_⟩,o⟩,by simp[RowKit.intOf];omega⟩;by_cases e:i=k
     ·subst e;exact s.out.2.2 j P
     ·exact T7 s.out.2.1 (M.out.2.2 i j x3 P)
  ·obtain rfl:k=N:=x3;have O:¬(k:Int)<(k:Int):=x3;have HB:=x0f l;have aB:=OwnTT.nil_ wr w.heap.size 248 30 2 k (λi=>CK (zI low f i));have cb:low<=0:=M.out.2.1;have cc:-1000000<=low:=xF M.out.1 ao.out;clear l;go_wp2_with fail
   obtain⟨N,hN⟩:∃N,N=k:=⟨_,rfl⟩
   subst hN;obtain⟨w1,cd⟩:∃x,x=wr:=⟨_,rfl⟩
   subst cd;clear O B hk;go_loopw [9,37] (λv i wr=>∃k:Nat,k<=N/\i=.int .i64 (k:Nat)/\OwnTT wr w.heap.size 248 30 2 v k N (λi=>CK (zI low f i))/\Below w.heap.size w wr) (λ_ i _=>N-(RowKit.intOf i).toNat)
   case atStart=>exact⟨0,L7 _,rfl,aB,HB.out⟩
   case round =>
    clear aB;obtain⟨k,hk,rfl,a,l⟩:=hrel;by_cases B:k<N
    ·have O:(k:Int)<(N:Int):=x3;obtain⟨b,off,rfl,hc⟩:=(HR.out.below l) x3;let⟨Ai,ci,_,bu,Q,D⟩:=hc k B;obtain⟨bi,F,rfl,G⟩:=D.num (show 0<N by omega);replace Q:wr.cell? ⟨b,off+k,none⟩=some (.slice (some ⟨bi,F,none⟩) N ci):=Q;have bv:(0:Int)<=(k:Int):=x3;have r:=x0f G;clear hc D G;have y:=x0f (p0 a l);clear a l;go_wp2_with fail
     obtain⟨t,R⟩:∃x,x=wr:=⟨_,rfl⟩
     subst R;have bc:=OwnK.nil_ t t.heap.size 30 2 (CK (zI low f k));go_loopw [12,43] (λv i wr=>∃q:Nat,q<=N/\i=.int .i64 (q:Nat)/\OwnK wr t.heap.size 30 2 v q (CK (zI low f k))/\Below t.heap.size t wr) (λ_ i _=>N-(RowKit.intOf i).toNat)
     case atStart=>exact⟨0,L7 _,rfl,bc,p5 _ _⟩
     case round =>
      clear Q bc;obtain⟨q,hq,rfl,a,g⟩:=hrel;by_cases m:q<N
      ·have o:=EI g (.cells #[.bool (bs k q),.string (I k q),.int .i64 (J k q)] 32);have g2:=Lj g (r.out q m).1;have g3:=Lj g (r.out q m).2.1;have g4:=Lj g (r.out q m).2.2;have T:(q:Int)<(N:Int):=x3;have bX:(0:Int)<=(q:Int):=x3;let⟨p1,p2,p3,_,_,_⟩:=(Bx.new wr 32 #[.bool (bs k q),.string (I k q),.int .i64 (J k q)]).three;have cF:=x0f (UH (HX.out k q) (wr.alloc (.cells #[.bool (bs k q),.string (I k q),.int .i64 (J k q)] 32)) (Ql HT.out (nxt y.out.2 o)));replace a:=a.below (b1 wr (.cells #[.bool (bs k q),.string (I k q),.int .i64 (J k q)] 32));have p:=x0f (p0 a o);clear g o a;go_wp2_with fail
       refine cF.out.mono ?_
       rintro e w6 ⟨rfl,H⟩;let⟨a,l⟩:=p.out;replace a:=a.below H;replace l:=nxt l H;clear H cF p1 p2 p3 g2 g3 g4 p;replace a:=a.below (b1 w6 (.cells #[.bool (neg (dm (f k q))),.string (QJ (dm (f k q))),.int .i64 (de (f k q))] 32));replace l:=EI l (.cells #[.bool (neg (dm (f k q))),.string (QJ (dm (f k q))),.int .i64 (de (f k q))] 32);have YX:=Bx.new w6 32 #[.bool (neg (dm (f k q))),.string (QJ (dm (f k q))),.int .i64 (de (f k q))];have u:=(G8 (K.out k q)).1;have bd:=(G8 (K.out k q)).2.1;have bk:=M.out.2.2 k q B m;have bl:=Ic (K.out k q);have bm:=ao.out;have HZ:=x0f (show zI low f k q=XA (dm (f k q)) (de (f k q)-low)from rfl);obtain⟨E,U⟩:∃E,de (f k q)=E:=⟨_,rfl⟩
       obtain⟨Z,hZ⟩:∃Z,dm (f k q)=Z:=⟨_,rfl⟩
       rw[U]at u bd bk;rw[hZ]at bl;rw[U,hZ]at l a YX HZ ⊢;have cf:-2000000<=E-low:=x3;have ch:E-low<=2000000:=x3;have cS:=x0f (λW h=>qv Z (E-low) W x3 x3 x3 h);clear U hZ u bd bk bl bm;have p:=x0f (p0 a l);clear a l;go_upto_region 20 with(fail)
       let⟨a,l⟩:=p.out;generalize w6.alloc (.cells #[.bool (neg Z),.string (QJ Z),.int .i64 E] 32)=w8 at *;let⟨p1,p2,p3,_,_,_⟩:=YX.three;have p:=x0f (p0 a l);clear a l YX;go_wp2_with fail
       refine(cS.out _ (Ql HT.out (nxt y.out.2 p.out.2))).mono ?_
       rintro e Y ⟨rfl,H⟩;let⟨a,l⟩:=p.out;replace a:=a.below H;replace l:=nxt l H;rw[<- HZ.out];clear H cS p p1 p2 p3 cf ch;have hO:=a.below (b1 Y (.cells #[.bool (neg (zI low f k q)),.string (QJ (zI low f k q))] 30));have ZR:=Bx.new Y 30 #[.bool (neg (zI low f k q)),.string (QJ (zI low f k q))];have HN:=x0f (show ∀j,j<1->∀i,i<2->(Y.alloc (.cells #[.bool (neg (zI low f k q)),.string (QJ (zI low f k q))] 30)).cell? ⟨Y.heap.size,0+j*2+i,none⟩=((CK (λj=>zI low f k (q+j))) j)[i]? from λj P i hi=>by
        have cj:j=0:=x3;have ck:i=0\/i=1:=x3;subst cj;rcases ck with rfl|rfl<;>simp[ZR.cel,CK])
       have HO:=x0f (p0 hO (EI l (.cells #[.bool (neg (zI low f k q)),.string (QJ (zI low f k q))] 30)));have cl:=x0f (show t.heap.size<=(Y.alloc (.cells #[.bool (neg (zI low f k q)),.string (QJ (zI low f k q))] 30)).heap.size by have:=l.size;simp;omega);have bn:=x0f (show q+1<=9223372036854775807/\(q+1)*24<=140737488355328 by omega);clear hO ZR a l;go_wp2_with (at_builtin;refine Nx rfl (.tmp 49) (.tmp 57) _ rfl t.heap.size 30 _ 2 24 Tryz.underlying248 nz rfl x4 _ q (CK (zI low f k)) rfl HO.out.1 ⟨Y.heap.size,0,none⟩ 1 1 (CK (λj=>zI low f k (q+j))) (λ_=>rfl) (λ_=>rfl) (lT _) rfl rfl HN.out bn.out.1 bn.out.2 cl.out ?_;intro v' cw cm cn)
       have V:=cm.congr (f':=CK (zI low f k)) (λj P=>by
        split
        ·rfl
        ·rename_i h;unfold CK;dsimp only;rw[show q+(j-q)=j by omega])
       exact⟨⟨q+1,x3,by go_num,V,QcH HO.out.2 cn (L4 _)⟩,by simp[RowKit.intOf];omega⟩
      ·obtain rfl:q=N:=x3;have T:¬(q:Int)<(q:Int):=x3;obtain⟨C,d,rfl,_⟩:=OwnK.rd (k:=2) (λ_=>rfl) a;have bp:=a.below (b1 wr (.cells #[.slice C q d] 248));have Z:=(Bx.new wr 248 #[.slice C q d]).cel 0;have bq:Below t.heap.size t (wr.alloc (.cells #[.slice C q d] 248)):=EI g (.cells #[.slice C q d] 248);have cp:w.heap.size<=t.heap.size:=y.out.2.size;have cq:k+1<=9223372036854775807:=x3;have cr:(k+1)*24<=140737488355328:=x3;have ct:=x0f (nxt y.out.2 bq);have X:=y.out.1;clear a g y;go_wp2_with (at_builtin;refine H4 rfl (.tmp 60) (.tmp 62) _ rfl w.heap.size 248 30 (.slice none 0 0) 2 24 Tryz.underlying200 RI rfl u9 k q (λi=>CK (zI low f i)) rfl t X bq ⟨wr.heap.size,0,none⟩ rfl rfl C d Z bp cp cq cr ?_;intro v2 w7 V cu)
       exact⟨⟨k+1,x3,by go_num,V,QcH ct.out cu (L4 _)⟩,by simp[RowKit.intOf];omega⟩
    ·obtain rfl:k=N:=x3;have O:¬(k:Int)<(k:Int):=x3;go_wp2
     go_ret2
     exact⟨⟨_,low,rfl,M.out.1,M.out.2.1,λi j hi P=>M.out.2.2 i j hi P,a⟩,l⟩
end
