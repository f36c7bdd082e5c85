/- Laws beneath the statement. -/
import Derived.Test.YtoibldcmoapgbaaGreatDoorQP15
import Derived.Test.YtoibldcmoapgbaaGreatDoorQP21
namespace Go.Proofs.YtoibldcmoapgbaaGreatDoor
variable{k n S:Nat}{M0 M:Nat->Nat->Int}{l:Int}{tb:Bool}
def FW(k:Nat)(x:Int): Int:=if k % 2=1 then -x else x
def JJ:Nat->(Nat->Nat->Int)->Int
 | 0,_=>1
 | n+1,M=>KY (λk=>FW k (M 0 k*JJ n (λi j=>M (Ux 0 i) (Ux k j)))) (n+1)
theorem l7(f:Nat->Int)(e:Int): ∀n,Gw (λk=>dy (f k) e) n=dy (KY f n) e
 | 0=>(JD _).symm
 | n+1=>by
  show Gw _ n+dy (f n) e=dy (KY f n+f n) e;rw[l7 f e n,Wg]
theorem tn(k:Nat)(m e:Int): gG k (dy m e)=dy (FW k m) e:=by
 unfold gG FW;split
 ·exact Wh m e
 ·rfl
theorem iG(e:Int): ∀(n:Nat) (M:Nat->Nat->Int),ZS n (λi j=>dy (M i j) e)=dy (JJ n M) (e*n)
 | 0,_=>by rw[show(e*((0:Nat):Int))=0 by simp];exact dy_one.symm
 | n+1,M=>by
  show Gw (λk=>gG k (dy (M 0 k) e*ZS n (gF 0 k (λi j=>dy (M i j) e)))) (n+1)=_;have h:∀k,gG k (dy (M 0 k) e*ZS n (gF 0 k (λi j=>dy (M i j) e)))=dy (FW k (M 0 k*JJ n (λi j=>M (Ux 0 i) (Ux k j)))) (e*((n+1:Nat):Int)):=λk=>by
   have a:ZS n (gF 0 k (λi j=>dy (M i j) e))=dy (JJ n (λi j=>M (Ux 0 i) (Ux k j))) (e*n):=iG e n (λi j=>M (Ux 0 i) (Ux k j));rw[a,iY,tn];congr 1;rw[Int.natCast_add,Int.mul_add];simp;omega
  rw[funext h,l7];rfl
def d3(a b c d e f g h i:Int): Int:=a*(e*i-f*h)-b*(d*i-f*g)+c*(d*h-e*g)
def d4(m n o p a b c d e f g h i j k l:Int): Int :=
 m*d3 b c d f g h j k l-n*d3 a c d e g h i k l+o*d3 a b d e f h i j l-p*d3 a b c e f g i j k
theorem iF(A:Nat->Nat->Int): JJ 1 A=A 0 0:=by
 simp[JJ,KY,FW]
theorem UZ(A:Nat->Nat->Int): JJ 2 A=A 0 0*A 1 1-A 0 1*A 1 0:=by
 simp[JJ,KY,FW,Ux];grind
theorem Wa(A:Nat->Nat->Int): JJ 3 A=d3 (A 0 0) (A 0 1) (A 0 2) (A 1 0) (A 1 1) (A 1 2) (A 2 0) (A 2 1) (A 2 2):=by
 simp[JJ,KY,FW,Ux,d3];grind
theorem NQ(A:Nat->Nat->Int): JJ 4 A=d4 (A 0 0) (A 0 1) (A 0 2) (A 0 3) (A 1 0) (A 1 1) (A 1 2) (A 1 3) (A 2 0) (A 2 1) (A 2 2) (A 2 3) (A 3 0) (A 3 1) (A 3 2) (A 3 3):=by
 simp[JJ,KY,FW,Ux,d4,d3];grind
def mi:Nat->(Nat->Nat->Int)->Nat->Nat->Int
 | 0,A,i,j=>A i j
 | 1,A,i,j=>A i j*A 0 0-A i 0*A 0 j
 | 2,A,i,j=>d3 (A 0 0) (A 0 1) (A 0 j) (A 1 0) (A 1 1) (A 1 j) (A i 0) (A i 1) (A i j)
 | _,A,i,j=>d4 (A 0 0) (A 0 1) (A 0 2) (A 0 j) (A 1 0) (A 1 1) (A 1 2) (A 1 j) (A 2 0) (A 2 1) (A 2 2) (A 2 j) (A i 0) (A i 1) (A i 2) (A i j)
def ls:Nat->(Nat->Nat->Int)->Int
 | 0,_=>1
 | k+1,A=>mi k A k k
theorem Oi(k:Nat)(a:k<3)(A:Nat->Nat->Int)(i j:Nat): mi k A i j*mi k A k k-mi k A i k*mi k A k j=mi (k+1) A i j*ls k A:=by
 have h:k=0\/k=1\/k=2:=x3;rcases h with rfl|rfl|rfl
 ·simp[mi,ls]
 ·simp only[mi,ls,d3];grind
 ·simp only[mi,ls,d3,d4];grind
theorem Ei(n:Nat)(a:n<=4)(A:Nat->Nat->Int): ls n A=JJ n A:=by
 have h:n=0\/n=1\/n=2\/n=3\/n=4:=x3;rcases h with rfl|rfl|rfl|rfl|rfl
 ·rfl
 ·rw[iF];rfl
 ·rw[UZ];simp only[mi,ls];grind
 ·rw[Wa];rfl
 ·rw[NQ];rfl
theorem D4{a b:Int}(h:a*b=0)(c:b≠0): a=0:=(Int.mul_eq_zero.1 h).resolve_right c
theorem iH(n k:Nat)(m:n<=4)(o:k<n)(A:Nat->Nat->Int)(h:∀q,k<=q->q<n->mi k A q k=0)(g:∀q,q<k->ls (q+1) A≠0): JJ n A=0:=by
 have l:(n=1/\k=0)\/(n=2/\k=0)\/(n=2/\k=1)\/(n=3/\k=0)\/(n=3/\k=1)\/(n=3/\k=2)\/(n=4/\k=0)\/(n=4/\k=1)\/(n=4/\k=2)\/(n=4/\k=3):=x3;rcases l with⟨rfl,rfl⟩|⟨rfl,rfl⟩|⟨rfl,rfl⟩|⟨rfl,rfl⟩|⟨rfl,rfl⟩|⟨rfl,rfl⟩|⟨rfl,rfl⟩|⟨rfl,rfl⟩|⟨rfl,rfl⟩|⟨rfl,rfl⟩
 ·rw[iF];exact h 0 x4 x4
 ·have f:A 0 0=0:=h 0 x4 x4;have a:A 1 0=0:=h 1 x4 x4;rw[UZ,f,a];simp
 ·have a:=h 1 x4 x4;rw[<- Ei 2 x4];exact a
 ·have f:A 0 0=0:=h 0 x4 x4;have a:A 1 0=0:=h 1 x4 x4;have b:A 2 0=0:=h 2 x4 x4;rw[Wa,f,a,b];simp[d3]
 ·have a:=h 1 x4 x4;have b:=h 2 x4 x4;have c:=Oi 1 x4 A 2 2;have d:ls 1 A≠0:=g 0 x4;rw[a,b]at c;rw[<- Ei 3 x4];exact D4 (by rw[show ls 3 A=mi 2 A 2 2 from rfl,<- c];simp) d
 ·rw[<- Ei 3 x4];exact h 2 x4 x4
 ·have f:A 0 0=0:=h 0 x4 x4;have a:A 1 0=0:=h 1 x4 x4;have b:A 2 0=0:=h 2 x4 x4;have c:A 3 0=0:=h 3 x4 x4;rw[NQ,f,a,b,c];simp[d4,d3]
 ·have a:=h 1 x4 x4;have b:=h 2 x4 x4;have c:=h 3 x4 x4;have d:ls 1 A≠0:=g 0 x4;have key:JJ 4 A*(ls 1 A*ls 1 A)=d3 (mi 1 A 1 1) (mi 1 A 1 2) (mi 1 A 1 3) (mi 1 A 2 1) (mi 1 A 2 2) (mi 1 A 2 3) (mi 1 A 3 1) (mi 1 A 3 2) (mi 1 A 3 3):=by
   rw[NQ];simp only[mi,ls,d3,d4];grind
  rw[a,b,c]at key;exact D4 (by rw[key];simp[d3]) (λe=>d ((Int.mul_eq_zero.1 e).elim id id))
 ·have b:=h 2 x4 x4;have c:=h 3 x4 x4;have j:=Oi 2 x4 A 3 3;have i:ls 2 A≠0:=g 1 x4;rw[b,c]at j;rw[<- Ei 4 x4];exact D4 (by rw[show ls 4 A=mi 3 A 3 3 from rfl,<- j];simp) i
 ·rw[<- Ei 4 x4];exact h 3 x4 x4
theorem JG{p r:Nat}(a:k<=p)(b:r<k): GB k p r=r:=by unfold GB;rw[if_neg x3,if_neg x3]
theorem WD(k p:Nat)(b:k<4)(a:k<=p)(A:Nat->Nat->Int)(i j:Nat): mi k (λi j=>A (GB k p i) j) i j=mi k A (GB k p i) j:=by
 have h:k=0\/k=1\/k=2\/k=3:=x3;rcases h with rfl|rfl|rfl|rfl
 ·rfl
 ·simp only[mi,JG a (show 0<1 by decide)]
 ·simp only[mi,JG a (show 0<2 by decide),JG a (show 1<2 by decide)]
 ·simp only[mi,JG a (show 0<3 by decide),JG a (show 1<3 by decide),JG a (show 2<3 by decide)]
theorem jW(k p q:Nat)(b:k<4)(a:k<=p)(c:q<=k)(A:Nat->Nat->Int): ls q (λi j=>A (GB k p i) j)=ls q A:=by
 have h:q=0\/(q=1/\1<=k)\/(q=2/\2<=k)\/(q=3/\3<=k):=x3;rcases h with rfl|⟨rfl,h⟩|⟨rfl,h⟩|⟨rfl,h⟩
 ·rfl
 ·simp only[ls,mi,JG a (show 0<k by omega)]
 ·simp only[ls,mi,JG a (show 0<k by omega),JG a (show 1<k by omega)]
 ·simp only[ls,mi,JG a (show 0<k by omega),JG a (show 1<k by omega),JG a (show 2<k by omega)]
theorem nY(n k p:Nat)(b:n<=4)(c:k<p)(d:p<n)(A:Nat->Nat->Int): JJ n (λi j=>A (GB k p i) j)=-JJ n A:=by
 have a:(n=2/\k=0/\p=1)\/(n=3/\k=0/\p=1)\/(n=3/\k=0/\p=2)\/(n=3/\k=1/\p=2)\/(n=4/\k=0/\p=1)\/(n=4/\k=0/\p=2)\/(n=4/\k=0/\p=3)\/(n=4/\k=1/\p=2)\/(n=4/\k=1/\p=3)\/(n=4/\k=2/\p=3):=x3;rcases a with⟨rfl,rfl,rfl⟩|⟨rfl,rfl,rfl⟩|⟨rfl,rfl,rfl⟩|⟨rfl,rfl,rfl⟩|⟨rfl,rfl,rfl⟩|⟨rfl,rfl,rfl⟩|⟨rfl,rfl,rfl⟩|⟨rfl,rfl,rfl⟩|⟨rfl,rfl,rfl⟩|⟨rfl,rfl,rfl⟩ <;>
  simp only[UZ,Wa,NQ,GB,d4,d3]<;>simp<;>grind
structure BInv (n S:Nat) (M0:Nat->Nat->Int) (k:Nat) (M:Nat->Nat->Int) (l:Int) (tb:Bool):Prop where
 at_:∃A:Nat->Nat->Int,(∀i j,k<=i->i<n->k<=j->j<n->M i j=mi k A i j)/\l=ls k A/\(∀q,q<k->ls (q+1) A≠0)/\JJ n M0=if tb then -JJ n A else JJ n A
 sl:Zq l+3<=2^k*(S+3)
 sm:∀i j,i<n->j<n->Zq (M i j)+3<=2^k*(S+3)
theorem yp{A:Nat->Nat->Int}(h:∀q,q<k->ls (q+1) A≠0): ls k A≠0:=by
 rcases So k with a|a
 ·subst a;show(1:Int)≠0;decide
 ·obtain⟨q,rfl⟩:∃q,k=q+1:=⟨k-1,x3⟩
  exact h q x3
theorem BInv.ne(h:BInv n S M0 k M l tb): l≠0:=by
 obtain⟨A,_,b,a,_⟩:=h.at_;rw[b];exact yp a
theorem BInv.start(d:1<=S)(h:∀i j,i<n->j<n->Zq (M0 i j)<=S): BInv n S M0 0 M0 1 false :=
 ⟨⟨M0,λ_ _ _ _ _ _=>rfl,rfl,λ_ a=>absurd a (R6 _),rfl⟩,by rw[Ug,Tg];have:Zq 1<=1:=G6 x4;omega,λi j b c=>by rw[Ug,Tg];have:=h i j b c;omega⟩
theorem BInv.done(h:BInv n S M0 n M l tb)(a:n<=4): JJ n M0=if tb then -l else l:=by
 obtain⟨A,_,b,_,c⟩:=h.at_;rw[c,b,Ei n a]
theorem BInv.zero(h:BInv n S M0 k M l tb)(e:n<=4)(b:k<n)(f:∀q,k<=q->q<n->M q k=0): JJ n M0=0:=by
 obtain⟨A,g,_,a,i⟩:=h.at_;rw[i,iH n k e b A (λq c d=>by rw[<- g q k c d (L8 _) b];exact f q c d) a];cases tb<;>rfl
theorem BInv.step{p:Nat}(h:BInv n S M0 k M l tb)(x:n<=4)(b:k<n)(f:k<=p)(a:p<n)(s:M p k≠0):
  (∀i j,k<i->i<n->k<j->j<n->(M (GB k p i) j*M (GB k p k) k-M (GB k p i) k*M (GB k p k) j) % l=0)/\BInv n S M0 (k+1) (AX k l (λi j=>M (GB k p i) j)) (M p k) (if p=k then tb else !tb):=by
 obtain⟨A,g,y,t,z⟩:=h.at_;have c:k<4:=x3;have o:∀i,k<=i->i<n->k<=GB k p i:=λi r d=>by unfold GB;split<;>(try split)<;>omega
 have e:∀i j,k<i->i<n->k<j->j<n->M (GB k p i) j*M (GB k p k) k-M (GB k p i) k*M (GB k p k) j=mi (k+1) (λi j=>A (GB k p i) j) i j*l:=λi j r d u m=>by
  simp only[g _ _ (o i x3 d) (Ki b a d) (show k<=j by omega) m,g _ _ (o k (L8 _) b) (Ki b a b) (L8 k) b,g _ _ (o i x3 d) (Ki b a d) (L8 k) b,g _ _ (o k (L8 _) b) (Ki b a b) (show k<=j by omega) m,<- WD k p c f A];rw[Oi k x3,jW k p k c f (L8 _),y]
 refine⟨λi j r d u m=>by rw[e i j r d u m];exact Int.mul_emod_left _ _,⟨λi j=>A (GB k p i) j,λi j r d u m=>?_,?_,λq B=>?_,?_⟩,s6 (h.sm p k a b),λi j v w=>?_⟩
 ·unfold AX;rw[if_pos x3,e i j x3 d x3 m];exact Int.mul_ediv_cancel _ h.ne
 ·rw[g p k f a (L8 _) b];show _=mi k (λi j=>A (GB k p i) j) k k;rw[WD k p c f,l8]
 ·by_cases e:q=k
  ·subst e;show mi q (λi j=>A (GB q p i) j) q q≠0;rw[WD q p c f,l8,<- g p q f a (L8 _) b];exact s
  ·rw[jW k p (q+1) c f x3];exact t q x3
 ·rw[z];by_cases e:p=k
  ·subst e;rw[if_pos rfl,show(λi j=>A (GB p p i) j)=A from funext λi=>funext λj=>by rw[TA]]
  ·rw[if_neg e,nY n k p x x3 a];cases tb<;>simp
 ·unfold AX;split
  ·exact re (h.sm _ _ (Ki b a v) w) (h.sm _ _ (Ki b a b) b) (h.sm _ _ (Ki b a v) b) (h.sm _ _ (Ki b a b) w)
  ·exact s6 (h.sm _ _ (Ki b a v) w)
theorem gZ(k:Nat)(x:Int): Zq (FW k x)=Zq x:=by
 unfold FW;split
 ·exact Fp x
 ·rfl
theorem aR: ∀(n:Nat) (M:Nat->Nat->Int),(∀i j,Zq (M i j)<=S)->Zq (JJ n M)<=S*n+(1+n*n)
 | 0,_,_=>by show Zq 1<=_;exact L9 (G6 (z:=1) (n:=1) x4) x3
 | n+1,M,h=>by
  have a:∀k,Zq (FW k (M 0 k*JJ n (λi j=>M (Ux 0 i) (Ux k j))))<=S+(S*n+(1+n*n)):=λk=>by
   rw[gZ];exact ZZ (h 0 k) (aR n _ λi j=>h _ _)
  have d:=F3 a (n+1);have b:S*(n+1)=S*n+S:=Nat.mul_succ S n;have c:(n+1)*(n+1)=n*n+n+n+1:=by grind
  show Zq (KY _ (n+1))<=_;rw[b,c];omega
