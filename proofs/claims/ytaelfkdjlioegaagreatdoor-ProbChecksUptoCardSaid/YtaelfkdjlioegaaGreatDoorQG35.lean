/- The walks and plain laws beneath the statements. -/
import Derived.Test.YtaelfkdjlioegaaGreatDoorQG22
import Derived.Test.YtaelfkdjlioegaaGreatDoorQG32
namespace Go.Proofs.YtaelfkdjlioegaaGreatDoor
variable{k n S:Nat}{M0 M:Nat→Nat→Int}{l:Int}{tb:Bool}
def Cj(k:Nat)(x:Int): Int:=if k % 2=1 then -x else x
def ZF:Nat→(Nat→Nat→Int)→Int
 | 0,_=>1
 | n+1,M=>JD (fun k=>Cj k (M 0 k*ZF n (fun i j=>M (EE 0 i) (EE k j)))) (n+1)
theorem aH(f:Nat→Int)(e:Int): ∀n,Ke (fun k=>dy (f k) e) n=dy (JD f n) e
 | 0=>(Zu _).symm
 | n+1=>by
  show Ke _ n+dy (f n) e=dy (JD f n+f n) e
  rw[aH f e n,Iu]
theorem ln(k:Nat)(m e:Int): B6 k (dy m e)=dy (Cj k m) e:=by
 unfold B6 Cj
 split
 ·exact IA m e
 ·rfl
theorem aS(e:Int): ∀(n:Nat) (M:Nat→Nat→Int),Xd n (fun i j=>dy (M i j) e)=dy (ZF n M) (e*n)
 | 0,_=>by rw[show(e*((0:Nat):Int))=0 by simp];exact dy_one.symm
 | n+1,M=>by
  show Ke (fun k=>B6 k (dy (M 0 k) e*Xd n (G1 0 k (fun i j=>dy (M i j) e)))) (n+1)=_
  have h:∀k,B6 k (dy (M 0 k) e*Xd n (G1 0 k (fun i j=>dy (M i j) e)))=dy (Cj k (M 0 k*ZF n (fun i j=>M (EE 0 i) (EE k j)))) (e*((n+1:Nat):Int)):=fun k=>by
   have h1:Xd n (G1 0 k (fun i j=>dy (M i j) e))=dy (ZF n (fun i j=>M (EE 0 i) (EE k j))) (e*n):=aS e n (fun i j=>M (EE 0 i) (EE k j))
   rw[h1,N0,ln]
   congr 1
   rw[Int.natCast_add,Int.mul_add]
   simp
   omega
  rw[funext h,aH]
  rfl
def d3(a b c d e f g h i:Int): Int:=a*(e*i-f*h)-b*(d*i-f*g)+c*(d*h-e*g)
def d4(a00 a01 a02 a03 a10 a11 a12 a13 a20 a21 a22 a23 a30 a31 a32 a33:Int): Int :=
 a00*d3 a11 a12 a13 a21 a22 a23 a31 a32 a33-a01*d3 a10 a12 a13 a20 a22 a23 a30 a32 a33+a02*d3 a10 a11 a13 a20 a21 a23 a30 a31 a33-a03*d3 a10 a11 a12 a20 a21 a22 a30 a31 a32
theorem en(A:Nat→Nat→Int): ZF 1 A=A 0 0:=by
 simp[ZF,JD,Cj]
theorem NS(A:Nat→Nat→Int): ZF 2 A=A 0 0*A 1 1-A 0 1*A 1 0:=by
 simp[ZF,JD,Cj,EE];grind
theorem Oy(A:Nat→Nat→Int): ZF 3 A=d3 (A 0 0) (A 0 1) (A 0 2) (A 1 0) (A 1 1) (A 1 2) (A 2 0) (A 2 1) (A 2 2):=by
 simp[ZF,JD,Cj,EE,d3];grind
theorem Hf(A:Nat→Nat→Int): ZF 4 A=d4 (A 0 0) (A 0 1) (A 0 2) (A 0 3) (A 1 0) (A 1 1) (A 1 2) (A 1 3) (A 2 0) (A 2 1) (A 2 2) (A 2 3) (A 3 0) (A 3 1) (A 3 2) (A 3 3):=by
 simp[ZF,JD,Cj,EE,d4,d3];grind
def mi:Nat→(Nat→Nat→Int)→Nat→Nat→Int
 | 0,A,i,j=>A i j
 | 1,A,i,j=>A i j*A 0 0-A i 0*A 0 j
 | 2,A,i,j=>d3 (A 0 0) (A 0 1) (A 0 j) (A 1 0) (A 1 1) (A 1 j) (A i 0) (A i 1) (A i j)
 | _,A,i,j=>d4 (A 0 0) (A 0 1) (A 0 2) (A 0 j) (A 1 0) (A 1 1) (A 1 2) (A 1 j) (A 2 0) (A 2 1) (A 2 2) (A 2 j) (A i 0) (A i 1) (A i 2) (A i j)
def ls:Nat→(Nat→Nat→Int)→Int
 | 0,_=>1
 | k+1,A=>mi k A k k
theorem Ic(k:Nat)(hk:k<3)(A:Nat→Nat→Int)(i j:Nat): mi k A i j*mi k A k k-mi k A i k*mi k A k j=mi (k+1) A i j*ls k A:=by
 have h:k=0∨k=1∨k=2:=by omega
 rcases h with rfl|rfl|rfl
 ·simp[mi,ls]
 ·simp only[mi,ls,d3];grind
 ·simp only[mi,ls,d3,d4];grind
theorem BC(n:Nat)(hn:n≤4)(A:Nat→Nat→Int): ls n A=ZF n A:=by
 have h:n=0∨n=1∨n=2∨n=3∨n=4:=by omega
 rcases h with rfl|rfl|rfl|rfl|rfl
 ·rfl
 ·rw[en];rfl
 ·rw[NS];simp only[mi,ls];grind
 ·rw[Oy];rfl
 ·rw[Hf];rfl
theorem V1{a b:Int}(h:a*b=0)(hb:b≠0): a=0:=(Int.mul_eq_zero.1 h).resolve_right hb
theorem dz(n k:Nat)(hn:n≤4)(hk:k<n)(A:Nat→Nat→Int)(h:∀q,k≤q→q<n→mi k A q k=0)(hl:∀q,q<k→ls (q+1) A≠0): ZF n A=0:=by
 have hc:(n=1∧k=0)∨(n=2∧k=0)∨(n=2∧k=1)∨(n=3∧k=0)∨(n=3∧k=1)∨(n=3∧k=2)∨(n=4∧k=0)∨(n=4∧k=1)∨(n=4∧k=2)∨(n=4∧k=3):=by omega
 rcases hc with⟨rfl,rfl⟩|⟨rfl,rfl⟩|⟨rfl,rfl⟩|⟨rfl,rfl⟩|⟨rfl,rfl⟩|⟨rfl,rfl⟩|⟨rfl,rfl⟩|⟨rfl,rfl⟩|⟨rfl,rfl⟩|⟨rfl,rfl⟩
 ·rw[en];exact h 0 (by decide) (by decide)
 ·have h0:A 0 0=0:=h 0 (by decide) (by decide)
  have h1:A 1 0=0:=h 1 (by decide) (by decide)
  rw[NS,h0,h1];simp
 ·have h1:=h 1 (by decide) (by decide)
  rw[← BC 2 (by decide)];exact h1
 ·have h0:A 0 0=0:=h 0 (by decide) (by decide)
  have h1:A 1 0=0:=h 1 (by decide) (by decide)
  have h2:A 2 0=0:=h 2 (by decide) (by decide)
  rw[Oy,h0,h1,h2];simp[d3]
 ·have h1:=h 1 (by decide) (by decide)
  have h2:=h 2 (by decide) (by decide)
  have h3:=Ic 1 (by decide) A 2 2
  have hl0:ls 1 A≠0:=hl 0 (by decide)
  rw[h1,h2]at h3
  rw[← BC 3 (by decide)]
  exact V1 (by rw[show ls 3 A=mi 2 A 2 2 from rfl,← h3];simp) hl0
 ·rw[← BC 3 (by decide)];exact h 2 (by decide) (by decide)
 ·have h0:A 0 0=0:=h 0 (by decide) (by decide)
  have h1:A 1 0=0:=h 1 (by decide) (by decide)
  have h2:A 2 0=0:=h 2 (by decide) (by decide)
  have h3:A 3 0=0:=h 3 (by decide) (by decide)
  rw[Hf,h0,h1,h2,h3];simp[d4,d3]
 ·have h1:=h 1 (by decide) (by decide)
  have h2:=h 2 (by decide) (by decide)
  have h3:=h 3 (by decide) (by decide)
  have hl0:ls 1 A≠0:=hl 0 (by decide)
  have key:ZF 4 A*(ls 1 A*ls 1 A)=d3 (mi 1 A 1 1) (mi 1 A 1 2) (mi 1 A 1 3) (mi 1 A 2 1) (mi 1 A 2 2) (mi 1 A 2 3) (mi 1 A 3 1) (mi 1 A 3 2) (mi 1 A 3 3):=by
   rw[Hf];simp only[mi,ls,d3,d4];grind
  rw[h1,h2,h3]at key
  exact V1 (by rw[key];simp[d3]) (fun e=>hl0 ((Int.mul_eq_zero.1 e).elim id id))
 ·have h2:=h 2 (by decide) (by decide)
  have h3:=h 3 (by decide) (by decide)
  have h4:=Ic 2 (by decide) A 3 3
  have hl1:ls 2 A≠0:=hl 1 (by decide)
  rw[h2,h3]at h4
  rw[← BC 4 (by decide)]
  exact V1 (by rw[show ls 4 A=mi 3 A 3 3 from rfl,← h4];simp) hl1
 ·rw[← BC 4 (by decide)];exact h 3 (by decide) (by decide)
theorem Zt{p r:Nat}(hp:k≤p)(hr:r<k): KQ k p r=r:=by unfold KQ;rw[if_neg (by omega),if_neg (by omega)]
theorem Oq(k p:Nat)(hk:k<4)(hp:k≤p)(A:Nat→Nat→Int)(i j:Nat): mi k (fun i j=>A (KQ k p i) j) i j=mi k A (KQ k p i) j:=by
 have h:k=0∨k=1∨k=2∨k=3:=by omega
 rcases h with rfl|rfl|rfl|rfl
 ·rfl
 ·simp only[mi,Zt hp (show 0<1 by decide)]
 ·simp only[mi,Zt hp (show 0<2 by decide),Zt hp (show 1<2 by decide)]
 ·simp only[mi,Zt hp (show 0<3 by decide),Zt hp (show 1<3 by decide),Zt hp (show 2<3 by decide)]
theorem aa(k p q:Nat)(hk:k<4)(hp:k≤p)(hq:q≤k)(A:Nat→Nat→Int): ls q (fun i j=>A (KQ k p i) j)=ls q A:=by
 have h:q=0∨(q=1∧1≤k)∨(q=2∧2≤k)∨(q=3∧3≤k):=by omega
 rcases h with rfl|⟨rfl,h⟩|⟨rfl,h⟩|⟨rfl,h⟩
 ·rfl
 ·simp only[ls,mi,Zt hp (show 0<k by omega)]
 ·simp only[ls,mi,Zt hp (show 0<k by omega),Zt hp (show 1<k by omega)]
 ·simp only[ls,mi,Zt hp (show 0<k by omega),Zt hp (show 1<k by omega),Zt hp (show 2<k by omega)]
theorem fN(n k p:Nat)(hn:n≤4)(hk:k<p)(hp:p<n)(A:Nat→Nat→Int): ZF n (fun i j=>A (KQ k p i) j)=-ZF n A:=by
 have hc:(n=2∧k=0∧p=1)∨(n=3∧k=0∧p=1)∨(n=3∧k=0∧p=2)∨(n=3∧k=1∧p=2)∨(n=4∧k=0∧p=1)∨(n=4∧k=0∧p=2)∨(n=4∧k=0∧p=3)∨(n=4∧k=1∧p=2)∨(n=4∧k=1∧p=3)∨(n=4∧k=2∧p=3):=by omega
 rcases hc with⟨rfl,rfl,rfl⟩|⟨rfl,rfl,rfl⟩|⟨rfl,rfl,rfl⟩|⟨rfl,rfl,rfl⟩|⟨rfl,rfl,rfl⟩|⟨rfl,rfl,rfl⟩|⟨rfl,rfl,rfl⟩|⟨rfl,rfl,rfl⟩|⟨rfl,rfl,rfl⟩|⟨rfl,rfl,rfl⟩ <;>
  simp only[NS,Oy,Hf,KQ,d4,d3]<;>simp<;>grind
structure BInv (n S:Nat) (M0:Nat→Nat→Int) (k:Nat) (M:Nat→Nat→Int) (l:Int) (tb:Bool):Prop where
 at_:∃A:Nat→Nat→Int,(∀i j,k≤i→i<n→k≤j→j<n→M i j=mi k A i j)∧l=ls k A∧(∀q,q<k→ls (q+1) A≠0)∧ZF n M0=if tb then -ZF n A else ZF n A
 sl:Yj l+3≤2^k*(S+3)
 sm:∀i j,i<n→j<n→Yj (M i j)+3≤2^k*(S+3)
theorem mN{A:Nat→Nat→Int}(h:∀q,q<k→ls (q+1) A≠0): ls k A≠0:=by
 rcases Ss k with h0|h0
 ·subst h0;show(1:Int)≠0;decide
 ·obtain⟨q,rfl⟩:∃q,k=q+1:=⟨k-1,by omega⟩
  exact h q (by omega)
theorem BInv.ne(h:BInv n S M0 k M l tb): l≠0:=by
 obtain⟨A,_,hl,hne,_⟩:=h.at_
 rw[hl];exact mN hne
theorem BInv.start(hS:1≤S)(h:∀i j,i<n→j<n→Yj (M0 i j)≤S): BInv n S M0 0 M0 1 false :=
 ⟨⟨M0,fun _ _ _ _ _ _=>rfl,rfl,fun _ hq=>absurd hq (Rc _),rfl⟩,by rw[Sl,To];have:Yj 1≤1:=VU (by decide);omega,fun i j hi hj=>by rw[Sl,To];have:=h i j hi hj;omega⟩
theorem BInv.done(h:BInv n S M0 n M l tb)(hn:n≤4): ZF n M0=if tb then -l else l:=by
 obtain⟨A,_,hl,_,hd⟩:=h.at_
 rw[hd,hl,BC n hn]
theorem BInv.zero(h:BInv n S M0 k M l tb)(hn:n≤4)(hk:k<n)(hz:∀q,k≤q→q<n→M q k=0): ZF n M0=0:=by
 obtain⟨A,hM,_,hne,hd⟩:=h.at_
 rw[hd,dz n k hn hk A (fun q h1 h2=>by rw[← hM q k h1 h2 (L3 _) hk];exact hz q h1 h2) hne]
 cases tb<;>rfl
theorem BInv.step{p:Nat}(h:BInv n S M0 k M l tb)(hn:n≤4)(hk:k<n)(hp:k≤p)(hpn:p<n)(hnz:M p k≠0):
  (∀i j,k<i→i<n→k<j→j<n→(M (KQ k p i) j*M (KQ k p k) k-M (KQ k p i) k*M (KQ k p k) j) % l=0)∧BInv n S M0 (k+1) (Bc k l (fun i j=>M (KQ k p i) j)) (M p k) (if p=k then tb else !tb):=by
 obtain⟨A,hM,hl,hne,hd⟩:=h.at_
 have hk4:k<4:=by omega
 have hs:∀i,k≤i→i<n→k≤KQ k p i:=fun i h1 h2=>by unfold KQ;split<;>(try split)<;>omega
 have e:∀i j,k<i→i<n→k<j→j<n→M (KQ k p i) j*M (KQ k p k) k-M (KQ k p i) k*M (KQ k p k) j=mi (k+1) (fun i j=>A (KQ k p i) j) i j*l:=fun i j h1 h2 h3 h4=>by
  simp only[hM _ _ (hs i (by omega) h2) (Z8 hk hpn h2) (show k≤j by omega) h4,hM _ _ (hs k (L3 _) hk) (Z8 hk hpn hk) (L3 k) hk,hM _ _ (hs i (by omega) h2) (Z8 hk hpn h2) (L3 k) hk,hM _ _ (hs k (L3 _) hk) (Z8 hk hpn hk) (show k≤j by omega) h4,← Oq k p hk4 hp A]
  rw[Ic k (by omega),aa k p k hk4 hp (L3 _),hl]
 refine⟨fun i j h1 h2 h3 h4=>by rw[e i j h1 h2 h3 h4];exact Int.mul_emod_left _ _,⟨fun i j=>A (KQ k p i) j,fun i j h1 h2 h3 h4=>?_,?_,fun q hq=>?_,?_⟩,ju (h.sm p k hpn hk),fun i j hi hj=>?_⟩
 ·unfold Bc
  rw[if_pos (by omega),e i j (by omega) h2 (by omega) h4]
  exact Int.mul_ediv_cancel _ h.ne
 ·rw[hM p k hp hpn (L3 _) hk]
  show _=mi k (fun i j=>A (KQ k p i) j) k k
  rw[Oq k p hk4 hp,aW]
 ·by_cases e:q=k
  ·subst e
   show mi q (fun i j=>A (KQ q p i) j) q q≠0
   rw[Oq q p hk4 hp,aW,← hM p q hp hpn (L3 _) hk]
   exact hnz
  ·rw[aa k p (q+1) hk4 hp (by omega)]
   exact hne q (by omega)
 ·rw[hd]
  by_cases e:p=k
  ·subst e
   rw[if_pos rfl,show(fun i j=>A (KQ p p i) j)=A from funext fun i=>funext fun j=>by rw[I3]]
  ·rw[if_neg e,fN n k p hn (by omega) hpn]
   cases tb<;>simp
 ·unfold Bc
  split
  ·exact fW (h.sm _ _ (Z8 hk hpn hi) hj) (h.sm _ _ (Z8 hk hpn hk) hk) (h.sm _ _ (Z8 hk hpn hi) hk) (h.sm _ _ (Z8 hk hpn hk) hj)
  ·exact ju (h.sm _ _ (Z8 hk hpn hi) hj)
theorem cw(k:Nat)(x:Int): Yj (Cj k x)=Yj x:=by
 unfold Cj
 split
 ·exact D6 x
 ·rfl
theorem Pd: ∀(n:Nat) (M:Nat→Nat→Int),(∀i j,Yj (M i j)≤S)→Yj (ZF n M)≤S*n+(1+n*n)
 | 0,_,_=>by show Yj 1≤_;exact L8 (VU (z:=1) (n:=1) (by decide)) (by omega)
 | n+1,M,h=>by
  have h1:∀k,Yj (Cj k (M 0 k*ZF n (fun i j=>M (EE 0 i) (EE k j))))≤S+(S*n+(1+n*n)):=fun k=>by
   rw[cw]
   exact Yy (h 0 k) (Pd n _ fun i j=>h _ _)
  have h2:=C1 h1 (n+1)
  have e1:S*(n+1)=S*n+S:=Nat.mul_succ S n
  have e2:(n+1)*(n+1)=n*n+n+n+1:=by grind
  show Yj (JD _ (n+1))≤_
  rw[e1,e2]
  omega
