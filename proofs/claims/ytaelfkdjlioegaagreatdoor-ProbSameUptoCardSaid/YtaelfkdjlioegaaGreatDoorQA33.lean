/- The walks and plain laws beneath the statements. -/
import Derived.Test.YtaelfkdjlioegaaGreatDoorQA18
import Derived.Test.YtaelfkdjlioegaaGreatDoorQA28
namespace Go.Proofs.YtaelfkdjlioegaaGreatDoor
def altI(k:Nat)(x:Int): Int:=if k % 2=1 then -x else x
def detI:Nat→(Nat→Nat→Int)→Int
 | 0,_=>1
 | n+1,M=>sumI (fun k=>altI k (M 0 k*detI n (fun i j=>M (skp 0 i) (skp k j)))) (n+1)
theorem sum_dy(f:Nat→Int)(e:Int): ∀n,sumD (fun k=>dy (f k) e) n=dy (sumI f n) e
 | 0=>(dy_zero _).symm
 | n+1=>by
  show sumD _ n+dy (f n) e=dy (sumI f n+f n) e
  rw[sum_dy f e n,dy_add]
theorem alt_dy(k:Nat)(m e:Int): alt k (dy m e)=dy (altI k m) e:=by
 unfold alt altI
 split
 ·exact dy_neg m e
 ·rfl
theorem det_dy(e:Int): ∀(n:Nat) (M:Nat→Nat→Int),detL n (fun i j=>dy (M i j) e)=dy (detI n M) (e*n)
 | 0,_=>by rw[show(e*((0:Nat):Int))=0 by simp];exact dy_one.symm
 | n+1,M=>by
  show sumD (fun k=>alt k (dy (M 0 k) e*detL n (wot 0 k (fun i j=>dy (M i j) e)))) (n+1)=_
  have h:∀k,alt k (dy (M 0 k) e*detL n (wot 0 k (fun i j=>dy (M i j) e)))=dy (altI k (M 0 k*detI n (fun i j=>M (skp 0 i) (skp k j)))) (e*((n+1:Nat):Int)):=fun k=>by
   have h1:detL n (wot 0 k (fun i j=>dy (M i j) e))=dy (detI n (fun i j=>M (skp 0 i) (skp k j))) (e*n):=det_dy e n (fun i j=>M (skp 0 i) (skp k j))
   rw[h1,dy_mul,alt_dy]
   congr 1
   rw[Int.natCast_add,Int.mul_add]
   simp
   omega
  rw[funext h,sum_dy]
  rfl
def d3(a b c d e f g h i:Int): Int:=a*(e*i-f*h)-b*(d*i-f*g)+c*(d*h-e*g)
def d4(a00 a01 a02 a03 a10 a11 a12 a13 a20 a21 a22 a23 a30 a31 a32 a33:Int): Int :=
 a00*d3 a11 a12 a13 a21 a22 a23 a31 a32 a33-a01*d3 a10 a12 a13 a20 a22 a23 a30 a32 a33+a02*d3 a10 a11 a13 a20 a21 a23 a30 a31 a33-a03*d3 a10 a11 a12 a20 a21 a22 a30 a31 a32
theorem detI_1(A:Nat→Nat→Int): detI 1 A=A 0 0:=by
 simp[detI,sumI,altI]
theorem detI_2(A:Nat→Nat→Int): detI 2 A=A 0 0*A 1 1-A 0 1*A 1 0:=by
 simp[detI,sumI,altI,skp];grind
theorem detI_3(A:Nat→Nat→Int): detI 3 A=d3 (A 0 0) (A 0 1) (A 0 2) (A 1 0) (A 1 1) (A 1 2) (A 2 0) (A 2 1) (A 2 2):=by
 simp[detI,sumI,altI,skp,d3];grind
theorem detI_4(A:Nat→Nat→Int): detI 4 A=d4 (A 0 0) (A 0 1) (A 0 2) (A 0 3) (A 1 0) (A 1 1) (A 1 2) (A 1 3) (A 2 0) (A 2 1) (A 2 2) (A 2 3) (A 3 0) (A 3 1) (A 3 2) (A 3 3):=by
 simp[detI,sumI,altI,skp,d4,d3];grind
def mi:Nat→(Nat→Nat→Int)→Nat→Nat→Int
 | 0,A,i,j=>A i j
 | 1,A,i,j=>A i j*A 0 0-A i 0*A 0 j
 | 2,A,i,j=>d3 (A 0 0) (A 0 1) (A 0 j) (A 1 0) (A 1 1) (A 1 j) (A i 0) (A i 1) (A i j)
 | _,A,i,j=>d4 (A 0 0) (A 0 1) (A 0 2) (A 0 j) (A 1 0) (A 1 1) (A 1 2) (A 1 j) (A 2 0) (A 2 1) (A 2 2) (A 2 j) (A i 0) (A i 1) (A i 2) (A i j)
def ls:Nat→(Nat→Nat→Int)→Int
 | 0,_=>1
 | k+1,A=>mi k A k k
theorem mi_step(k:Nat)(hk:k<3)(A:Nat→Nat→Int)(i j:Nat): mi k A i j*mi k A k k-mi k A i k*mi k A k j=mi (k+1) A i j*ls k A:=by
 have h:k=0∨k=1∨k=2:=by omega
 rcases h with rfl|rfl|rfl
 ·simp[mi,ls]
 ·simp only[mi,ls,d3];grind
 ·simp only[mi,ls,d3,d4];grind
theorem ls_det(n:Nat)(hn:n≤4)(A:Nat→Nat→Int): ls n A=detI n A:=by
 have h:n=0∨n=1∨n=2∨n=3∨n=4:=by omega
 rcases h with rfl|rfl|rfl|rfl|rfl
 ·rfl
 ·rw[detI_1];rfl
 ·rw[detI_2];simp only[mi,ls];grind
 ·rw[detI_3];rfl
 ·rw[detI_4];rfl
theorem mul_zero_or{a b:Int}(h:a*b=0)(hb:b≠0): a=0:=(Int.mul_eq_zero.1 h).resolve_right hb
theorem det_zero(n k:Nat)(hn:n≤4)(hk:k<n)(A:Nat→Nat→Int)(h:∀q,k≤q→q<n→mi k A q k=0)(hl:∀q,q<k→ls (q+1) A≠0): detI n A=0:=by
 have hc:(n=1∧k=0)∨(n=2∧k=0)∨(n=2∧k=1)∨(n=3∧k=0)∨(n=3∧k=1)∨(n=3∧k=2)∨(n=4∧k=0)∨(n=4∧k=1)∨(n=4∧k=2)∨(n=4∧k=3):=by omega
 rcases hc with⟨rfl,rfl⟩|⟨rfl,rfl⟩|⟨rfl,rfl⟩|⟨rfl,rfl⟩|⟨rfl,rfl⟩|⟨rfl,rfl⟩|⟨rfl,rfl⟩|⟨rfl,rfl⟩|⟨rfl,rfl⟩|⟨rfl,rfl⟩
 ·rw[detI_1];exact h 0 (by decide) (by decide)
 ·have h0:A 0 0=0:=h 0 (by decide) (by decide)
  have h1:A 1 0=0:=h 1 (by decide) (by decide)
  rw[detI_2,h0,h1];simp
 ·have h1:=h 1 (by decide) (by decide)
  rw[← ls_det 2 (by decide)];exact h1
 ·have h0:A 0 0=0:=h 0 (by decide) (by decide)
  have h1:A 1 0=0:=h 1 (by decide) (by decide)
  have h2:A 2 0=0:=h 2 (by decide) (by decide)
  rw[detI_3,h0,h1,h2];simp[d3]
 ·have h1:=h 1 (by decide) (by decide)
  have h2:=h 2 (by decide) (by decide)
  have h3:=mi_step 1 (by decide) A 2 2
  have hl0:ls 1 A≠0:=hl 0 (by decide)
  rw[h1,h2]at h3
  rw[← ls_det 3 (by decide)]
  exact mul_zero_or (by rw[show ls 3 A=mi 2 A 2 2 from rfl,← h3];simp) hl0
 ·rw[← ls_det 3 (by decide)];exact h 2 (by decide) (by decide)
 ·have h0:A 0 0=0:=h 0 (by decide) (by decide)
  have h1:A 1 0=0:=h 1 (by decide) (by decide)
  have h2:A 2 0=0:=h 2 (by decide) (by decide)
  have h3:A 3 0=0:=h 3 (by decide) (by decide)
  rw[detI_4,h0,h1,h2,h3];simp[d4,d3]
 ·have h1:=h 1 (by decide) (by decide)
  have h2:=h 2 (by decide) (by decide)
  have h3:=h 3 (by decide) (by decide)
  have hl0:ls 1 A≠0:=hl 0 (by decide)
  have key:detI 4 A*(ls 1 A*ls 1 A)=d3 (mi 1 A 1 1) (mi 1 A 1 2) (mi 1 A 1 3) (mi 1 A 2 1) (mi 1 A 2 2) (mi 1 A 2 3) (mi 1 A 3 1) (mi 1 A 3 2) (mi 1 A 3 3):=by
   rw[detI_4];simp only[mi,ls,d3,d4];grind
  rw[h1,h2,h3]at key
  exact mul_zero_or (by rw[key];simp[d3]) (fun e=>hl0 ((Int.mul_eq_zero.1 e).elim id id))
 ·have h2:=h 2 (by decide) (by decide)
  have h3:=h 3 (by decide) (by decide)
  have h4:=mi_step 2 (by decide) A 3 3
  have hl1:ls 2 A≠0:=hl 1 (by decide)
  rw[h2,h3]at h4
  rw[← ls_det 4 (by decide)]
  exact mul_zero_or (by rw[show ls 4 A=mi 3 A 3 3 from rfl,← h4];simp) hl1
 ·rw[← ls_det 4 (by decide)];exact h 3 (by decide) (by decide)
theorem swp_low{k p r:Nat}(hp:k≤p)(hr:r<k): swp k p r=r:=by unfold swp;rw[if_neg (by omega),if_neg (by omega)]
theorem mi_swp(k p:Nat)(hk:k<4)(hp:k≤p)(A:Nat→Nat→Int)(i j:Nat): mi k (fun i j=>A (swp k p i) j) i j=mi k A (swp k p i) j:=by
 have h:k=0∨k=1∨k=2∨k=3:=by omega
 rcases h with rfl|rfl|rfl|rfl
 ·rfl
 ·simp only[mi,swp_low hp (show 0<1 by decide)]
 ·simp only[mi,swp_low hp (show 0<2 by decide),swp_low hp (show 1<2 by decide)]
 ·simp only[mi,swp_low hp (show 0<3 by decide),swp_low hp (show 1<3 by decide),swp_low hp (show 2<3 by decide)]
theorem ls_swp(k p q:Nat)(hk:k<4)(hp:k≤p)(hq:q≤k)(A:Nat→Nat→Int): ls q (fun i j=>A (swp k p i) j)=ls q A:=by
 have h:q=0∨(q=1∧1≤k)∨(q=2∧2≤k)∨(q=3∧3≤k):=by omega
 rcases h with rfl|⟨rfl,h⟩|⟨rfl,h⟩|⟨rfl,h⟩
 ·rfl
 ·simp only[ls,mi,swp_low hp (show 0<k by omega)]
 ·simp only[ls,mi,swp_low hp (show 0<k by omega),swp_low hp (show 1<k by omega)]
 ·simp only[ls,mi,swp_low hp (show 0<k by omega),swp_low hp (show 1<k by omega),swp_low hp (show 2<k by omega)]
theorem det_swp(n k p:Nat)(hn:n≤4)(hk:k<p)(hp:p<n)(A:Nat→Nat→Int): detI n (fun i j=>A (swp k p i) j)=-detI n A:=by
 have hc:(n=2∧k=0∧p=1)∨(n=3∧k=0∧p=1)∨(n=3∧k=0∧p=2)∨(n=3∧k=1∧p=2)∨(n=4∧k=0∧p=1)∨(n=4∧k=0∧p=2)∨(n=4∧k=0∧p=3)∨(n=4∧k=1∧p=2)∨(n=4∧k=1∧p=3)∨(n=4∧k=2∧p=3):=by omega
 rcases hc with⟨rfl,rfl,rfl⟩|⟨rfl,rfl,rfl⟩|⟨rfl,rfl,rfl⟩|⟨rfl,rfl,rfl⟩|⟨rfl,rfl,rfl⟩|⟨rfl,rfl,rfl⟩|⟨rfl,rfl,rfl⟩|⟨rfl,rfl,rfl⟩|⟨rfl,rfl,rfl⟩|⟨rfl,rfl,rfl⟩ <;>
  simp only[detI_2,detI_3,detI_4,swp,d4,d3]<;>simp<;>grind
theorem bar_det(n:Nat)(hn:n≤4): ∀(d k:Nat),k+d=n→∀(A M:Nat→Nat→Int) (l:Int) (t:Bool) (z:Int),Bar n k M l t z→(∀i j,k≤i→i<n→k≤j→j<n→M i j=mi k A i j)→l=ls k A→(∀q,q<k→ls (q+1) A≠0)→z=if t then -detI n A else detI n A:=by
 intro d
 induction d with
 | zero =>
  intro k hk A M l t z h hM hl hne
  obtain rfl:k=n:=by omega
  rw[← ls_det k hn,← hl]
  cases h with
  | done=>rfl
  | zero _ _ _ _ hlt=>omega
  | step _ _ _ _ _ _ hlt=>omega
 | succ d ih =>
  intro k hk A M l t z h hM hl hne
  cases h with
  | done=>omega
  | zero _ _ _ _ hlt hz =>
   rw[det_zero n k hn hlt A (fun q h1 h2=>by rw[← hM q k h1 h2 (Nat.le_refl _) hlt];exact hz q h1 h2) hne]
   cases t<;>rfl
  | step _ _ _ _ p _ hlt hp hpn hnz hb =>
   have hk4:k<4:=by omega
   have e1:=ih (k+1) (by omega) (fun i j=>A (swp k p i) j) _ _ _ z hb (fun i j h1 h2 h3 h4=>by
    have hk3:k<3:=by omega
    unfold elimI
    rw[if_pos (by omega)]
    have hs:∀i,k≤i→i<n→k≤swp k p i:=fun i h1 h2=>by unfold swp;split<;>(try split)<;>omega
    simp only[hM _ _ (hs i (by omega) h2) (swp_lt hlt hpn h2) (show k≤j by omega) h4,hM _ _ (hs k (Nat.le_refl _) hlt) (swp_lt hlt hpn hlt) (Nat.le_refl k) hlt,hM _ _ (hs i (by omega) h2) (swp_lt hlt hpn h2) (Nat.le_refl k) hlt,hM _ _ (hs k (Nat.le_refl _) hlt) (swp_lt hlt hpn hlt) (show k≤j by omega) h4,← mi_swp k p hk4 hp A]
    rw[mi_step k hk3,ls_swp k p k hk4 hp (Nat.le_refl _),hl]
    refine Int.mul_ediv_cancel _ ?_
    rcases Nat.eq_zero_or_pos k with h0|h0
    ·subst h0;show(1:Int)≠0;decide
    ·obtain⟨q,rfl⟩:∃q,k=q+1:=⟨k-1,by omega⟩
     exact hne q (by omega)) (by
    rw[hM p k hp hpn (Nat.le_refl _) hlt]
    show _=mi k (fun i j=>A (swp k p i) j) k k
    rw[mi_swp k p hk4 hp,swp_k]) (fun q hq=>by
    by_cases e:q=k
    ·subst e
     show mi q (fun i j=>A (swp q p i) j) q q≠0
     rw[mi_swp q p hk4 hp,swp_k,← hM p q hp hpn (Nat.le_refl _) hlt]
     exact hnz
    ·rw[ls_swp k p (q+1) hk4 hp (by omega)]
     exact hne q (by omega))
   rw[e1]
   by_cases e:p=k
   ·subst e
    rw[if_pos rfl,show(fun i j=>A (swp p p i) j)=A from funext fun i=>funext fun j=>by rw[swp_self]]
   ·rw[if_neg e,det_swp n k p hn (by omega) hpn]
    cases t<;>simp
theorem bar_det0{n:Nat}(hn:n≤4){M:Nat→Nat→Int}{z:Int}(h:Bar n 0 M 1 false z): z=detI n M :=
 bar_det n hn n 0 (Nat.zero_add _) M M 1 false z h (fun _ _ _ _ _ _=>rfl) rfl (fun _ hq=>absurd hq (by omega))
theorem bsz_altI(k:Nat)(x:Int): bsz (altI k x)=bsz x:=by
 unfold altI
 split
 ·exact bsz_neg x
 ·rfl
theorem bsz_det{S:Nat}: ∀(n:Nat) (M:Nat→Nat→Int),(∀i j,bsz (M i j)≤S)→bsz (detI n M)≤S*n+(1+n*n)
 | 0,_,_=>by show bsz 1≤_;exact Nat.le_trans (bsz_le (z:=1) (n:=1) (by decide)) (by omega)
 | n+1,M,h=>by
  have h1:∀k,bsz (altI k (M 0 k*detI n (fun i j=>M (skp 0 i) (skp k j))))≤S+(S*n+(1+n*n)):=fun k=>by
   rw[bsz_altI]
   exact bsz_mul_le (h 0 k) (bsz_det n _ fun i j=>h _ _)
  have h2:=bsz_sumI h1 (n+1)
  have e1:S*(n+1)=S*n+S:=Nat.mul_succ S n
  have e2:(n+1)*(n+1)=n*n+n+n+1:=by grind
  show bsz (sumI _ (n+1))≤_
  rw[e1,e2]
  omega
