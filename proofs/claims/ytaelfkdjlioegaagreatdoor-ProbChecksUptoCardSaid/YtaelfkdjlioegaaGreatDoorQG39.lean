/- The walks and plain laws beneath the statements. -/
import Derived.Test.YtaelfkdjlioegaaGreatDoorQG38
import Derived.Test.YtaelfkdjlioegaaGreatDoorQG37
namespace Go.Proofs.YtaelfkdjlioegaaGreatDoor
open Tryz
set_option maxRecDepth 100000
open Go Go.RowKit
variable{ti:TI}{w0 w:World}{v:Value}
def dN(x:Dyadic): Nm:=⟨neg (dm x),Qh (dm x),de x⟩
def JK(pts:List (List Nm))(i j:Nat): Nm:=dN (nv (QL (Qe pts (i+1)) j)-nv (QL (Qe pts 0) j))
def Ji(pts:List (List Nm))(N i:Nat): List Nm:=(List.range N).map (JK pts i)
def GB(pts:List (List Nm))(N:Nat): List (List Nm):=(List.range N).map (Ji pts N)
theorem Ns{α:Type}(f:Nat→α)(k:Nat): (List.range k).map f++[f k]=(List.range (k+1)).map f:=by
 rw[List.range_succ,Sj];rfl
def dK(A:Option Addr)(c sz:Nat): Option Addr:=A.map fun a=>⟨a.block,if c=1 then a.off else a.off+sz,none⟩
theorem m4{t e sz n c:Nat}{ag:Option Bool}{A:Option Addr}{f:Nat→List Value}(hi:XT prog t=some ti)(hk:ti.k=.slice e sz ag)(hz:sz≠0)(hn:n+1≤c)(hr:RdK w0 A (n+1) sz f):
  Qt prog w0 (Instr.sliceAt t (.slice A (n+1) c) (some (.int .i64 1)) none none) (.slice (dK A c sz) n (c-1)):=fun W _=>by
 obtain⟨b,off,rfl,_⟩:=hr (S9 _)
 have h:=KY (P:=prog) (w:=W) (g:=b) (o:=off) (n:=n+1) (c:=c) (l:=1) (h:=n+1) (lo:=some (.int .i64 1)) (hi:=none) hi hk hz (.inr ⟨.i64,rfl⟩) (.inl ⟨rfl,rfl⟩) (by omega) hn
 rw[h,To]
 rfl
theorem l9{n c sz:Nat}{A:Option Addr}{f:Nat→List Value}(hn:n+1≤c)(hr:RdK w A (n+1) sz f): RdK w (dK A c sz) n sz (fun j=>f (j+1)):=fun h0=>by
 obtain⟨b,off,rfl,hc⟩:=hr (S9 _)
 have hne:c≠1:=by omega
 refine⟨b,off+sz,by simp[dK,hne],fun j hj i hi=>?_⟩
 have h:=hc (j+1) (by omega) i hi
 rw[Rr]at h
 rw[← h]
 congr 2
 omega
def FM(v:Value): List Value:=[v]
theorem Cr{α:Type}{P:Program}{t t2 ty e e1 k bytes bt cp3:Nat}{c:α→List Value}{ll ll':List (List α)}{l l':List α}{A A2:Option Addr}{cp cp2:Nat}(hT:RowT P t t2 e1 1 bytes)(hc:∀x,(c x).length=k)(hl:l=l')(hll:ll++[l']=ll')(hb:ll'.length*bytes≤140737488355328):
  ∀W,Below w0.heap.size w0 W→∀g,Bx W g bt #[.slice A2 l.length cp2]→∀x S,(QD (Yt e1 k c ll A cp) (Qd e k c l A2 cp2)).φ x S W →
   VP P W (fun y:Hp=>.slice y.1 ll'.length y.2) (fun y:Hp=>Yt e1 k c ll' y.1 y.2) x S (Kt .append #[t,t2] ty [.slice A ll.length cp,.slice (some ⟨g,0,none⟩) 1 cp3]):=by
 subst hl
 subst hll
 exact gX hT hc hb
theorem je{As:Option Addr}{cs:Nat}{Au:Nat→Option Addr}{cu:Nat→Nat}{pts:List (List Nm)}{N:Nat}(hN:N≤1048576)(hcs:N+1≤cs)(hpN:pts.length=N+1)(hpl:∀j,j<N+1→(Qe pts j).length=N)(hok:∀p,p∈pts→∀x,x∈p→okN x)(w:World)(hT0:Yk w)(hs:RdK w As (N+1) 1 (fun j=>[.slice (Au j) N (cu j)]))(hp:∀j,j<N+1→RdK w (Au j) N 3 (fun k=>QF (QL (Qe pts j) k))): NewIn prog w [] 102 #[.slice As (N+1) cs] (fun(y:Hp)=>Value.slice y.1 (GB pts N).length y.2) (fun(y:Hp)=>Yt 44 3 QF (GB pts N) y.1 y.2) :=
 BG (β:=Hp) Qk mixed (fun a w=>call102 a w) func102 ntmps102 results102 _ rfl 0 _ _ [.o 2 1 (.set (.slice (dK As cs 1) N (cs-1))),.nil 3 99999 44 1 FM,.cnv 3 99999 0 (Yt 44 3 QF ((List.range 0).map (Ji pts N)) none 0),Vs (fun(q1:Nat×Hp)=>(⟨41,[(0,lV As (N+1) cs),(3,lV q1.2.1 (((List.range q1.1).map (Ji pts N))).length q1.2.2),(9,lV (dK As cs 1) N (cs-1)),(10,iV (N:Int)),(11,iV (q1.1:Int))],[],[some (Yt 44 3 QF ((List.range q1.1).map (Ji pts N)) q1.2.1 q1.2.2)]⟩:St)) N ((0,none,0):Nat×Hp) (fun(q1:Nat×Hp)=>[.both [.o 4 0 (.set (.pointer (some (QJ (dK As cs 1) (q1.1*1+0))))),.o 4 1 (.set (.slice (Au (q1.1+1)) N (cu (q1.1+1)))),.nil 7 99999 32 3 QF,Vs (fun(q2:Nat×Hp)=>(⟨41,[(0,lV As (N+1) cs),(3,lV q1.2.1 (((List.range q1.1).map (Ji pts N))).length q1.2.2),(5,lV (Au (q1.1+1)) N (cu (q1.1+1))),(6,lV q2.2.1 (((List.range q2.1).map (JK pts q1.1))).length q2.2.2),(9,lV (dK As cs 1) N (cs-1)),(10,iV (N:Int)),(11,iV (q1.1:Int)),(16,iV (N:Int)),(17,iV (q2.1:Int))],[],[none,some (Qd 32 3 QF ((List.range q2.1).map (JK pts q1.1)) q2.2.1 q2.2.2)]⟩:St)) N ((0,none,0):Nat×Hp) (fun(q2:Nat×Hp)=>[.both [.reg 13 [],.o 9 3 (.set (.pointer (some (QJ (Au (q1.1+1)) (q2.1*3+0))))),.o 9 4 (.set (nA (QL (Qe pts (q1.1+1)) q2.1))),.o 9 6 (.set (.pointer (some (QJ As (0*1+0))))),.o 9 7 (.set (.slice (Au 0) N (cu 0))),.o 9 9 (.set (.pointer (some (QJ (Au 0) (q2.1*3+0))))),.o 9 10 (.set (nA (QL (Qe pts 0) q2.1))),.o 9 11 (.ret (.agg [bV ((JK pts q1.1 q2.1).b),sV ((JK pts q1.1 q2.1).s),iV ((JK pts q1.1 q2.1).e)])),.eff 9 13 1 (fun(y1:Hp)=>Value.slice y1.1 (((List.range (q2.1+1)).map (JK pts q1.1))).length y1.2) (fun(y1:Hp)=>Qd 32 3 QF ((List.range (q2.1+1)).map (JK pts q1.1)) y1.1 y1.2) (fun(y1:Hp)=>[.o 10 0 (.eq (iV ((q2.1+1:Nat):Int))),.nxt [y1]])] [.join 11 3 0 1,.eff 11 3 0 (fun(y2:Hp)=>Value.slice y2.1 (((List.range (q1.1+1)).map (Ji pts N))).length y2.2) (fun(y2:Hp)=>Yt 44 3 QF ((List.range (q1.1+1)).map (Ji pts N)) y2.1 y2.2) (fun(y2:Hp)=>[.o 12 0 (.eq (iV ((q1.1+1:Nat):Int))),.nxt [y2]])]])] []])] (fun W hW=>have hT:=Qn hT0 hW;have HS:=hs.up hW (fun _=>rfl);have HT:=(l9 (f:=fun j=>[.slice (Au j) N (cu j)]) hcs hs).up hW (fun _=>rfl);(fun(HP:∀j,j<N+1→RdK W (Au j) N 3 (fun k=>QF (QL (Qe pts j) k)))=>Yz (m4 (Qk 25 _ rfl) rfl (by decide) hcs HS) (show ∀(x:Value) (S:Nat→Prop) (w:World),(Qd 44 1 FM ([]:List Value) none 0).φ x S w→(Yt 44 3 QF ((List.range 0).map (Ji pts N)) none 0).φ x S w from Ix _ 3 QF _) (qV (.slice As (N+1) cs)) (qV (.slice ((0,none,0):Nat×Hp).2.1 (((List.range (((0,none,0):Nat×Hp).1)).map (Ji pts N))).length ((0,none,0):Nat×Hp).2.2)) (qV (.slice (dK As cs 1) N (cs-1))) (qI (N:Int)) (qI ((((0,none,0):Nat×Hp).1:Nat):Int)) (Kl (Yt 44 3 QF ((List.range 0).map (Ji pts N)) none 0) (Yt 44 3 QF ((List.range (((0,none,0):Nat×Hp).1)).map (Ji pts N)) ((0,none,0):Nat×Hp).2.1 ((0,none,0):Nat×Hp).2.2) fun _ _ _ h=>h)<|ai (show 0≤N from L9 _) fun(q1:Nat×Hp) (hk1:(q1.1≤N))=>Q4 (decide ((q1.1:Int)<(N:Int))) (fun hl1=>Yz (Q2 (c:=(cs-1)) (i:=q1.1) HT (Qm hl1)) (Xp (i:=q1.1) (o:=0) HT (Qm hl1) (by decide) rfl) (qV (.slice As (N+1) cs)) (qV (.slice q1.2.1 (((List.range q1.1).map (Ji pts N))).length q1.2.2)) (qV (.slice (Au (q1.1+1)) N (cu (q1.1+1)))) (qV (.slice ((0,none,0):Nat×Hp).2.1 (((List.range (((0,none,0):Nat×Hp).1)).map (JK pts q1.1))).length ((0,none,0):Nat×Hp).2.2)) (qV (.slice (dK As cs 1) N (cs-1))) (qI (N:Int))<|ZP (qI (q1.1:Int)) (qI (N:Int)) (qI ((((0,none,0):Nat×Hp).1:Nat):Int)) (JL (Yt 44 3 QF ((List.range q1.1).map (Ji pts N)) q1.2.1 q1.2.2)) (Kl (Qd 32 3 QF ([]:List Nm) none 0) (Qd 32 3 QF ((List.range (((0,none,0):Nat×Hp).1)).map (JK pts q1.1)) (((0,none,0):Nat×Hp).2.1) (((0,none,0):Nat×Hp).2.2)) fun _ _ _ h=>h)<|ai (show 0≤N from L9 _) fun(q2:Nat×Hp) (hk2:(q2.1≤N))=>Q4 (decide ((q2.1:Int)<(N:Int))) (fun hl2=>G4 (JI (c:=(cu (q1.1+1))) (i:=q2.1) (HP (q1.1+1) (Sx (Qm hl1))) (Qm hl2)) (Yb (i:=q2.1) (o:=0) (HP (q1.1+1) (Sx (Qm hl1))) (Qm hl2) (by decide) rfl rfl) (Q2 (c:=cs) (i:=0) HS (S9 N)) (Xp (i:=0) (o:=0) HS (S9 N) (by decide) rfl) (JI (c:=(cu 0)) (i:=q2.1) (HP 0 (S9 N)) (Qm hl2)) (Yb (i:=q2.1) (o:=0) (HP 0 (S9 N)) (Qm hl2) (by decide) rfl rfl) (show RetAt prog W 128 #[nA (QL (Qe pts (q1.1+1)) q2.1),nA (QL (Qe pts 0) q2.1)] (nA (JK pts q1.1 q2.1))from⟨fun a w=>call128 a w,fun W' hW'=>bF W' (hok _ (Yr (show q1.1+1<pts.length by rw[hpN];have:=L1 hl1;omega)) _ (Zc (show q2.1<(Qe pts (q1.1+1)).length by rw[hpl (q1.1+1) (by have:=L1 hl1;omega)];exact(Qm hl2)))).nd (hok _ (Yr (show 0<pts.length by rw[hpN];omega)) _ (Zc (show q2.1<(Qe pts 0).length by rw[hpl 0 (by omega)];exact(Qm hl2)))).nd (hok _ (Yr (show q1.1+1<pts.length by rw[hpN];have:=L1 hl1;omega)) _ (Zc (show q2.1<(Qe pts (q1.1+1)).length by rw[hpl (q1.1+1) (by have:=L1 hl1;omega)];exact(Qm hl2)))).db (hok _ (Yr (show 0<pts.length by rw[hpN];omega)) _ (Zc (show q2.1<(Qe pts 0).length by rw[hpl 0 (by omega)];exact(Qm hl2)))).db (by decide) (Qn hT hW')⟩)<|ai (Jv (w0:=W) (ty:=44) (c:=QF) (l:=((List.range q2.1).map (JK pts q1.1))) (l2:=[JK pts q1.1 q2.1]) (l':=((List.range (q2.1+1)).map (JK pts q1.1))) (A:=q2.2.1) (cp:=q2.2.2) (bt:=32) (m:=1) (cp2:=1) (cs:=[.bool ((JK pts q1.1 q2.1).b),.string ((JK pts q1.1 q2.1).s),.int .i64 ((JK pts q1.1 q2.1).e)]) XV QE Zy (Ns (JK pts q1.1) q2.1) (show(((List.range (q2.1+1)).map (JK pts q1.1))).length*32≤140737488355328 from by rw[Ri,S7];have:=L1 hl2;omega) rfl rfl) fun(y1:Hp)=>Yz (Qq (n:=q2.1) (by omega)) (qV (.slice As (N+1) cs)) (qV (.slice q1.2.1 (((List.range q1.1).map (Ji pts N))).length q1.2.2)) (qV (.slice (Au (q1.1+1)) N (cu (q1.1+1)))) (qV (.slice y1.1 (((List.range (q2.1+1)).map (JK pts q1.1))).length y1.2)) (qV (.slice (dK As cs 1) N (cs-1))) (qI (N:Int)) (qI (q1.1:Int))<|Jj (qI (N:Int)) (qI (((q2.1+1):Nat):Int)) (JL (Yt 44 3 QF ((List.range q1.1).map (Ji pts N)) q1.2.1 q1.2.2)) (Kl (Qd 32 3 QF ((List.range (q2.1+1)).map (JK pts q1.1)) y1.1 y1.2) (Qd 32 3 QF ((List.range (q2.1+1)).map (JK pts q1.1)) y1.1 y1.2) fun _ _ _ h=>h)<|ai (show q2.1+1≤N from Qm hl2) (show N-(q2.1+1)<N-q2.1 from by have:=L1 hl2;omega)) fun hl2=>ai (Cr (w0:=W) (e:=32) (ty:=132) (bt:=44) (cp3:=1) (ll:=((List.range q1.1).map (Ji pts N))) (l:=((List.range q2.1).map (JK pts q1.1))) (l':=Ji pts N q1.1) (ll':=((List.range (q1.1+1)).map (Ji pts N))) (A:=q1.2.1) (A2:=q2.2.1) (cp:=q1.2.2) (cp2:=q2.2.2) Kj QE (show((List.range q2.1).map (JK pts q1.1))=Ji pts N q1.1 from by rw[(show q2.1=N from by have:=La hl2;omega)];rfl) (Ns (Ji pts N) q1.1) (show(((List.range (q1.1+1)).map (Ji pts N))).length*24≤140737488355328 from by rw[Ri,S7];have:=L1 hl1;omega)) fun(y2:Hp)=>G4 (Qq (n:=q1.1) (by omega)) (qV (.slice As (N+1) cs)) (qV (.slice y2.1 (((List.range (q1.1+1)).map (Ji pts N))).length y2.2)) (qV (.slice (dK As cs 1) N (cs-1))) (qI (N:Int)) (qI (((q1.1+1):Nat):Int)) (Kl (Yt 44 3 QF ((List.range (q1.1+1)).map (Ji pts N)) y2.1 y2.2) (Yt 44 3 QF ((List.range (q1.1+1)).map (Ji pts N)) y2.1 y2.2) fun _ _ _ h=>h)<|ai (show q1.1+1≤N from Qm hl1) (show N-(q1.1+1)<N-q1.1 from by have:=L1 hl1;omega)) fun hl1=>(show ∃y:Hp,SV.val (.slice q1.2.1 (((List.range q1.1).map (Ji pts N))).length q1.2.2)=SV.val ((fun(y:Hp)=>Value.slice y.1 (GB pts N).length y.2) y)∧∀(x:Value) (S:Nat→Prop) (w:World),(Yt 44 3 QF ((List.range q1.1).map (Ji pts N)) q1.2.1 q1.2.2).φ x S w→((fun(y:Hp)=>Yt 44 3 QF (GB pts N) y.1 y.2) y).φ x S w from⟨q1.2,(by rw[(show q1.1=N from by have:=La hl1;omega)];rfl),fun x S w h=>(by rw[(show q1.1=N from by have:=La hl1;omega)]at h;exact h)⟩)) (fun j hj=>(hp j hj).below (fun _=>rfl) hW)) fun W=>by kernel_rfl
theorem lA:ND nm0.b nm0.s nm0.e (nv nm0):=⟨rfl,by decide,by decide,by decide⟩
theorem nm0_ok:okN nm0:=⟨by decide,by decide,by decide⟩
def Zb(pts:List (List Nm))(N i j:Nat): Dyadic:=nv (QL ((GB pts N).getD i []) j)
theorem RD{x:Dyadic}{L T:Nat}(h:DB L T x)(hLT:L+T≤4000000): nv (dN x)=x:=(VI h hLT).val
section
variable {As:Option Addr} {cs:Nat} {Au:Nat→Option Addr} {cu:Nat→Nat} {pts:List (List Nm)} {N:Nat} (hpN:pts.length=N+1) (hpl:∀j,j<N+1→(Qe pts j).length=N) (hok:∀p,p∈pts→∀x,x∈p→okN x)
include hpN hpl hok
theorem bR{i j:Nat}(hi:i<N)(hj:j<N): DB 200 361 (nv (QL (Qe pts (i+1)) j)-nv (QL (Qe pts 0) j)):=by
 have m1:=hok _ (Yr (show i+1<pts.length by omega)) _ (Zc (show j<(Qe pts (i+1)).length by rw[hpl (i+1) (by omega)];exact hj))
 have m0:=hok _ (Yr (show 0<pts.length by omega)) _ (Zc (show j<(Qe pts 0).length by rw[hpl 0 (by omega)];exact hj))
 exact OQ m1.db m0.db
omit hpN hpl hok in
theorem aJ{i j:Nat}(hi:i<N)(hj:j<N): QL ((GB pts N).getD i []) j=JK pts i j:=by
 have h1:i<(GB pts N).length:=by simp[GB,hi]
 rw[XI h1]
 have h2:(GB pts N)[i]=Ji pts N i:=by simp[GB]
 rw[h2]
 have h3:j<(Ji pts N i).length:=by simp[Ji,hj]
 unfold QL
 rw[XI h3]
 simp[Ji]
theorem PC{i j:Nat}(hi:i<N)(hj:j<N): Zb pts N i j=nv (QL (Qe pts (i+1)) j)-nv (QL (Qe pts 0) j):=by
 unfold Zb
 rw[aJ hi hj]
 exact RD (bR hpN hpl hok hi hj) (by decide)
theorem bU(i j:Nat): ND (QL ((GB pts N).getD i []) j).b (QL ((GB pts N).getD i []) j).s (QL ((GB pts N).getD i []) j).e (Zb pts N i j)∧DB 200 361 (Zb pts N i j):=by
 by_cases h:i<N∧j<N
 ·have h1:=bR hpN hpl hok h.1 h.2
  have h2:=VI h1 (by decide)
  rw[PC hpN hpl hok h.1 h.2,aJ h.1 h.2]
  exact⟨h2,h1⟩
 ·have h3:QL ((GB pts N).getD i []) j=nm0:=by
   by_cases hi:i<N
   ·have h1:i<(GB pts N).length:=by simp[GB,hi]
    rw[XI h1]
    have h2:(GB pts N)[i]=Ji pts N i:=by simp[GB]
    rw[h2]
    unfold QL
    rw[List.getD,List.getElem?_eq_none (by simp[Ji];omega)]
    rfl
   ·rw[List.getD,List.getElem?_eq_none (by simp[GB];omega)]
    rfl
  unfold Zb
  rw[h3]
  exact⟨lA,Cd nm0_ok.db (by decide) (by decide)⟩
omit hpN hpl hok in
theorem nk{A:Option Addr}{cp:Nat}{x:Value}{S:Nat→Prop}(h:(Yt 44 3 QF (GB pts N) A cp).φ x S w): RdM w A N (fun _=>N) (fun i j=>(QL ((GB pts N).getD i []) j).b) (fun i j=>(QL ((GB pts N).getD i []) j).s) (fun i j=>(QL ((GB pts N).getD i []) j).e):=by
 have h1:=dQ QE nm0 h
 have hl:(GB pts N).length=N:=by simp[GB]
 rw[hl]at h1
 intro h0
 obtain⟨b,off,e,hc⟩:=h1 h0
 refine⟨b,off,e,fun i hi=>?_⟩
 obtain⟨Ai,ci,k1,k2,k3,k4⟩:=hc i hi
 have h2:((GB pts N).getD i []).length=N:=by
  rw[XI (show i<(GB pts N).length by rw[hl];exact hi)]
  simp[GB,Ji]
 dsimp only at k1 k2 k3 k4
 rw[h2]at k1 k2 k3 k4
 exact⟨Ai,ci,k1,k2,k3,k4⟩
omit hok in
theorem RC(h1:1≤N)(h8:N≤8): DH pts=(N:Int):=by
 unfold DH
 have e2:((pts.length:Int)-1)=(N:Int):=by rw[hpN];omega
 rw[e2,Lk (by omega:¬(N:Int)<1),Lk (by omega:¬(N:Int)>8),Yp]
 ·rfl
 ·intro j hj
  rw[hpN]at hj
  unfold QB
  rw[hpl j hj]
  simp
omit hok in
theorem kQ{lo:Nat}(h1:1≤N)(h4:N≤4)(hs:RdK w As (N+1) 1 (fun j=>[.slice (Au j) N (cu j)]))(hv:∀j,j<N+1→SlV lo 3 Jm w (Qe pts j) (.slice (Au j) N (cu j))): RetAt prog w 100 #[.slice As (N+1) cs] (.int .i64 (N:Int)):=by
 have h:=ng (cs:=cs) (vs:=fun j=>.slice (Au j) N (cu j)) (l:=pts) (by omega) w (by rw[hpN];exact hs) (by rw[hpN];exact hv)
 rw[hpN]at h
 have e:=RC hpN hpl h1 (L8 h4 (by decide))
 rw[e]at h
 exact h
end
theorem fH{lo:Nat}{As:Option Addr}{cs:Nat}{Au:Nat→Option Addr}{cu:Nat→Nat}{pts:List (List Nm)}{N:Nat}(hN:N≤1048576)(hcs:N+1≤cs)(hpN:pts.length=N+1)(hpl:∀j,j<N+1→(Qe pts j).length=N)(hok:∀p,p∈pts→∀x,x∈p→okN x)(h1:1≤N)(h4:N≤4)(w:World)(hT0:Yk w)(hs:RdK w As (N+1) 1 (fun j=>[.slice (Au j) N (cu j)]))(hp:∀j,j<N+1→RdK w (Au j) N 3 (fun k=>QF (QL (Qe pts j) k)))(hv:∀j,j<N+1→SlV lo 3 Jm w (Qe pts j) (.slice (Au j) N (cu j))): RetAt prog w 66 #[.slice As (N+1) cs] (.tuple #[nA (dN (Xd N (Zb pts N))),.int .i64 0]) :=
 Qi Qk mixed (fun a w=>call66 a w) func66 ntmps66 results66 _ rfl _ [.o 1 1 (.ret (iV (N:Int))),.br false,.mk 3 1 [] (fun(y1:Hp)=>Value.slice y1.1 (GB pts N).length y1.2) (fun(y1:Hp)=>Yt 44 3 QF (GB pts N) y1.1 y1.2) (fun(y1:Hp)=>[.o 3 2 (.retr [0] (.tuple #[nA (dN (Xd N (Zb pts N))),.int .i64 0]))])] (fun W hW hR=>have hT:=Qn hT0 hW;have HS:=hs.up hW (fun _=>rfl);(fun(HP:∀j,j<N+1→RdK W (Au j) N 3 (fun k=>QF (QL (Qe pts j) k)))=>(fun(HV:∀j,j<N+1→SlV lo 3 Jm W (Qe pts j) (.slice (Au j) N (cu j)))=>ZG (kQ (cs:=cs) hpN hpl h1 h4 HS HV) (show((N:Int)==0)=false from R6.2 (by omega))<|ai (je hN hcs hpN hpl hok W hT HS HP) fun(y1:Hp)=>ai (show E1 prog W [Yt 44 3 QF (GB pts N) y1.1 y1.2] 101 #[.slice y1.1 (GB pts N).length y1.2] (.tuple #[nA (dN (Xd N (Zb pts N))),.int .i64 0])from⟨fun a w=>call101 a w,fun W' hW' x S hφ=>(by have h:=aM 200 361 (by decide) N h4 y1.1 y1.2 _ _ _ (Zb pts N) W' (fun i j=>(bU hpN hpl hok i j).1) (fun i j=>(bU hpN hpl hok i j).2) (nk hφ) (Qn hT hW');rw[show(GB pts N).length=N from by simp[GB]];exact h)⟩)<|(show(.tuple #[nA (dN (Xd N (Zb pts N))),.int .i64 0]:Value)=.tuple #[nA (dN (Xd N (Zb pts N))),.int .i64 0]from rfl)) (fun j hj=>(hv j hj).below Xx hW)) (fun j hj=>(hp j hj).below (fun _=>rfl) hW)) fun W=>by kernel_rfl
def BH(pts:List (List Nm))(N:Nat): Int:=bif sg (dN (Xd N (Zb pts N)))==0 then 5 else 0
theorem Ws{lo:Nat}{As:Option Addr}{cs:Nat}{Au:Nat→Option Addr}{cu:Nat→Nat}{pts:List (List Nm)}{N:Nat}(hN:N≤1048576)(hcs:N+1≤cs)(hpN:pts.length=N+1)(hpl:∀j,j<N+1→(Qe pts j).length=N)(hok:∀p,p∈pts→∀x,x∈p→okN x)(h1:1≤N)(h4:N≤4)(w:World)(hT0:Yk w)(hs:RdK w As (N+1) 1 (fun j=>[.slice (Au j) N (cu j)]))(hp:∀j,j<N+1→RdK w (Au j) N 3 (fun k=>QF (QL (Qe pts j) k)))(hv:∀j,j<N+1→SlV lo 3 Jm w (Qe pts j) (.slice (Au j) N (cu j))): RetAt prog w 25 #[.slice As (N+1) cs] (.int .i64 (BH pts N)) :=
 have E0:=eI (BH pts N);Qi Qk mixed (fun a w=>call25 a w) func25 ntmps25 results25 _ rfl _ [.o 1 1 (.ret (.tup [.agg [bV ((dN (Xd N (Zb pts N))).b),sV ((dN (Xd N (Zb pts N))).s),iV ((dN (Xd N (Zb pts N))).e)],iV 0])),.o 2 4 (.ret (iV (sg (dN (Xd N (Zb pts N)))))),.both [] []] (fun W hW hR=>have hT:=Qn hT0 hW;have HS:=hs.up hW (fun _=>rfl);(fun(HP:∀j,j<N+1→RdK W (Au j) N 3 (fun k=>QF (QL (Qe pts j) k)))=>(fun(HV:∀j,j<N+1→SlV lo 3 Jm W (Qe pts j) (.slice (Au j) N (cu j)))=>ZG (fH hN hcs hpN hpl hok h1 h4 W hT HS HP HV) (rc W call67 fun W=>KX (dN (Xd N (Zb pts N))).s (dN (Xd N (Zb pts N))).b (dN (Xd N (Zb pts N))).e W)<|Q4 ((sg (dN (Xd N (Zb pts N))))==0) (fun hz=>(E0 5 (by unfold BH;rw[hz];rfl))) fun hz=>(E0 0 (by unfold BH;rw[hz];rfl))) (fun j hj=>(hv j hj).below Xx hW)) (fun j hj=>(hp j hj).below (fun _=>rfl) hW)) fun W=>by kernel_rfl
theorem M3{lo:Nat}{pts:List (List Nm)}{N:Nat}(hpN:pts.length=N+1)(hpl:∀j,j<N+1→(Qe pts j).length=N)(h:SlV lo 1 (SN lo) w pts v):
  ∃(As:Option Addr) (cs:Nat) (Au:Nat→Option Addr) (cu:Nat→Nat),v=.slice As (N+1) cs∧N+1≤cs∧RdK w As (N+1) 1 (fun j=>[.slice (Au j) N (cu j)])∧(∀j,j<N+1→RdK w (Au j) N 3 (fun k=>QF (QL (Qe pts j) k)))∧∀j,j<N+1→SlV lo 3 Jm w (Qe pts j) (.slice (Au j) N (cu j)):=by
 obtain⟨As,cs,us,rfl,h1,_,h3,h4⟩:=h.rdPt
 rw[hpN]at h1 h3 h4 ⊢
 have key:∀j,∃(A:Option Addr) (c:Nat),j<N+1→us j=.slice A N c∧RdK w A N 3 (fun k=>QF (QL (Qe pts j) k)):=fun j=>by
  by_cases hj:j<N+1
  ·obtain⟨A,c,e,_,_,hr⟩:=(h4 j hj).enc nm0
   rw[hpl j hj]at e hr
   exact⟨A,c,fun _=>⟨e,hr⟩⟩
  ·exact⟨none,0,fun h=>absurd h hj⟩
 refine⟨As,cs,fun j=>Classical.choose (key j),fun j=>Classical.choose (Lj (key j)),rfl,h1,h3.congr fun j hj=>?_,fun j hj=>?_,fun j hj=>?_⟩
 ·rw[(Lj (Lj (key j)) hj).1]
 ·exact(Lj (Lj (key j)) hj).2
 ·rw[← (Lj (Lj (key j)) hj).1]
  exact h4 j hj
theorem aR{lo:Nat}{pts:List (List Nm)}{N:Nat}(hpN:pts.length=N+1)(hpl:∀j,j<N+1→(Qe pts j).length=N)(hok:∀p,p∈pts→∀x,x∈p→okN x)(h1:1≤N)(h4:N≤4)(w:World)(hT:Yk w)(h:SlV lo 1 (SN lo) w pts v): RetAt prog w 25 #[v] (.int .i64 (BH pts N)):=by
 obtain⟨As,cs,Au,cu,rfl,k1,k2,k3,k4⟩:=M3 hpN hpl h
 exact Ws (by omega) k1 hpN hpl hok h1 h4 w hT k2 k3 k4
def Aw(M:Nat→Nat→Nm)(i j:Nat): Dyadic:=nv (M i j)
structure okM (L T:Nat) (M:Nat→Nat→Nm):Prop where
 nd:∀i j,ND (M i j).b (M i j).s (M i j).e (Aw M i j)
 lo:∀i j,-1000000≤(M i j).e
 db:∀i j,DB L T (Aw M i j)
def mv(k:Nat)(M:Nat→Nat→Nm): Nat→Nat→Nm:=fun i j=>M (EE 0 i) (EE k j)
theorem okM.mn{L T:Nat}{M:Nat→Nat→Nm}(h:okM L T M)(k:Nat): okM L T (mv k M):=⟨fun _ _=>h.nd _ _,fun _ _=>h.lo _ _,fun _ _=>h.db _ _⟩
def Eg(M:Nat→Nat→Nm)(i k:Nat): List Nm:=(List.range k).map (M i)
def P5(M:Nat→Nat→Nm)(i k m:Nat): List Nm:=(List.range m).map fun j=>M i (k+1+j)
def Dn(M:Nat→Nat→Nm)(k n i:Nat): List Nm:=(List.range n).map (mv k M i)
theorem ly{M:Nat→Nat→Nm}{k n i:Nat}(hk:k≤n): Eg M (i+1) k++P5 M (i+1) k (n-k)=Dn M k n i:=by
 apply List.ext_getElem?
 intro j
 unfold Eg P5 Dn mv
 have e0:EE 0 i=i+1:=by simp[EE]
 rw[e0]
 by_cases h1:j<k
 ·rw[List.getElem?_append_left (by simpa using h1)]
  simp[h1,show j<n by omega,EE]
 ·rw[List.getElem?_append_right (by simpa using h1)]
  by_cases h2:j<n
  ·simp only[Ri,S7]
   rw[List.getElem?_map,List.getElem?_map,List.getElem?_range (by omega),List.getElem?_range h2]
   simp only[T4,EE,if_neg h1]
   congr 2
   omega
  ·rw[List.getElem?_eq_none (by simp;omega),List.getElem?_eq_none (by simp;omega)]
def G9(M:Nat→Nat→Nm)(n k:Nat): Dyadic:=Ke (fun k=>B6 k (Aw M 0 k*Xd n (G1 0 k (Aw M)))) k
def Hx(M:Nat→Nat→Nm)(n k:Nat): Dyadic:=Aw M 0 k*Xd n (G1 0 k (Aw M))
theorem I8(M:Nat→Nat→Nm)(n k:Nat): G9 M n (k+1)=G9 M n k+B6 k (Hx M n k):=rfl
section
variable {L T n:Nat} {M:Nat→Nat→Nm} (hM:okM L T M) (hLT:(L+T+8)*8≤1000000) (hn:n+1≤8)
include hM hLT hn
omit hLT in
theorem Nb(k:Nat): DB (L*(n+1)) ((T+8)*(n+1)+1) (Hx M n k):=gg hn hM.db k
theorem jR(k:Nat): ND (dN (Xd n (G1 0 k (Aw M)))).b (dN (Xd n (G1 0 k (Aw M)))).s (dN (Xd n (G1 0 k (Aw M)))).e (Xd n (G1 0 k (Aw M))):=by
 have h1:=Dk n (G1 0 k (Aw M)) (by omega) (fun i j=>hM.db _ _)
 have h2:=Vw hn hLT
 refine VI h1 ?_
 have h3:L*n≤L*(n+1):=Lt _ (by omega)
 have h4:(T+8)*n≤(T+8)*(n+1):=Lt _ (by omega)
 omega
theorem kH(k:Nat): -1000001≤(dN (Xd n (G1 0 k (Aw M)))).e:=by
 have h1:=(ZZ (Dk n (G1 0 k (Aw M)) (by omega) (fun i j=>hM.db _ _))).1
 have h2:=Vw hn hLT
 have h3:L*n≤L*(n+1):=Lt _ (by omega)
 show -1000001≤de _
 have h5:((L*n:Nat):Int)≤1000001:=by omega
 omega
end
theorem dF(P:Program)(w0:World)(t:TypeId)(x y:Operand)(k:Nat): Qt P w0 (do eqGuard .rem t x y (.int .i64 (k:Int)) (.int .i64 2);binOp .rem t (.int .i64 (k:Int)) (.int .i64 2)) (.int .i64 (((k % 2:Nat):Int))):=fun W _=>by
 have h:Int.tmod (k:Int) 2=((k % 2:Nat):Int):=by
  rw[Sn (Int.natCast_nonneg k)];rfl
 simp[eqGuard,binOp,go_sem,h]
theorem lr{t e sz n c k:Nat}{ag:Option Bool}{A:Option Addr}{f:Nat→List Value}{m:Nat}(hi:XT prog t=some ti)(hk:ti.k=.slice e sz ag)(hz:sz≠0)(hn:0<n)(hkn:k≤n)(hnc:n≤c)(hm:m=k)(hr:RdK w0 A n sz f):
  Qt prog w0 (Instr.sliceAt t (.slice A n c) none (some (.int .i64 (k:Int))) none) (.slice A m c):=fun W _=>by
 subst hm
 obtain⟨b,off,rfl,_⟩:=hr hn
 have h:=KY (P:=prog) (w:=W) (g:=b) (o:=off) (n:=n) (c:=c) (l:=0) (h:=m) (lo:=none) (hi:=some (.int .i64 (m:Int))) hi hk hz (.inl ⟨rfl,rfl⟩) (.inr ⟨.i64,rfl⟩) (L9 _) (by omega)
 rw[h]
 simp
def mQ(A:Option Addr)(c k sz:Nat): Option Addr:=A.map fun a=>⟨a.block,if c=k then a.off else a.off+k*sz,none⟩
theorem nD{t e sz n c k:Nat}{ag:Option Bool}{A:Option Addr}{f:Nat→List Value}{m:Nat}(hi:XT prog t=some ti)(hk:ti.k=.slice e sz ag)(hz:sz≠0)(hn:0<n)(hkn:k≤n)(hnc:n≤c)(hm:m=n-k)(hr:RdK w0 A n sz f):
  Qt prog w0 (Instr.sliceAt t (.slice A n c) (some (.int .i64 (k:Int))) none none) (.slice (mQ A c k sz) m (c-k)):=fun W _=>by
 subst hm
 obtain⟨b,off,rfl,_⟩:=hr hn
 have h:=KY (P:=prog) (w:=W) (g:=b) (o:=off) (n:=n) (c:=c) (l:=k) (h:=n) (lo:=some (.int .i64 (k:Int))) (hi:=none) hi hk hz (.inr ⟨.i64,rfl⟩) (.inl ⟨rfl,rfl⟩) hkn hnc
 rw[h]
 rfl
theorem iX{M:Nat→Nat→Nm}{i k n c:Nat}{A:Option Addr}(hkn:k≤n)(hA:A=none→n=0∧c=0)(hr:RdK w A n 3 (fun j=>QF (M i j))): JN QF (Eg M i k) w (.slice A (Eg M i k).length c):=by
 refine ZA QE (by decide) (d:=nm0) ?_ (fun h=>?_)
 ·intro h0
  have hl:(Eg M i k).length=k:=by simp[Eg]
  rw[hl]at h0
  obtain⟨b,off,e,hc⟩:=hr (by omega)
  refine⟨b,off,e,fun j hj i' hi'=>?_⟩
  rw[hl]at hj
  show _=(QF ((Eg M i k).getD j nm0))[i']?
  rw[XI (by rw[hl];exact hj),show(Eg M i k)[j]'(by rw[hl];exact hj)=M i j by simp[Eg]]
  exact hc j (by omega) i' hi'
 ·obtain⟨h1,h2⟩:=hA h
  exact⟨by simp[Eg];omega,h2⟩
theorem kR{M:Nat→Nat→Nm}{i k n c m:Nat}{A:Option Addr}(hn:0<n)(hnc:n≤c)(hm:k+1+m=n)(hr:RdK w A n 3 (fun j=>QF (M i j))): JN QF (P5 M i k m) w (.slice (mQ A c (k+1) 3) (P5 M i k m).length (c-(k+1))):=by
 obtain⟨b,off,rfl,hc⟩:=hr hn
 have hl:(P5 M i k m).length=m:=by simp[P5]
 refine ZA QE (by decide) (d:=nm0) ?_ (fun h=>by cases h)
 intro h0
 rw[hl]at h0
 have hne:c≠k+1:=by omega
 refine⟨b,off+(k+1)*3,by simp[mQ,hne],fun j hj i' hi'=>?_⟩
 rw[hl]at hj
 show _=(QF ((P5 M i k m).getD j nm0))[i']?
 rw[XI (by rw[hl];exact hj),show(P5 M i k m)[j]'(by rw[hl];exact hj)=M i (k+1+j)by simp[P5]]
 have h:=hc (k+1+j) (by omega) i' hi'
 rw[← h]
 congr 2
 rw[Rv (k+1) j 3]
 omega
theorem bD{n N L T c:Nat}{M:Nat→Nat→Nm}{A:Option Addr}{Ai:Nat→Option Addr}{ci:Nat→Nat}(hN:N=n+1)(hM:okM L T M)(hLT:(L+T+8)*8≤1000000)(hn:n+1≤8)(w:World)(ha:RdK w A N 1 (fun i=>[.slice (Ai i) N (ci i)]))(hr:∀i,i<N→N≤ci i∧(Ai i=none→N=0∧ci i=0)∧RdK w (Ai i) N 3 (fun j=>QF (M i j)))(HIH:∀(k m:Nat) (B:Option Addr) (d:Nat) (W':World) (x:Value) (S:Nat→Prop),m=n→(Yt 44 3 QF ((List.range m).map (Dn M k n)) B d).φ x S W'→Calls prog 110 #[.slice B ((List.range m).map (Dn M k n)).length d] W' fun e w'=>e=.returned (nA (dN (Xd n (G1 0 k (Aw M)))))∧Below W'.heap.size W' w'): RetAt prog w 110 #[.slice A N c] (nA (dN (Xd (n+1) (Aw M)))) :=
 let Z0:OB:=some (32,[bV false,sV ⟨#[]⟩,iV 0]);Qi Qk mixed (fun a w=>call110 a w) func110 ntmps110 results110 _ rfl _ [.br false,.lop (fun(q1:Nat×Hp)=>(⟨64,[(0,lV A N c),(2,.ptr 0 0),(3,.ptr 1 0),(4,iV (q1.1:Int))],[none,some (32,[bV ((dN (G9 M n q1.1)).b),sV ((dN (G9 M n q1.1)).s),iV ((dN (G9 M n q1.1)).e)])],[]⟩:St)) (fun(q1:Nat×Hp)=>(q1.1≤N)) (fun(q1:Nat×Hp)=>(N-q1.1)) (((0,none,0):Nat×Hp):Nat×Hp) (fun(q1:Nat×Hp) (u:List Hp)=>(q1.1+1,none,0)) (fun(q1:Nat×Hp)=>[.both [.nil 9 99999 44 1 FM,.cnv 9 99999 0 (Yt 44 3 QF ((List.range 0).map (Dn M q1.1 n)) none 0),.lop (fun(q2:Nat×Hp)=>(⟨64,[(0,lV A N c),(2,.ptr 0 0),(3,.ptr 1 0),(4,iV (q1.1:Int)),(5,lV q2.2.1 (((List.range q2.1).map (Dn M q1.1 n))).length q2.2.2),(6,iV ((q2.1+1:Nat):Int))],[none,none],[some (Yt 44 3 QF ((List.range q2.1).map (Dn M q1.1 n)) q2.2.1 q2.2.2)]⟩:St)) (fun(q2:Nat×Hp)=>(q2.1+1≤N)) (fun(q2:Nat×Hp)=>(N-q2.1)) (((0,none,0):Nat×Hp):Nat×Hp) (fun(q2:Nat×Hp) (u:List Hp)=>(q2.1+1,u.headD (none,0))) (fun(q2:Nat×Hp)=>[.both [.o 11 3 (.set (.pointer (some (QJ A ((q2.1+1)*1+0))))),.o 11 4 (.set (.slice (Ai (q2.1+1)) N (ci (q2.1+1)))),.o 11 6 (.set (.slice (Ai (q2.1+1)) (Eg M (q2.1+1) q1.1).length (ci (q2.1+1)))),.row 11 7 2 [26] 32 3 QF ([]:List Nm) (fun(y1:Hp)=>[.eff 11 7 1 (fun(y2:Hp)=>Value.slice y2.1 ((Eg M (q2.1+1) q1.1)).length y2.2) (fun(y2:Hp)=>Qd 32 3 QF (Eg M (q2.1+1) q1.1) y2.1 y2.2) (fun(y2:Hp)=>[.o 12 4 (.set (.pointer (some (QJ A ((q2.1+1)*1+0))))),.o 12 5 (.set (.slice (Ai (q2.1+1)) N (ci (q2.1+1)))),.o 12 7 (.eq (iV ((q1.1+1:Nat):Int))),.o 12 8 (.set (.slice (mQ (Ai (q2.1+1)) (ci (q2.1+1)) (q1.1+1) 3) (P5 M (q2.1+1) q1.1 (n-q1.1)).length (ci (q2.1+1)-(q1.1+1)))),.eff 12 9 1 (fun(y3:Hp)=>Value.slice y3.1 ((Dn M q1.1 n q2.1)).length y3.2) (fun(y3:Hp)=>Qd 32 3 QF (Dn M q1.1 n q2.1) y3.1 y3.2) (fun(y3:Hp)=>[.join 12 11 0 1,.eff 12 11 0 (fun(y4:Hp)=>Value.slice y4.1 (((List.range (q2.1+1)).map (Dn M q1.1 n))).length y4.2) (fun(y4:Hp)=>Yt 44 3 QF ((List.range (q2.1+1)).map (Dn M q1.1 n)) y4.1 y4.2) (fun(y4:Hp)=>[.o 10 1 (.eq (iV ((q2.1+1+1:Nat):Int))),.nxt [y4]])])])])] [.reg 10 [],.o 13 1 (.set (.pointer (some (QJ A (0*1+0))))),.o 13 2 (.set (.slice (Ai 0) N (ci 0))),.o 13 4 (.set (.pointer (some (QJ (Ai 0) (q1.1*3+0))))),.o 13 5 (.set (nA (M 0 q1.1))),.o 13 7 (.retr [0] (nA (dN (Xd n (G1 0 q1.1 (Aw M)))))),.o 13 8 (.ret (.agg [bV ((dN (Hx M n q1.1)).b),sV ((dN (Hx M n q1.1)).s),iV ((dN (Hx M n q1.1)).e)])),.o 14 1 (.set (.int .i64 ((q1.1 % 2:Nat):Int))),.both [.o 15 1 (.ret (.agg [bV ((dN (B6 q1.1 (Hx M n q1.1))).b),sV ((dN (B6 q1.1 (Hx M n q1.1))).s),iV ((dN (B6 q1.1 (Hx M n q1.1))).e)])),.o 16 2 (.ret (.agg [bV ((dN (G9 M n (q1.1+1))).b),sV ((dN (G9 M n (q1.1+1))).s),iV ((dN (G9 M n (q1.1+1))).e)])),.o 6 1 (.eq (iV ((q1.1+1:Nat):Int))),.nxt []] [.o 16 2 (.ret (.agg [bV ((dN (G9 M n (q1.1+1))).b),sV ((dN (G9 M n (q1.1+1))).s),iV ((dN (G9 M n (q1.1+1))).e)])),.o 6 1 (.eq (iV ((q1.1+1:Nat):Int))),.nxt []]]])] []])] (fun W hW hR=>have HA:=ha.up hW (fun _=>rfl);(fun(HR:∀i,i<N→N≤ci i∧(Ai i=none→N=0∧ci i=0)∧RdK W (Ai i) N 3 (fun j=>QF (M i j)))=>G4 (show((N:Int)==0)=false from R6.2 (by omega)) (qV (.slice A N c)) (qI ((((0,none,0):Nat×Hp).1:Nat):Int)) (qk Z0) (qB ((dN (G9 M n ((0,none,0):Nat×Hp).1)).b)) (qS ((dN (G9 M n ((0,none,0):Nat×Hp).1)).s)) (qI ((dN (G9 M n ((0,none,0):Nat×Hp).1)).e))<|ai (show 0≤N from L9 _) fun(q1:Nat×Hp) (hk1:(q1.1≤N))=>Q4 (decide ((q1.1:Int)<(N:Int))) (fun hl1=>Yz (show ∀(x:Value) (S:Nat→Prop) (w:World),(Qd 44 1 FM ([]:List Value) none 0).φ x S w→(Yt 44 3 QF ((List.range 0).map (Dn M q1.1 n)) none 0).φ x S w from Ix _ 3 QF _) (qV (.slice A N c)) (qI (q1.1:Int)) (qV (.slice ((0,none,0):Nat×Hp).2.1 (((List.range (((0,none,0):Nat×Hp).1)).map (Dn M q1.1 n))).length ((0,none,0):Nat×Hp).2.2)) (qI ((((0,none,0):Nat×Hp).1+1:Nat):Int)) (qk Z0) (qk (some (32,[bV ((dN (G9 M n q1.1)).b),sV ((dN (G9 M n q1.1)).s),iV ((dN (G9 M n q1.1)).e)]))) (Kl (Yt 44 3 QF ((List.range 0).map (Dn M q1.1 n)) none 0) (Yt 44 3 QF ((List.range (((0,none,0):Nat×Hp).1)).map (Dn M q1.1 n)) ((0,none,0):Nat×Hp).2.1 ((0,none,0):Nat×Hp).2.2) fun _ _ _ h=>h)<|ai (show 0+1≤N from by omega) fun(q2:Nat×Hp) (hk2:(q2.1+1≤N))=>Q4 (decide (((q2.1+1:Nat):Int)<(N:Int))) (fun hl2=>Jj (Em (c:=c) (i:=q2.1+1) HA (Qm hl2)) (Ia (i:=q2.1+1) (o:=0) HA (Qm hl2) (by decide) rfl) (lr (k:=q1.1) (m:=(Eg M (q2.1+1) q1.1).length) (Qk 44 _ rfl) rfl (by decide) (show 0<N from by omega) (show q1.1≤N from by have:=L1 hl1;omega) (HR (q2.1+1) (Qm hl2)).1 (by simp[Eg]) (HR (q2.1+1) (Qm hl2)).2.2) (show([]:List Value)=List.flatMap QF ([]:List Nm)from rfl)<|ai (And.intro QE (show(([]:List Nm)).length≤maxLen from(by simp[maxLen]))) fun(y1:Hp)=>ai (JW (w0:=W) (ty:=44) (c:=QF) (l:=([]:List Nm)) (l2:=(Eg M (q2.1+1) q1.1)) (l':=(Eg M (q2.1+1) q1.1)) (A:=y1.1) (cp:=y1.2) (u:=.slice (Ai (q2.1+1)) (Eg M (q2.1+1) q1.1).length (ci (q2.1+1))) XV QE Zy (Ry (Eg M (q2.1+1) q1.1)) (show((Eg M (q2.1+1) q1.1)).length*32≤140737488355328 from by simp[Eg,Dn];have:=L1 hl1;omega) (fun W' hW'=>iX (n:=N) (show q1.1≤N from by have:=L1 hl1;omega) (HR (q2.1+1) (Qm hl2)).2.1 ((HR (q2.1+1) (Qm hl2)).2.2.below (fun _=>rfl) hW'))) fun(y2:Hp)=>Jj (Em (c:=c) (i:=q2.1+1) HA (Qm hl2)) (Ia (i:=q2.1+1) (o:=0) HA (Qm hl2) (by decide) rfl) (Qq (n:=q1.1) (by omega)) (nD (k:=q1.1+1) (m:=(P5 M (q2.1+1) q1.1 (n-q1.1)).length) (Qk 44 _ rfl) rfl (by decide) (show 0<N from by omega) (show q1.1+1≤N from Qm hl1) (HR (q2.1+1) (Qm hl2)).1 (by simp[P5];omega) (HR (q2.1+1) (Qm hl2)).2.2)<|ai (JW (w0:=W) (ty:=44) (c:=QF) (l:=(Eg M (q2.1+1) q1.1)) (l2:=(P5 M (q2.1+1) q1.1 (n-q1.1))) (l':=(Dn M q1.1 n q2.1)) (A:=y2.1) (cp:=y2.2) (u:=.slice (mQ (Ai (q2.1+1)) (ci (q2.1+1)) (q1.1+1) 3) (P5 M (q2.1+1) q1.1 (n-q1.1)).length (ci (q2.1+1)-(q1.1+1))) XV QE Zy (ly (show q1.1≤n from by have:=L1 hl1;omega)) (show((Dn M q1.1 n q2.1)).length*32≤140737488355328 from by simp[Eg,Dn];have:=L1 hl1;omega) (fun W' hW'=>kR (n:=N) (show 0<N from by omega) (HR (q2.1+1) (Qm hl2)).1 (by have:=L1 hl1;omega) ((HR (q2.1+1) (Qm hl2)).2.2.below (fun _=>rfl) hW'))) fun(y3:Hp)=>ai (Cr (w0:=W) (e:=32) (ty:=132) (bt:=44) (cp3:=1) (ll:=((List.range q2.1).map (Dn M q1.1 n))) (l:=(Dn M q1.1 n q2.1)) (l':=(Dn M q1.1 n q2.1)) (ll':=((List.range (q2.1+1)).map (Dn M q1.1 n))) (A:=q2.2.1) (A2:=y3.1) (cp:=q2.2.2) (cp2:=y3.2) Kj QE rfl (Ns (Dn M q1.1 n) q2.1) (show(((List.range (q2.1+1)).map (Dn M q1.1 n))).length*24≤140737488355328 from by rw[Ri,S7];have:=L1 hl2;omega)) fun(y4:Hp)=>Yz (Qq (n:=q2.1+1) (by omega)) (qV (.slice A N c)) (qI (q1.1:Int)) (qV (.slice y4.1 (((List.range (q2.1+1)).map (Dn M q1.1 n))).length y4.2)) (qI (((q2.1+1)+1:Nat):Int)) (qk Z0) (qk (some (32,[bV ((dN (G9 M n q1.1)).b),sV ((dN (G9 M n q1.1)).s),iV ((dN (G9 M n q1.1)).e)]))) (Kl (Yt 44 3 QF ((List.range (q2.1+1)).map (Dn M q1.1 n)) y4.1 y4.2) (Yt 44 3 QF ((List.range (q2.1+1)).map (Dn M q1.1 n)) y4.1 y4.2) fun _ _ _ h=>h)<|ai (show q2.1+1+1≤N from by have:=L1 hl2;omega) (show N-(q2.1+1)<N-q2.1 from by have:=L1 hl2;omega)) fun hl2=>G4 (Em (c:=c) (i:=0) HA (show 0<N from by omega)) (Ia (i:=0) (o:=0) HA (show 0<N from by omega) (by decide) rfl) (KC (c:=(ci 0)) (i:=q1.1) (HR 0 (show 0<N from by omega)).2.2 (Qm hl1)) (Yb (i:=q1.1) (o:=0) (HR 0 (show 0<N from by omega)).2.2 (Qm hl1) (by decide) rfl rfl) (show E1 prog W [Yt 44 3 QF ((List.range q2.1).map (Dn M q1.1 n)) q2.2.1 q2.2.2] 110 #[.slice q2.2.1 (((List.range q2.1).map (Dn M q1.1 n))).length q2.2.2] (nA (dN (Xd n (G1 0 q1.1 (Aw M)))))from⟨fun a w=>call110 a w,fun W' hW' x S hφ=>HIH q1.1 q2.1 q2.2.1 q2.2.2 W' x S (by have:=La hl2;omega) hφ⟩) (show RetAt prog W 136 #[nA (M 0 q1.1),nA (dN (Xd n (G1 0 q1.1 (Aw M))))] (nA (dN (Hx M n q1.1)))from⟨fun a w=>call136 a w,fun W' hW'=>MB W' (hM.nd 0 q1.1) (jR hM hLT hn q1.1) (by have:=hM.lo 0 q1.1;have:=kH hM hLT hn q1.1;omega)⟩) (dF prog W 3 (.tmp 55) (.const (.int .i64 2)) q1.1)<|Q4 (((q1.1 % 2:Nat):Int)==1) (fun hodd=>Yz (show RetAt prog W 135 #[nA (dN (Hx M n q1.1))] (nA (dN (B6 q1.1 (Hx M n q1.1))))from⟨fun a w=>call135 a w,fun W' hW'=>(by have h:=W8 (w:=W') (Nb hM hn q1.1) (by have:=Vw hn hLT;omega);rw[show B6 q1.1 (Hx M n q1.1)=-(Hx M n q1.1)from by unfold B6;rw[if_pos (by have:=of_decide_eq_true (p:=((q1.1 % 2:Nat):Int)=1) (by simpa using hodd);omega)]];exact h)⟩) (show RetAt prog W 134 #[nA (dN (G9 M n q1.1)),nA (dN (B6 q1.1 (Hx M n q1.1)))] (nA (dN (G9 M n (q1.1+1))))from⟨fun a w=>call134 a w,fun W' hW'=>(by rw[I8];skip;exact Dd W' (VI (AP hn hM.db q1.1 (by omega)) (by have:=Vw hn hLT;omega)) (VI (Bm q1.1 (Nb hM hn q1.1)) (by have:=Vw hn hLT;omega)) (AP hn hM.db q1.1 (by omega)) (Bm q1.1 (Nb hM hn q1.1)) (by have:=Vw hn hLT;omega))⟩) (Qq (n:=q1.1) (by omega)) (qV (.slice A N c)) (qI ((((q1.1+1,none,0):Nat×Hp).1:Nat):Int)) (qk Z0) (qB ((dN (G9 M n ((q1.1+1,none,0):Nat×Hp).1)).b)) (qS ((dN (G9 M n ((q1.1+1,none,0):Nat×Hp).1)).s))<|ai (qI ((dN (G9 M n ((q1.1+1,none,0):Nat×Hp).1)).e))<|ai (show q1.1+1≤N from Qm hl1) (show N-(q1.1+1)<N-q1.1 from by have:=L1 hl1;omega)) fun hodd=>Yz (show RetAt prog W 134 #[nA (dN (G9 M n q1.1)),nA (dN (Hx M n q1.1))] (nA (dN (G9 M n (q1.1+1))))from⟨fun a w=>call134 a w,fun W' hW'=>(by rw[I8];have e0:Hx M n q1.1=B6 q1.1 (Hx M n q1.1):=(by unfold B6;rw[if_neg (by have:=of_decide_eq_false (p:=((q1.1 % 2:Nat):Int)=1) (by simpa using hodd);omega)]);rw[show dN (Hx M n q1.1)=dN (B6 q1.1 (Hx M n q1.1))from R7 dN e0];exact Dd W' (VI (AP hn hM.db q1.1 (by omega)) (by have:=Vw hn hLT;omega)) (VI (Bm q1.1 (Nb hM hn q1.1)) (by have:=Vw hn hLT;omega)) (AP hn hM.db q1.1 (by omega)) (Bm q1.1 (Nb hM hn q1.1)) (by have:=Vw hn hLT;omega))⟩) (Qq (n:=q1.1) (by omega)) (qV (.slice A N c)) (qI ((((q1.1+1,none,0):Nat×Hp).1:Nat):Int)) (qk Z0) (qB ((dN (G9 M n ((q1.1+1,none,0):Nat×Hp).1)).b)) (qS ((dN (G9 M n ((q1.1+1,none,0):Nat×Hp).1)).s)) (qI ((dN (G9 M n ((q1.1+1,none,0):Nat×Hp).1)).e))<|ai (show q1.1+1≤N from Qm hl1) (show N-(q1.1+1)<N-q1.1 from by have:=L1 hl1;omega)) fun hl1=>(show(nA (dN (G9 M n q1.1)):Value)=nA (dN (Xd (n+1) (Aw M)))from by rw[show q1.1=n+1 from by have:=La hl1;omega];rfl)) (fun i hi=>⟨(hr i hi).1,(hr i hi).2.1,(hr i hi).2.2.below (fun _=>rfl) hW⟩)) fun W=>by kernel_rfl
theorem eC{A:Option Addr}{c:Nat}(w:World): RetAt prog w 110 #[.slice A 0 c] (nA (dN (dy 1 0))) :=
 Qi Qk mixed (fun a w=>call110 a w) func110 ntmps110 results110 _ rfl _ [.br true,.o 2 0 (.ret (.agg [bV ((dN (dy 1 0)).b),sV ((dN (dy 1 0)).s),iV ((dN (dy 1 0)).e)]))] (fun W hW hR=>ZG (show(((0:Nat):Int)==0)=true from rfl) (rc W call82 fun W=>Wv 1 W (by decide) (by decide))<|(show(nA (dN (dy 1 0)):Value)=nA (dN (dy 1 0))from rfl)) fun W=>by kernel_rfl
theorem MY{L T:Nat}(hLT:(L+T+8)*8≤1000000): ∀(n:Nat),n≤8→∀(M:Nat→Nat→Nm),okM L T M→∀(m:Nat) (B:Option Addr) (d:Nat) (W:World) (x:Value) (S:Nat→Prop),m=n→(Yt 44 3 QF ((List.range m).map fun i=>(List.range m).map (M i)) B d).φ x S W→Calls prog 110 #[.slice B ((List.range m).map fun i=>(List.range m).map (M i)).length d] W fun e w'=>e=.returned (nA (dN (Xd n (Aw M))))∧Below W.heap.size W w'
 | 0,_,M,_,m,B,d,W,x,S,hm,hφ=>by
  subst hm
  exact(eC W).2 W (Below.refl _ _)
 | n+1,hn,M,hM,m,B,d,W,x,S,hm,hφ=>by
  subst hm
  have h:=dQ QE nm0 hφ
  have hl:((List.range (n+1)).map fun i=>(List.range (n+1)).map (M i)).length=n+1:=by simp
  rw[hl]at h
  obtain⟨b,off,rfl,hc⟩:=h (S9 _)
  have ha:∀i,i<n+1→((List.range (n+1)).map fun i=>(List.range (n+1)).map (M i)).getD i []=(List.range (n+1)).map (M i):=fun i hi=>by
   rw[XI (by rw[hl];exact hi)];simp
  have key:∀i,∃(A:Option Addr) (c:Nat),i<n+1→n+1≤c∧(A=none→n+1=0∧c=0)∧W.cell? ⟨b,off+i,none⟩=some (.slice A (n+1) c)∧RdK W A (n+1) 3 (fun j=>QF (M i j)):=fun i=>by
   by_cases hi:i<n+1
   ·obtain⟨A,c,k1,k2,k3,k4⟩:=hc i hi
    dsimp only at k1 k2 k3 k4
    rw[ha i hi]at k1 k2 k3 k4
    have hl2:((List.range (n+1)).map (M i)).length=n+1:=by simp
    rw[hl2]at k1 k2 k3 k4
    exact⟨A,c,fun _=>⟨k1,k2,k3,k4.congr fun j hj=>by rw[XI (by rw[hl2];exact hj)];simp⟩⟩
   ·exact⟨none,0,fun h=>absurd h hi⟩
  rw[hl]
  exact(bD (Ai:=fun i=>Classical.choose (key i)) (ci:=fun i=>Classical.choose (Lj (key i))) rfl hM hLT hn W (fun _=>⟨b,off,rfl,fun i hi j hj=>by
    obtain rfl:j=0:=by omega
    rw[Si,U2]
    exact(Lj (Lj (key i)) hi).2.2.1⟩)
   (fun i hi=>have h:=Lj (Lj (key i)) hi;⟨h.1,h.2.1,h.2.2.2⟩)
   (fun k m B d W x S hm hφ=>by
    have h:=MY hLT n (by omega) (mv k M) (hM.mn k) m B d W x S hm (by rw[hm]at hφ ⊢;exact hφ)
    rw[show Aw (mv k M)=G1 0 k (Aw M)from rfl]at h
    rw[hm]at h ⊢
    exact h)).2 W (Below.refl _ _)
section
variable {pts:List (List Nm)} {N:Nat} (hpN:pts.length=N+1) (hpl:∀j,j<N+1→(Qe pts j).length=N) (hok:∀p,p∈pts→∀x,x∈p→okN x)
include hpN hpl hok
omit hpN hpl in
theorem OL(i j:Nat): ∃x,JK pts i j=dN x∧DB 200 361 x:=by
 have h0:∀i j,DB 200 360 (nv (QL (Qe pts i) j)):=fun i j=>by
  by_cases hi:i<pts.length
  ·by_cases hj:j<(Qe pts i).length
   ·exact(hok _ (Yr hi) _ (Zc hj)).db
   ·have e:QL (Qe pts i) j=nm0:=by unfold QL;rw[List.getD,List.getElem?_eq_none (by omega)];rfl
    rw[e];exact nm0_ok.db
  ·have e:Qe pts i=[]:=by unfold Qe;rw[List.getD,List.getElem?_eq_none (by omega)];rfl
   rw[e];exact nm0_ok.db
 exact⟨_,rfl,OQ (h0 _ _) (h0 _ _)⟩
omit hpN hpl in
theorem bH:okM 200 361 (JK pts):=by
 refine⟨fun i j=>?_,fun i j=>?_,fun i j=>?_⟩
 ·obtain⟨x,e,h⟩:=OL hok i j
  unfold Aw
  rw[e,RD h (by decide)]
  exact VI h (by decide)
 ·obtain⟨x,e,h⟩:=OL hok i j
  rw[e]
  have:=(ZZ h).1
  show -1000000≤de x
  omega
 ·obtain⟨x,e,h⟩:=OL hok i j
  unfold Aw
  rw[e,RD h (by decide)]
  exact h
theorem dL:(Xd N (Aw (JK pts)))=(Xd N (Zb pts N)):=CW fun i j hi hj=>by
 rw[PC hpN hpl hok hi hj]
 exact RD (bR hpN hpl hok hi hj) (by decide)
end
theorem fK{As:Option Addr}{cs:Nat}{Au:Nat→Option Addr}{cu:Nat→Nat}{pts:List (List Nm)}{N:Nat}(hN:N≤8)(hcs:N+1≤cs)(hpN:pts.length=N+1)(hpl:∀j,j<N+1→(Qe pts j).length=N)(hok:∀p,p∈pts→∀x,x∈p→okN x)(w:World)(hs:RdK w As (N+1) 1 (fun j=>[.slice (Au j) N (cu j)]))(hp:∀j,j<N+1→RdK w (Au j) N 3 (fun k=>QF (QL (Qe pts j) k))): RetAt prog w 77 #[.slice As (N+1) cs] (nA (dN (Xd N (Zb pts N)))) :=
 let Z0:OB:=some (32,[bV false,sV ⟨#[]⟩,iV 0]);Qi Qk mixed (fun a w=>call77 a w) func77 ntmps77 results77 _ rfl _ [.nil 3 99999 44 1 FM,.cnv 3 99999 0 (Yt 44 3 QF ((List.range 0).map (Ji pts N)) none 0),Vs (fun(q1:Nat×Hp)=>(⟨45,[(0,lV As (N+1) cs),(2,.ptr 0 0),(3,lV q1.2.1 (((List.range q1.1).map (Ji pts N))).length q1.2.2),(4,iV ((q1.1+1:Nat):Int))],[none],[some (Yt 44 3 QF ((List.range q1.1).map (Ji pts N)) q1.2.1 q1.2.2)]⟩:St)) N ((0,none,0):Nat×Hp) (fun(q1:Nat×Hp)=>[.both [.nil 7 99999 32 3 QF,Vs (fun(q2:Nat×Hp)=>(⟨45,[(0,lV As (N+1) cs),(2,.ptr 0 0),(3,lV q1.2.1 (((List.range q1.1).map (Ji pts N))).length q1.2.2),(4,iV ((q1.1+1:Nat):Int)),(5,lV q2.2.1 (((List.range q2.1).map (JK pts q1.1))).length q2.2.2),(6,iV (q2.1:Int))],[none],[none,some (Qd 32 3 QF ((List.range q2.1).map (JK pts q1.1)) q2.2.1 q2.2.2)]⟩:St)) N ((0,none,0):Nat×Hp) (fun(q2:Nat×Hp)=>[.o 7 3 (.set (.pointer (some (QJ As ((q1.1+1)*1+0))))),.o 7 4 (.set (.slice (Au (q1.1+1)) N (cu (q1.1+1)))),.both [.reg 16 [],.o 9 3 (.set (.pointer (some (QJ As ((q1.1+1)*1+0))))),.o 9 4 (.set (.slice (Au (q1.1+1)) N (cu (q1.1+1)))),.o 9 6 (.set (.pointer (some (QJ (Au (q1.1+1)) (q2.1*3+0))))),.o 9 7 (.set (nA (QL (Qe pts (q1.1+1)) q2.1))),.o 9 9 (.set (.pointer (some (QJ As (0*1+0))))),.o 9 10 (.set (.slice (Au 0) N (cu 0))),.o 9 12 (.set (.pointer (some (QJ (Au 0) (q2.1*3+0))))),.o 9 13 (.set (nA (QL (Qe pts 0) q2.1))),.o 9 14 (.ret (.agg [bV ((JK pts q1.1 q2.1).b),sV ((JK pts q1.1 q2.1).s),iV ((JK pts q1.1 q2.1).e)])),.eff 9 16 1 (fun(y1:Hp)=>Value.slice y1.1 (((List.range (q2.1+1)).map (JK pts q1.1))).length y1.2) (fun(y1:Hp)=>Qd 32 3 QF ((List.range (q2.1+1)).map (JK pts q1.1)) y1.1 y1.2) (fun(y1:Hp)=>[.o 8 1 (.eq (iV ((q2.1+1:Nat):Int))),.nxt [y1]])] [.join 10 3 0 1,.eff 10 3 0 (fun(y2:Hp)=>Value.slice y2.1 (((List.range (q1.1+1)).map (Ji pts N))).length y2.2) (fun(y2:Hp)=>Yt 44 3 QF ((List.range (q1.1+1)).map (Ji pts N)) y2.1 y2.2) (fun(y2:Hp)=>[.o 4 1 (.eq (iV ((q1.1+1+1:Nat):Int))),.nxt [y2]])]])] [.o 11 1 (.retr [0] (nA (dN (Xd N (Zb pts N)))))]])] (fun W hW hR=>have HS:=hs.up hW (fun _=>rfl);(fun(HP:∀j,j<N+1→RdK W (Au j) N 3 (fun k=>QF (QL (Qe pts j) k)))=>KW (show ∀(x:Value) (S:Nat→Prop) (w:World),(Qd 44 1 FM ([]:List Value) none 0).φ x S w→(Yt 44 3 QF ((List.range 0).map (Ji pts N)) none 0).φ x S w from Ix _ 3 QF _) (qV (.slice As (N+1) cs)) (qV (.slice ((0,none,0):Nat×Hp).2.1 (((List.range (((0,none,0):Nat×Hp).1)).map (Ji pts N))).length ((0,none,0):Nat×Hp).2.2)) (qI ((((0,none,0):Nat×Hp).1+1:Nat):Int)) (qk Z0) (Kl (Yt 44 3 QF ((List.range 0).map (Ji pts N)) none 0) (Yt 44 3 QF ((List.range (((0,none,0):Nat×Hp).1)).map (Ji pts N)) ((0,none,0):Nat×Hp).2.1 ((0,none,0):Nat×Hp).2.2) fun _ _ _ h=>h)<|ai (show 0≤N from L9 _) fun(q1:Nat×Hp) (hk1:(q1.1≤N))=>Q4 (decide (((q1.1+1:Nat):Int)<(((N+1):Nat):Int))) (fun gl1=>Yz (qV (.slice As (N+1) cs)) (qV (.slice q1.2.1 (((List.range q1.1).map (Ji pts N))).length q1.2.2)) (qI ((q1.1+1:Nat):Int)) (qV (.slice ((0,none,0):Nat×Hp).2.1 (((List.range (((0,none,0):Nat×Hp).1)).map (JK pts q1.1))).length ((0,none,0):Nat×Hp).2.2)) (qI ((((0,none,0):Nat×Hp).1:Nat):Int)) (qk Z0) (JL (Yt 44 3 QF ((List.range q1.1).map (Ji pts N)) q1.2.1 q1.2.2)) (Kl (Qd 32 3 QF ([]:List Nm) none 0) (Qd 32 3 QF ((List.range (((0,none,0):Nat×Hp).1)).map (JK pts q1.1)) (((0,none,0):Nat×Hp).2.1) (((0,none,0):Nat×Hp).2.2)) fun _ _ _ h=>h)<|ai (show 0≤N from L9 _) fun(q2:Nat×Hp) (hk2:(q2.1≤N))=>ZG (Q2 (c:=cs) (i:=q1.1+1) HS (Sx (show q1.1<N from by have:=L1 gl1;omega))) (Xp (i:=q1.1+1) (o:=0) HS (Sx (show q1.1<N from by have:=L1 gl1;omega)) (by decide) rfl)<|Q4 (decide ((q2.1:Int)<(N:Int))) (fun hl2=>Yz (Q2 (c:=cs) (i:=q1.1+1) HS (Sx (show q1.1<N from by have:=L1 gl1;omega))) (Xp (i:=q1.1+1) (o:=0) HS (Sx (show q1.1<N from by have:=L1 gl1;omega)) (by decide) rfl) (JI (c:=(cu (q1.1+1))) (i:=q2.1) (HP (q1.1+1) (Sx (show q1.1<N from by have:=L1 gl1;omega))) (Qm hl2)) (Yb (i:=q2.1) (o:=0) (HP (q1.1+1) (Sx (show q1.1<N from by have:=L1 gl1;omega))) (Qm hl2) (by decide) rfl rfl) (Q2 (c:=cs) (i:=0) HS (S9 N)) (Xp (i:=0) (o:=0) HS (S9 N) (by decide) rfl) (JI (c:=(cu 0)) (i:=q2.1) (HP 0 (S9 N)) (Qm hl2)) (Yb (i:=q2.1) (o:=0) (HP 0 (S9 N)) (Qm hl2) (by decide) rfl rfl)<|ai (show RetAt prog W 109 #[nA (QL (Qe pts (q1.1+1)) q2.1),nA (QL (Qe pts 0) q2.1)] (nA (JK pts q1.1 q2.1))from⟨fun a w=>call109 a w,fun W' hW'=>FT W' (hok _ (Yr (show q1.1+1<pts.length by rw[hpN];have:=L1 gl1;omega)) _ (Zc (show q2.1<(Qe pts (q1.1+1)).length by rw[hpl (q1.1+1) (by have:=L1 gl1;omega)];exact(Qm hl2)))).nd (hok _ (Yr (show 0<pts.length by rw[hpN];omega)) _ (Zc (show q2.1<(Qe pts 0).length by rw[hpl 0 (by omega)];exact(Qm hl2)))).nd (hok _ (Yr (show q1.1+1<pts.length by rw[hpN];have:=L1 gl1;omega)) _ (Zc (show q2.1<(Qe pts (q1.1+1)).length by rw[hpl (q1.1+1) (by have:=L1 gl1;omega)];exact(Qm hl2)))).db (hok _ (Yr (show 0<pts.length by rw[hpN];omega)) _ (Zc (show q2.1<(Qe pts 0).length by rw[hpl 0 (by omega)];exact(Qm hl2)))).db (by decide)⟩)<|ai (Jv (w0:=W) (ty:=44) (c:=QF) (l:=((List.range q2.1).map (JK pts q1.1))) (l2:=[JK pts q1.1 q2.1]) (l':=((List.range (q2.1+1)).map (JK pts q1.1))) (A:=q2.2.1) (cp:=q2.2.2) (bt:=32) (m:=1) (cp2:=1) (cs:=[.bool ((JK pts q1.1 q2.1).b),.string ((JK pts q1.1 q2.1).s),.int .i64 ((JK pts q1.1 q2.1).e)]) XV QE Zy (Ns (JK pts q1.1) q2.1) (show(((List.range (q2.1+1)).map (JK pts q1.1))).length*32≤140737488355328 from by rw[Ri,S7];have:=L1 hl2;omega) rfl rfl) fun(y1:Hp)=>Yz (Qq (n:=q2.1) (by omega)) (qV (.slice As (N+1) cs)) (qV (.slice q1.2.1 (((List.range q1.1).map (Ji pts N))).length q1.2.2)) (qI ((q1.1+1:Nat):Int)) (qV (.slice y1.1 (((List.range (q2.1+1)).map (JK pts q1.1))).length y1.2)) (qI (((q2.1+1):Nat):Int)) (qk Z0) (JL (Yt 44 3 QF ((List.range q1.1).map (Ji pts N)) q1.2.1 q1.2.2))<|ai (Kl (Qd 32 3 QF ((List.range (q2.1+1)).map (JK pts q1.1)) y1.1 y1.2) (Qd 32 3 QF ((List.range (q2.1+1)).map (JK pts q1.1)) y1.1 y1.2) fun _ _ _ h=>h)<|ai (show q2.1+1≤N from Qm hl2) (show N-(q2.1+1)<N-q2.1 from by have:=L1 hl2;omega)) fun hl2=>ai (Cr (w0:=W) (e:=32) (ty:=132) (bt:=44) (cp3:=1) (ll:=((List.range q1.1).map (Ji pts N))) (l:=((List.range q2.1).map (JK pts q1.1))) (l':=Ji pts N q1.1) (ll':=((List.range (q1.1+1)).map (Ji pts N))) (A:=q1.2.1) (A2:=q2.2.1) (cp:=q1.2.2) (cp2:=q2.2.2) Kj QE (show((List.range q2.1).map (JK pts q1.1))=Ji pts N q1.1 from by rw[(show q2.1=N from by have:=La hl2;omega)];rfl) (Ns (Ji pts N) q1.1) (show(((List.range (q1.1+1)).map (Ji pts N))).length*24≤140737488355328 from by rw[Ri,S7];have:=L1 gl1;omega)) fun(y2:Hp)=>KW (Qq (n:=q1.1+1) (by omega)) (qV (.slice As (N+1) cs)) (qV (.slice y2.1 (((List.range (q1.1+1)).map (Ji pts N))).length y2.2)) (qI (((q1.1+1)+1:Nat):Int)) (qk Z0) (Kl (Yt 44 3 QF ((List.range (q1.1+1)).map (Ji pts N)) y2.1 y2.2) (Yt 44 3 QF ((List.range (q1.1+1)).map (Ji pts N)) y2.1 y2.2) fun _ _ _ h=>h)<|ai (show q1.1+1≤N from by have:=L1 gl1;omega) (show N-(q1.1+1)<N-q1.1 from by have:=L1 gl1;omega)) fun gl1=>ai (show E1 prog W [Yt 44 3 QF ((List.range q1.1).map (Ji pts N)) q1.2.1 q1.2.2] 110 #[.slice q1.2.1 (((List.range q1.1).map (Ji pts N))).length q1.2.2] (nA (dN (Xd N (Zb pts N))))from⟨fun a w=>call110 a w,fun W' hW' x S hφ=>(by have e:q1.1=N:=(by have:=La gl1;omega);rw[e]at hφ ⊢;rw[← dL hpN hpl hok];exact MY (by decide) N hN (JK pts) (bH hok) N _ _ W' x S rfl hφ)⟩)<|(show(nA (dN (Xd N (Zb pts N))):Value)=nA (dN (Xd N (Zb pts N)))from rfl)) (fun j hj=>(hp j hj).below (fun _=>rfl) hW)) fun W=>by kernel_rfl
theorem ba{As:Option Addr}{cs:Nat}{Au:Nat→Option Addr}{cu:Nat→Nat}{pts:List (List Nm)}{N:Nat}(hpN:pts.length=N+1)(hpl:∀j,j<N+1→(Qe pts j).length=N)(h1:1≤N)(h8:N≤8)(hs:RdK w As (N+1) 1 (fun j=>[.slice (Au j) N (cu j)])): RetAt prog w 76 #[.slice As (N+1) cs] (.int .i64 (N:Int)):=by
 have h:=iZ (A:=As) (c:=cs) (As:=Au) (cs:=cu) (l:=pts) (by omega) w (by rw[hpN];exact hs.congr fun j hj=>by show _=[Value.slice (Au j) (Qe pts j).length (cu j)];rw[hpl j hj])
 rw[hpN,RC hpN hpl h1 h8]at h
 exact h
theorem nl{pts:List (List Nm)}{N:Nat}(hpN:pts.length=N+1)(hpl:∀j,j<N+1→(Qe pts j).length=N)(hok:∀p,p∈pts→∀x,x∈p→okN x)(hN:N≤8): DB (200*N) ((361+8)*N+1) (Xd N (Zb pts N)):=by
 rw[← dL hpN hpl hok]
 exact Dk N _ hN fun i j=>(bH hok).db i j
theorem Oj{As:Option Addr}{cs:Nat}{Au:Nat→Option Addr}{cu:Nat→Nat}{pts:List (List Nm)}{N:Nat}(hN:N≤8)(hcs:N+1≤cs)(hpN:pts.length=N+1)(hpl:∀j,j<N+1→(Qe pts j).length=N)(hok:∀p,p∈pts→∀x,x∈p→okN x)(h1:1≤N)(w:World)(hs:RdK w As (N+1) 1 (fun j=>[.slice (Au j) N (cu j)]))(hp:∀j,j<N+1→RdK w (Au j) N 3 (fun k=>QF (QL (Qe pts j) k))): RetAt prog w 30 #[.slice As (N+1) cs] (.int .i64 (BH pts N)) :=
 have E0:=eI (BH pts N);Qi Qk mixed (fun a w=>call30 a w) func30 ntmps30 results30 _ rfl _ [.o 1 1 (.ret (iV (N:Int))),.br false,.o 3 1 (.ret (.agg [bV ((dN (Xd N (Zb pts N))).b),sV ((dN (Xd N (Zb pts N))).s),iV ((dN (Xd N (Zb pts N))).e)])),.o 3 2 (.ret (iV (Zs (nv (dN (Xd N (Zb pts N))))))),.both [] []] (fun W hW hR=>have HS:=hs.up hW (fun _=>rfl);(fun(HP:∀j,j<N+1→RdK W (Au j) N 3 (fun k=>QF (QL (Qe pts j) k)))=>Jj (ba (cs:=cs) hpN hpl h1 hN HS) (show((N:Int)==0)=false from R6.2 (by omega)) (fK hN hcs hpN hpl hok W HS HP) (rc W call73 fun W=>Zg (dN (Xd N (Zb pts N))).s (dN (Xd N (Zb pts N))).b (dN (Xd N (Zb pts N))).e W (by have h:=(VI (nl hpN hpl hok hN) (by omega)).size;exact L8 h (by decide)))<|Q4 ((Zs (nv (dN (Xd N (Zb pts N)))))==0) (fun hz=>(E0 5 (by unfold BH sg;rw[hz];rfl))) fun hz=>(E0 0 (by unfold BH sg;rw[hz];rfl))) (fun j hj=>(hp j hj).below (fun _=>rfl) hW)) fun W=>by kernel_rfl
theorem NQ{lo:Nat}{pts:List (List Nm)}{N:Nat}(hpN:pts.length=N+1)(hpl:∀j,j<N+1→(Qe pts j).length=N)(hok:∀p,p∈pts→∀x,x∈p→okN x)(h1:1≤N)(h8:N≤8)(w:World)(h:SlV lo 1 (SN lo) w pts v): RetAt prog w 30 #[v] (.int .i64 (BH pts N)):=by
 obtain⟨As,cs,Au,cu,rfl,k1,k2,k3,_⟩:=M3 hpN hpl h
 exact Oj h8 k1 hpN hpl hok h1 w k2 k3
