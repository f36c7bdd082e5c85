/- Laws beneath the statement. -/
import Derived.Test.YtemkmhpfjefbmaaGreatDoorLP18
import Derived.Test.YtemkmhpfjefbmaaGreatDoorRows
namespace Go.Proofs.YtemkmhpfjefbmaaGreatDoor
set_option linter.defProp false
open Go.Proofs.Tryz
set_option maxHeartbeats 4000000
set_option maxRecDepth 100000
open Go Go.RowKit
def gI(x:Nm):Prop:=Ks x=true/\x.s.size<=8/\-64<=x.e/\x.e<=64
structure PbG (x:PV) (v V:Nat):Prop where
 q:x.vars=(v:Int)
 v4:1<=v/\v<=4
 k:1<=x.δ/\x.δ<=6
 n:(x.ps.length:Int)=QY x.δ x.vars
 d:rA x.δ v x.box x.κ
 p:∀p,p∈x.ps->lk v p
 r:∀p,p∈x.θ->lk v p
 rn:x.θ.length<=4
 r4:(x.δ==4)=false->x.θ=[]
 e:dG x.ν
 dl:dG x.ε
 d4:(x.δ==4)=false->x.ε=nm0
 nv:MK x.box x.κ=(V:Int)
 cn:x.ι.length<=64
 c:(x.δ==6)=true->x.ν=nm0/\x.ζ=0/\(∀k,k<x.ι.length->0<(YM x.ι k).length)/\(YM x.ι x.ι.length).length=0/\∀n,n∈x.ι->((n.split==0)=false->n=⟨1,nm0,NU⟩)/\((n.split==0)=true->n.split=0/\dG n.ο/\lk V n.sum)
 c6:(x.δ==6)=false->x.ι=[]
 b:0<=x.ζ/\x.ζ<=512
 a:∀y,y∈Qk x.ν x.ε x.box x.κ x.ι->gI y
 g:∀p,p∈KK x->ZQ p=true
def Jq{b c:Bool}(h:(bif b then false else c)=true):b=false/\c=true:=by
 grind
def zl{x:PV}(h:chkN x=0):Bh x=true/\JP x=true:=by
 unfold chkN Hs at h;cases e:Bh x with
 |false=>rw[e]at h;cases h
 |true =>
  cases a:JP x with
  |false=>rw[e,a]at h;cases h
  |true=>exact⟨rfl,rfl⟩
variable{a:Nm}
theorem yc(h:J1 a=false):a.s.size<=8/\-64<=a.e/\a.e<=64:=by
 grind[J1]
theorem I3{n:Nat}{f:Nat->Bool}(h:XQ n f=false)(k:Nat)(a:k<n):f k=false:=by
 cases e:f k with
 |false=>rfl
 |true=>rw[anyB_iff.2 ⟨k,a,e⟩]at h;cases h
variable{α:Type}
theorem TH{l:List α}{d:α}(f:α->Bool)(h:XQ l.length (λj=>f (l.getD j d))=false)(a:α)(b:a∈l):f a=false:=by
 grind[Th,I3]
def oy{x:Nm}(h:lr x=true):x=nm0:=nmE_iff.1 (show CC x nm0=true from h)
variable{p:Py}
theorem Fs(h:ZQ p=true):p.ts.length<=40/\∀t,t∈p.ts->(t.c.s.size<=8/\-64<=t.c.e/\t.c.e<=64)/\∀b,b∈t.m.data.toList->b.toNat<=6:=by
 unfold ZQ at h;let⟨a,d⟩:=Jq h;have a:=L1 a;rw[U2]at d;refine⟨x3,λt g=>?_⟩;have j:=TH (λt:Tm=>J1 t.c||XQ t.m.size λi=>decide (((bt t.m i:Nat):Int)>6)) d t g;let⟨l,n⟩:=Rf.1 j;refine⟨yc l,λb o=>?_⟩;obtain⟨k,q,rfl⟩:=Th o;have r:=L1 (I3 n k q)
 grind[bt]
variable{v:Nat}
theorem SZ(h:Yo (v:Int) p=false)(c:ZQ p=true):lk v p:=by
 unfold Yo at h;let⟨a,b⟩:=Rf.1 h;rw[bne_eq_false_iff_eq]at a b;refine⟨QcS a b,λt d=>?_⟩
 grind[Fs]
theorem Pu{x:PV}(h:chkN x=0):∃v V,PbG x v V:=by
 let⟨g,j⟩:=zl h;unfold Bh at g;unfold JP at j;rw[Lx]at g j;let⟨g,J⟩:=g;let⟨j,R⟩:=j;rw[Lx]at R;let⟨z,q⟩:=R;have S:∀a,a∈Qk x.ν x.ε x.box x.κ x.ι->gI a:=λa t=>by
  have K:=Lg.1 z a t;rw[U2]at K;exact⟨Lg.1 J a t,yc K⟩
 have u:∀a,a∈Qk x.ν x.ε x.box x.κ x.ι->dG a:=λa t=>by
  let⟨h1,K⟩:=S a t;exact⟨h1,x3⟩
 have E:∀p,p∈KK x->ZQ p=true:=λp l=>Lg.1 q p l
 unfold Cq at j;let⟨T,j⟩:=Jq j;let⟨U,j⟩:=Jq j;let⟨W,j⟩:=Jq j;let⟨X,j⟩:=Jq j;have T:=L1 T;have U:=L1 U;have W:=L1 W;have X:=L1 X;unfold K6 at g;let⟨o1,g⟩:=Jq g;let⟨Y,g⟩:=Jq g;let⟨w,g⟩:=Jq g;let⟨i,g⟩:=Jq g;let⟨o5,g⟩:=Jq g;let⟨o6,g⟩:=Jq g;let⟨r,_⟩:=Jq g;rw[bne_eq_false_iff_eq]at Y;rw[Bool.not_eq_false']at w i r;have F:1<=x.δ/\x.δ<=6/\1<=x.vars:=by
  grind[QY]
 obtain⟨v,L⟩:∃v:Nat,x.vars=(v:Int):=⟨x.vars.toNat,x3⟩
 have A:rA x.δ v x.box x.κ:=by
  unfold GR at w;refine⟨x3,?_⟩;cases e:decide ((x.box.length:Int)>0)||nX x.δ with
  |true =>
   rw[e]at w;let⟨m,o⟩:=L5.1 (show(_&&_)=true from w);have m:=Tr m;have o:=Tr o;exact .inl ⟨x3,So.1 x3,λs Z=>⟨u _ (VH Z).1,u _ (VH Z).2⟩⟩
  |false =>
   rw[e]at w;let⟨m,o⟩:=L5.1 (show(_&&_)=true from w);let⟨b1,b2⟩:=Rf.1 e;have b1:=L1 b1;have m:=Tr m;rw[U2]at o;refine .inr ⟨So.1 x3,x3,b2,λp l=>⟨?_,λa t=>u a (It l t)⟩⟩;have a3:=TH (Xb x.vars) o p l;unfold Xb at a3;rw[bne_eq_false_iff_eq]at a3;omega
 have hV:MK x.box x.κ=Kt x.box.length x.κ.length:=by
  unfold MK Kt;by_cases e:x.box.length=0
  ·rw[e];rfl
  ·rw[Lp.2 x3,Lk x3];rfl
 have B:Kt x.box.length x.κ.length=((Kt x.box.length x.κ.length).toNat:Int):=by
  unfold Kt;cases decide ((x.box.length:Int)>0)
  ·show(x.κ.length:Int)=(((x.κ.length:Int)).toNat:Int);omega
  ·show 2*(x.box.length:Int)=((2*(x.box.length:Int)).toNat:Int);omega
 have l:∀p,p∈x.ps->lk v p:=λp l=>SZ (L▸TH (Yo x.vars) o5 p l) (E p (by unfold KK;simp[l]))
 have hr:∀p,p∈x.θ->lk v p:=λp l=>SZ (L▸TH (Yo x.vars) o6 p l) (E p (by unfold KK;simp[l]))
 have he:dG x.ν:=u _ (by unfold Qk;simp);have hd:dG x.ε:=u _ (by unfold Qk;simp);unfold Zd at i;let⟨C,i⟩:=Jq i;let⟨G,i⟩:=Jq i;let⟨H,i⟩:=Jq i;let⟨_,C⟩:=Rf.1 C;let⟨_,G⟩:=Rf.1 G;let⟨H,M⟩:=Rf.1 H;have i:=Tr i;have h4:(x.δ==4)=false->x.ε=nm0/\x.θ=[]:=λe=>by
  rw[show nR x.δ=false from e,Bool.not_false,Bool.true_and]at G;let⟨m,o⟩:=Rf.1 G;rw[Bool.not_eq_false']at m;have o:=L1 o;exact⟨oy m,So.1 x3⟩
 have h6:(x.δ==6)=false->x.ι=[]/\1<=x.ζ:=λe=>by
  rw[show nC x.δ=false from e]at i;rw[show nS x.δ=true by unfold nS bne;rw[e];rfl,Bool.true_and]at H;have m:=L1 i.symm;have o:=L1 H;exact⟨So.1 x3,x3⟩
 have hc:(x.δ==6)=true->x.ν=nm0/\x.ζ=0/\0<x.ι.length:=λe=>by
  rw[show nC x.δ=true from e]at i;rw[show nS x.δ=false by unfold nS bne;rw[e];rfl,Bool.not_false,Bool.true_and]at C M;rw[Bool.not_eq_false']at C;rw[bne_eq_false_iff_eq]at M;have m:=L0 i.symm;exact⟨oy C,M,x3⟩
 refine⟨v,_,L,x3,⟨F.1,F.2.1⟩,Y,A,l,hr,x3,λe=>(h4 e).2,he,hd,λe=>(h4 e).1,hV.trans B,x3,λe=>?_,λe=>(h6 e).1,?_,S,E⟩
 ·let⟨c1,c2,c3⟩:=hc e;unfold Gs at r;rw[Lp.2 x3,cond_false]at r;cases y:NB x.ι with
  |false=>rw[y]at r;cases r
  |true =>
   rw[y,cond_true,U2]at r;unfold NB at y;let⟨_,y⟩:=Jq y;let⟨s1,s2⟩:=Jq y;have s2:=Tr s2;refine⟨c1,c2,λk F=>?_,x3,λn N=>?_⟩
   ·have:=I3 s1 k F;rw[Lp]at this;omega
   ·have D:=TH (Zm (Kt x.box.length x.κ.length)) r n N;unfold Zm at D;constructor
    ·intro I;rw[if_pos (by unfold bne;rw[I];rfl),Rf,Rf,Rf]at D;let⟨⟨⟨O,P⟩,Q⟩,m4⟩:=D;rw[bne_eq_false_iff_eq]at O Q;rw[Bool.not_eq_false']at P;have m4:=L1 m4;have m5:n.sum.ts=[]:=So.1 x3;let⟨a,b,⟨c,d⟩⟩:=n;dsimp only at O P Q m5;rw[O,oy P,Q,m5];rfl
    ·intro I;rw[if_neg (by unfold bne;rw[I];decide)]at D;refine⟨Tr I,u _ (by unfold Qk;simp only[Lo,Sa];right;exact⟨n,N,x6⟩),SZ (p:=n.sum) ?_ (E _ (by unfold KK;simp only[Lo,Lv];right;exact⟨n,N,rfl⟩))⟩;rw[<- B];exact D
 ·cases e:x.δ==6 with
  |false=>have:=(h6 e).2;omega
  |true=>have:=(hc e).2.1;omega
def VP(x:PV):List UInt8:=(Dt x).flatMap ZJ
open Go.Lib
variable{z:Int}{k:Nat}
theorem Mq(h:z.natAbs<10^k)(a:0<k):(itoa z).length<=k+1:=by
 unfold itoa;split
 ·rw[Li,Ji];simp_all[Jy]
 ·rw[Ji];have:=Jy (v:=z.toNat) (k:=k) (by rwa [show z.toNat=z.natAbs by omega]) a;omega
theorem oN{x:Nm}(h:gI x):(Yc x).data.toList.length<=25:=by
 let⟨a,c,f⟩:=h;have d:(dm (nv x)).natAbs<10^20:=by
  have e:(dm (nv x)).natAbs<=(Qe x.b (Qa x.s)).natAbs:=x9 _ _;rw[Xd]at e;have g:=Dk x.s;have i:(256:Nat)^x.s.size<=256^8:=Lh x4 c;omega
 have j:=Mq d x4;have l:(itoa (de (nv x))).length<=3:=Mq (k:=2) (by rw[Qc6 a];omega) x4;show(yt (nv x)).toArray.toList.length<=25
 grind[yt]
theorem eV(h:0<=z/\z<=512):(Qz z).data.toList.length<=25:=by
 rw[Nz];have:=Mq (z:=z) (k:=3) x3 x4;omega
theorem dA:∀ {l:List xM},(∀t,t∈l->t.data.toList.length<=25)->l≠[]->(ZJ l).length<=26*l.length
 |[],_,h=>absurd rfl h
 |[t],h,_=>by
  simp_all[ZJ,Hw,zj,Lib.join_one]
 |t::u::r,h,_=>by
  have c:=h t x6;have a:=dA (l:=u::r) (λx b=>h x (by simp at b ⊢;exact .inr b)) x6;unfold ZJ at a ⊢;rw[PZ];simp only[La,Li,S9]at a ⊢;omega
theorem pQ{n:Nat}(d:lk n p)(e:ZQ p=true):∀t,t∈EM p->t.data.toList.length<=25:=λt a=>by
 unfold EM eC at a;simp only[Sa,Lb,Lv]at a;obtain⟨y,c,rfl|⟨b,g,rfl⟩⟩:=a
 ·exact oN ⟨d.1.f y c,((Fs e).2 y c).1⟩
 grind[Fs,eV]
section
variable{x:PV}{v V:Nat}(h:PbG x v V)
include h
theorem eJ:∀l,l∈Dt x->l≠[]/\∀t,t∈l->t.data.toList.length<=25:=by
 have j:∀ {w:xM} {r:List xM},w.data.toList.length<=25->(∀t,t∈r->t.data.toList.length<=25)->(w::r)≠[]/\∀t,t∈w::r->t.data.toList.length<=25:=λo J=>⟨List.cons_ne_nil _ _,λt d=>by
  grind⟩
 have m:∀y,y∈Qk x.ν x.ε x.box x.κ x.ι->(Yc y).data.toList.length<=25:=λy C=>oN (h.a y C)
 have o:∀ {t u:xM},u.data.toList.length<=25->t∈[u]->t.data.toList.length<=25:=λD d=>Ly.1 d▸D
 have K:=h.q;have E:=h.v4;have F:=h.b;have G:∀p,p∈x.ps->ZQ p=true:=λp i=>h.g p (by unfold KK;simp[i])
 have H:∀p,p∈x.θ->ZQ p=true:=λp i=>h.g p (by unfold KK;simp[i])
 intro l f;unfold Dt at f;simp only[Lb,Lo,Lv]at f;rcases f with rfl|rfl|⟨p,i,rfl⟩|⟨p,i,rfl⟩|⟨n,v,rfl⟩|f
 ·refine j ?_ λt d=>o (eV x3) d
  have key:∀n:Fin 7,(wKinds.getD n.val ⟨#[]⟩).data.toList.length<=25:=x4;have:=h.k;exact key ⟨x.δ.toNat,x3⟩
 ·unfold BE;refine j (by cases x.box.length==0<;>decide) λt d=>?_
  simp only[Lo,Sa,Lv,Lb,Ri,or_false]at d;rcases d with⟨s,A,rfl|rfl⟩|⟨p,i,a,I,rfl⟩
  ·exact m _ (VH A).1
  ·exact m _ (VH A).2
  ·exact m _ (It i I)
 ·exact j x4 (pQ (h.p p i) (G p i))
 ·exact j x4 (pQ (h.r p i) (H p i))
 ·unfold OL;cases e:n.split==0
  ·exact j x4 λt d=>nomatch d
  ·have z:(x.δ==6)=true:=by
    cases z:x.δ==6 with
    |true=>rfl
    |false=>rw[h.c6 z]at v;cases v
   refine j x4 λt d=>?_
   rcases Lb.1 d with rfl|d
   ·exact m _ (by unfold Qk;simp only[Lo,Sa];right;exact⟨n,v,x6⟩)
   ·exact pQ (((h.c z).2.2.2.2 n v).2 e).2.2 (h.g _ (by unfold KK;simp only[Lo,Lv];right;exact⟨n,v,rfl⟩)) t d
 ·unfold Gy at f;cases e:x.δ==6 with
  |true=>rw[e]at f;cases f
  |false =>
   rw[e]at f;have L:[Qy,Qz x.ζ]≠[]/\∀t,t∈[Qy,Qz x.ζ]->t.data.toList.length<=25:=j x4 λt d=>o (eV F) d
   have M:[Zh,Yc x.ν]≠[]/\∀t,t∈[Zh,Yc x.ν]->t.data.toList.length<=25:=j x4 λt d=>o (m _ (by unfold Qk;simp)) d
   have N:[Xh,Yc x.ε]≠[]/\∀t,t∈[Xh,Yc x.ε]->t.data.toList.length<=25:=j x4 λt d=>o (m _ (by unfold Qk;simp)) d
   cases B:x.δ==4 with
   |true =>
    rw[B]at f;simp only[cond_false,cond_true,Lb,Lo,Ri,or_false]at f;rcases f with rfl|rfl|rfl<;>assumption
   |false =>
    rw[B]at f;simp only[cond_false,Lb,Lo,Ri,or_false,false_or]at f;rcases f with rfl|rfl<;>assumption
end
noncomputable def prnP(x:PV):xM×Int:=bif chkN x != 0 then(⟨#[]⟩,chkN x)else bif decide (((VP x).length:Int)>65536)then(⟨#[]⟩,3)else(⟨(VP x).toArray⟩,0)
section
variable{x:PV}{v V:Nat}(h:PbG x v V)
include h
theorem yY:(Dt x).length<=4001/\∀l,l∈Dt x->l.length<=522:=by
 have F:=h.q;have w:=h.v4;have j:∀ {p:Py} {n:Nat},lk n p->ZQ p=true->(EM p).length<=520:=λ{p n} o B=>by
  have G:=(Fs B).1;have key:∀l:List Tm,(∀t,t∈l->(eC t).length<=13)->(l.flatMap eC).length<=13*l.length:=by
   intro l;induction l with
   |nil=>intro _;exact L4 _
   |cons t l u =>
    grind
  have H:=key p.ts λt D=>by
   have I:=(om (o.1.m t D)).1;have J:=o.1.n;unfold eC;rw[Li,Rg];omega
  unfold EM;omega
 have K:x.ps.length<=4:=by
  have o:=h.n;have B:=h.k;unfold QY at o;split at o
  ·omega
  ·split at o
   ·omega
   ·split at o<;>omega
 have M:=h.rn;have N:=h.cn;have y:∀p,p∈x.ps->ZQ p=true:=λp j=>h.g p (by unfold KK;simp[j])
 have z:∀p,p∈x.θ->ZQ p=true:=λp j=>h.g p (by unfold KK;simp[j])
 constructor
 ·unfold Dt;simp only[Li,La,Rg];have:(Gy x.δ x.ν x.ε x.ζ).length<=3:=by unfold Gy;cases x.δ==6<;>cases x.δ==4<;>exact L8 rfl
  omega
 ·intro l f;unfold Dt at f;simp only[Lb,Lo,Lv]at f;rcases f with rfl|rfl|⟨p,i,rfl⟩|⟨p,i,rfl⟩|⟨n,i,rfl⟩|f
  ·exact L8 rfl
  ·have key:∀L:List (List Nm),(∀p,p∈L->p.length=v)->(L.flatMap λp=>p.map Yc).length=v*L.length:=by
    intro L;induction L with
    |nil=>intro _;rfl
    |cons p L u =>
     intro h;rw[Sn,La,u λq y=>h q (by simp[y]),Rg,h p x6,Li,Rp];omega
   have E:∀L:List (Nm×Nm),(L.flatMap λs=>[Yc s.1,Yc s.2]).length=2*L.length:=by
    intro L;induction L with
    |nil=>rfl
    |cons s L u =>
     rw[Sn,La,u,Li];simp only[Li,S9];omega
   unfold BE;rw[Li,La,E];rcases h.d.2 with⟨a,b,_⟩|⟨a,b,_,c⟩
   ·rw[b];simp only[List.flatMap_nil,S9];omega
   ·rw[key _ λp j=>(c p j).1,a,b];have:v*(v+1)<=4*5:=Nat.mul_le_mul w.2 x3;simp only[S9];omega
  ·have:=j (h.p p i) (y p i);rw[Li];omega
  ·have:=j (h.r p i) (z p i);rw[Li];omega
  ·unfold OL;cases e:n.split==0 with
   |false=>exact L8 rfl
   |true =>
    have A:(x.δ==6)=true:=by
     cases A:x.δ==6 with
     |true=>rfl
     |false=>rw[h.c6 A]at i;cases i
    have:=j (((h.c A).2.2.2.2 n i).2 e).2.2 (h.g _ (by unfold KK;simp only[Lo,Lv];right;exact⟨n,i,rfl⟩));rw[cond_true,Li,Li];omega
  ·unfold Gy at f;cases e:x.δ==6 with
   |true=>rw[e]at f;cases f
   |false =>
    rw[e]at f;cases C:x.δ==4 with
    |true =>
     rw[C]at f;simp only[cond_false,cond_true,Lb,Lo,Ri,or_false]at f;rcases f with rfl|rfl|rfl<;>exact L8 rfl
    |false =>
     rw[C]at f;simp only[cond_false,Lb,Lo,Ri,or_false,false_or]at f;rcases f with rfl|rfl<;>exact L8 rfl
theorem F3:∀l,l∈Dt x->(ZJ l).length<=65536/\0<l.length/\l.length<=1000:=λl a=>by
 let⟨b,c⟩:=eJ h l a
 grind[dA,yY]
end
def Q9(s:xM):o3:=[.string s]
def ZF(s:xM):(Q9 s).length=1:=rfl
def Gw(s:xM):∀u,u∈Q9 s->u.oneCell'=true:=λu h=>by
 obtain rfl:=Ly.1 h;rfl
def sepB1:xM:=⟨#[32]⟩
def VR(l:List ByteArray):ByteArray:=⟨(Lib.join (l.map (·.data.toList)) sepB1.data.toList).toArray⟩
theorem nJ{l:List ByteArray}{A:Option Addr}{n c:Nat}{W:World}(a:RdK W A l.length 1 λj=>Q9 (l.getD j sepB1))(d:0<l.length)(f:l.length=n)(k:n<=c)(m:n<=1000)(p:(VR l).data.size<=65536)(g:∀b o,A=some ⟨b,o,none⟩->b<W.heap.size):xP prog 68 #[.slice A n c,.string sepB1] W (.string (VR l)):=by
 subst f;obtain⟨b,o,rfl,h⟩:=a d
 grind[Tryz.strings_Join,Q9,VR]
def Fx(l:List xM){t:xM}(h:VR l=t)(k:0<l.length)(m:l.length<=1000)(n:t.data.size<=65536)(W:xH):Xt prog 68/\∀c,Below W.heap.size W c->∀g,Bx c g 9 (l.map Value.string).toArray->xP prog 68 #[.slice (some ⟨g,0,none⟩) l.length l.length,.string sepB1] c (.string t) :=
 ⟨λa w=>call68 a w,λc _ g d=>h▸nJ (λ_=>⟨g,0,rfl,λj f i q=>by
  obtain rfl:i=0:=x3;rw[d.cel,Sz,T9,Lm];show _=(Q9 (l.getD j sepB1))[0]?;rw[Yi f];simp[f,Q9]⟩) k rfl (L4 _) m (h▸n) λb o e=>by
   injection e with e
   injection e with e
   subst e;exact d.lt⟩
def Mt(l:List xM){t:xM}{A:xN}{c:Nat}(h:VR l=t)(f:0<l.length)(g:l.length<=1000)(i:t.data.size<=65536)(W:xH):Cv prog W [Qc 9 1 Q9 l A c] 68 #[.slice A l.length c,.string sepB1] (.string t) :=
 ⟨λa w=>call68 a w,λj _ x S d=>h▸nJ (JN ZF sepB1 d) f rfl (EO d) g (h▸i) λb o e=>((show _/\_/\_ from d).2.1.lt b (by rw[e];rfl)).2⟩
variable{S:Nat->Prop}{w:xH}
theorem wl{e:o0}{a:Nat}{c:α->o3}{l:List α}{A:xN}{x:y9}(h:(Qc e k c l A a).φ x S w)(b:A=none):l.length=0/\a=0:=by
 subst b;let⟨_,d,_⟩:=(show _/\_/\_ from h)
 rcases d.2 with⟨f,j⟩|⟨g,cap,i,f,_⟩
 all_goals grind
variable{e:Nat}{P:xO}
def Ef(w0:xH){t i:Nat}(ty:Nat){bytes:Nat}(c:α->o3)(l l2 l':List α)(A A2:xN)(cp c2:Nat)(o:RowT P t i e k bytes)(p:0<k)(g:∀x,(c x).length=k)(q:∀x u,u∈c x->u.oneCell'=true)(d:α)(r:l++l2=l')(a:l'.length*bytes<=140737488355328):∀W,Below w0.heap.size w0 W->∀x S,(Qj (Qc e k c l A cp) (Qc e k c l2 A2 c2)).φ x S W->Gc P W (λy:Hp=>.slice y.1 l'.length y.2) (λy:Hp=>Qc e k c l' y.1 y.2) x S (Zo .append #[t,i] ty [.slice A l.length cp,.slice A2 l2.length c2]):=λW _ x S s=>by
 obtain⟨v,w,z,B,j,G,m⟩:=(show ∃v w z,_ from s)
 obtain⟨y,C,D,r1,f,E,n⟩:=Ih o g q r a (GM g p d (JN g d j) (wl j)) B;exact⟨y,C,D,r1,⟨f.os,f.tape,f.output,f.size,λb a F=>f.block b a λh=>F ((m b).2 (.inl h))⟩,E,λb a=>⟨(n b a).1.imp (λh=>(m b).2 (.inl h)) id,(n b a).2⟩⟩
variable{g:Nat}
def sS{t:o0}{x:y9}(h:(Qh g t [.pointer none,.slice none 0 0] (Qc 5 1 (λb:UInt8=>[.int .u8 b.toNat]) [] none 0)).φ x S w):(YY t g []).φ x S w:=by
 let⟨a,c,d,e,f,l,m,i⟩:=(show _/\_/\∃d e,_ from h)
 let⟨_,_,j⟩:=(show _/\_/\_ from f)
 exact⟨by rw[a];rfl,_,_,.inl rfl,c,⟨rfl,.inl ⟨rfl,rfl⟩⟩,(λh=>nomatch h),λk=>(i k).trans (or_congr Iff.rfl (j k))⟩
def ik(f:Nat->α)(k:Nat):(List.range k).map f++[f k]=(List.range (k+1)).map f:=by
 simp[S7]
variable{β:Type}
theorem Dh(l:List α)(d:α)(f:α->β):(List.range l.length).map (λj=>f (l.getD j d))=l.map f:=by
 refine Ve x6 λi a b=>?_
 grind
def C1(l:List Nm)(j:Nat):xM:=Yc (Xm l j)
def XO:RowT prog 91 91 9 1 16:=⟨x5,⟨9,x5⟩,x5,x4,x4⟩
abbrev HKa:Nat×Hp:=(0,none,0)
abbrev HKb(q1:Nat×Hp)(l:List Nm):=(List.range (q1.1+1)).map (C1 l)
def oQ(A:xN)(c:Nat)(l:List Nm)(t:l.length<=4000)(e:∀x,x∈l->gI x)(w:xH)(g:QV w)(f:Tab10 w)(r:RdK w A l.length 3 (λk=>Xk (Xm l k))):NewIn prog w [] 70 #[Ω A l.length c] (λ(y:Hp)=>Ω y.1 ((List.range l.length).map (C1 l)).length y.2) (λ(y:Hp)=>Qc 9 1 Q9 ((List.range l.length).map (C1 l)) y.1 y.2) :=
 Bf Hp Qm QU (λa w=>call70 a w) func70 ntmps70 results70 _ rfl 0 _ _ [.nil 3 99999 9 1 Q9,YE (λ(q1:Nat×Hp)=>(⟨19,[(0,lV A l.length c),(3,lV q1.2.1 (((List.range q1.1).map (C1 l))).length q1.2.2),(6,lV A l.length c),(7,iV (l.length:Int)),(8,iV (q1.1:Int))],[],[some (Qc 9 1 Q9 ((List.range q1.1).map (C1 l)) q1.2.1 q1.2.2)]⟩:St)) l.length HKa (λ(q1:Nat×Hp)=>[.both [x03 4 0 (.pointer (some (Q5 A (q1.1*3+0)))),x03 4 1 (nA (Xm l q1.1)),x04 5 2 (sV (C1 l q1.1)),x08 5 4 0 (λ(b:Hp)=>(Ω b.1 ((HKb q1 l)).length b.2,Qc 9 1 Q9 (HKb q1 l) b.1 b.2,[x05 6 0 (iV ((q1.1+1:Nat):Int)),.nxt [b]]))] []])] (λW j=>have s:=Ql g j;have p:=f.later j;have q:=r.up j (λ_=>rfl);Vv (qV (Ω A l.length c)) (qV (Ω HKa.2.1 (((List.range (HKa.1)).map (C1 l))).length HKa.2.2)) (qV (Ω A l.length c)) (qI (l.length:Int)) (qI ((HKa.1:Nat):Int)) (Yq (Qc 9 1 Q9 ([]:List xM) none 0) (Qc 9 1 Q9 ((List.range (HKa.1)).map (C1 l)) (HKa.2.1) (HKa.2.2)) λ_ _ _ h=>h)<|ai (show 0<=l.length from L7 _) λ(q1:Nat×Hp) (u:(q1.1<=l.length))=>Xi (decide ((q1.1:Int)<(l.length:Int))) (λd=>Ja (Gi c _ q q1.1 (Qt d)) (JW q q1.1 0 (Qt d) x4 rfl rfl) (show RetAt prog W 35 #[nA (Xm l q1.1)] (Ψ (C1 l q1.1))from B3 (L6 (e _ (KU (Qt d))).2.1 x4) ⟨T7 x4 (e _ (KU (Qt d))).2.2.1,T7 (e _ (KU (Qt d))).2.2.2 x4⟩ W s p)<|ai (YJ W 91 9 1 1 Q9 ((List.range q1.1).map (C1 l)) ([C1 l q1.1]) (HKb q1 l) q1.2.1 q1.2.2 ([Ψ (C1 l q1.1)]) XO ZF Gw (ik (C1 l) q1.1) (show(((List.range (q1.1+1)).map (C1 l))).length*16<=140737488355328 from by rw[Rg,Sb];have:=L0 d;omega) rfl rfl) λ(b:Hp)=>GL (QD q1.1 x3) (qV (Ω A l.length c)) (qV (Ω b.1 ((HKb q1 l)).length b.2)) (qV (Ω A l.length c)) (qI (l.length:Int)) (qI (((q1.1+1):Nat):Int)) (Yq (Qc 9 1 Q9 (HKb q1 l) b.1 b.2) (Qc 9 1 Q9 (HKb q1 l) b.1 b.2) λ_ _ _ h=>h)<|ai (show q1.1+1<=l.length from(Qt d)) (show l.length-(q1.1+1)<l.length-q1.1 from x8 (L0 d))) λd=>(show ∃y:Hp,SV.val (Ω q1.2.1 (((List.range q1.1).map (C1 l))).length q1.2.2)=SV.val ((λ(y:Hp)=>Ω y.1 ((List.range l.length).map (C1 l)).length y.2) y)/\∀(x:y9) (S:Nat->Prop) (w:xH),(Qc 9 1 Q9 ((List.range q1.1).map (C1 l)) q1.2.1 q1.2.2).φ x S w->((λ(y:Hp)=>Qc 9 1 Q9 ((List.range l.length).map (C1 l)) y.1 y.2) y).φ x S w from⟨q1.2,(by rw[(show q1.1=l.length from x8 (L1 d))]),λx S w h=>(by rw[(show q1.1=l.length from x8 (L1 d))]at h;exact h)⟩)) λW=>x5
theorem lK(m:xM)(j:Nat):bt m j<=255:=by
 unfold bt;have:=(m.data.toList.getD j 0).toNat_lt;omega
theorem sD(m:xM)(j:Nat):IntKind.i64.wrap ((bt m j:Nat):Int)=((bt m j:Nat):Int):=by grind[Le,lK]
def JI(m:xM)(j:Nat):xM:=Qz ((bt m j:Nat):Int)
def sw(l:List Tm)(j:Nat):List xM:=eC (Qb l j)
def Bj(l:List Tm)(k:Nat):List xM:=(List.range k).flatMap (sw l)
def Hk(l:List Tm)(k j:Nat):List xM:=Bj l k++(Yc (Qb l k).c::(List.range j).map (JI (Qb l k).m))
def pw_0(l:List Tm)(k:Nat):Bj l k++[Yc (Qb l k).c]=Hk l k 0:=rfl
def QfF(l:List Tm)(k j:Nat):Hk l k j++[JI (Qb l k).m j]=Hk l k (j+1):=by
 simp[Hk,ik]
theorem Qbn(l:List Tm)(k:Nat):Hk l k (Qb l k).m.size=Bj l (k+1):=by
 unfold Hk Bj;rw[S7,Sj];congr 1;have e:(List.range (Qb l k).m.size).map (JI (Qb l k).m)=(Qb l k).m.data.toList.map λb:UInt8=>Qz (b.toNat:Int):=Dh (Qb l k).m.data.toList 0 λb:UInt8=>Qz (b.toNat:Int)
 grind[sw,eC,Yc]
def dW(l:List Tm):Bj l l.length=l.flatMap eC:=by
 unfold Bj;rw[U8,U8];exact Lu List.flatten (Dh l Bp eC)
def dV(l:List Tm):Prop:=l.length<=40/\∀t,t∈l->gI t.c/\t.m.size<=12
theorem pN{l:List Tm}(h:dV l):∀k,k<=l.length->(Bj l k).length<=13*k
 |0,_=>L4 _
 |k+1,a=>by
  have b:=pN h k x3;have c:=(h.2 _ (Yh (show k<l.length by omega))).2
  grind[Qbn,Hk]
variable{j:Nat}
theorem pM{l:List Tm}(h:dV l)(a:k<l.length)(b:j<=(Qb l k).m.size):(Hk l k j).length*16<=140737488355328:=by
 have c:=pN h k x3;have d:=(h.2 _ (Yh a)).2;have e:=h.1
 grind[Hk]
abbrev HKc:Nat×Hp:=(0,none,0)
abbrev HKd(l:List Tm)(q1:Nat×Hp):xM:=(Qb l q1.1).m
def MV(v:Int)(A:xN)(c:Nat)(l:List Tm)(p:dV l)(w:xH)(C:QV w)(u:Tab10 w)(F:RdK w A l.length 4 (λk=>QK (Qb l k))):NewIn prog w [] 34 #[.agg #[Θ v,Ω A l.length c]] (λ(y:Hp)=>Ω y.1 (Bj l l.length).length y.2) (λ(y:Hp)=>Qc 9 1 Q9 (Bj l l.length) y.1 y.2) :=
 Bf Hp Qm QU (λa w=>call34 a w) func34 ntmps34 results34 _ rfl 0 _ _ [.nil 3 99999 9 1 Q9,YE (λ(q1:Nat×Hp)=>(⟨38,[(3,lV q1.2.1 ((Bj l q1.1)).length q1.2.2),(9,lV A l.length c),(10,iV (l.length:Int)),(11,iV (q1.1:Int))],[some (0,[])],[some (Qc 9 1 Q9 (Bj l q1.1) q1.2.1 q1.2.2)]⟩:St)) l.length HKc (λ(q1:Nat×Hp)=>[.both [x03 4 0 (.pointer (some (Q5 A (q1.1*4+0)))),x03 4 1 (.agg #[Ψ ((Qb l q1.1).m),Ξ ((Qb l q1.1).c.b),Ψ ((Qb l q1.1).c.s),Θ ((Qb l q1.1).c.e)]),x04 5 3 (sV (Yc (Qb l q1.1).c)),x08 5 5 0 (λ(q:Hp)=>(Ω q.1 ((Hk l q1.1 0)).length q.2,Qc 9 1 Q9 (Hk l q1.1 0) q.1 q.2,[x09 6 2 [] (λ(g:Hp)=>(Ω g.1 (HKd l q1).size g.2,IR (Qb l q1.1).m g.1,[YE (λ(d:Nat×Hp)=>(⟨38,[(3,lV d.2.1 ((Hk l q1.1 d.1)).length d.2.2),(9,lV A l.length c),(10,iV (l.length:Int)),(11,iV (q1.1:Int)),(23,lV g.1 (HKd l q1).size g.2),(24,iV (((HKd l q1).size:Nat):Int)),(25,iV (d.1:Int))],[some (0,[]),some (0,[]),some (0,[])],[some (Qc 9 1 Q9 (Hk l q1.1 d.1) d.2.1 d.2.2),none]⟩:St)) ((Qb l q1.1).m.size) (0,q) (λ(d:Nat×Hp)=>[.both [x06 8 0 [1] (.pointer (some (Q5 g.1 (d.1*1+0)))),x06 8 1 [1] (.int .u8 ((bt (Qb l q1.1).m d.1:Nat):Int)),x05 9 2 (iV ((bt (Qb l q1.1).m d.1:Nat):Int)),x04 9 3 (sV (JI (Qb l q1.1).m d.1)),x08 9 5 0 (λ(r:Hp)=>(Ω r.1 ((Hk l q1.1 (d.1+1))).length r.2,Qc 9 1 Q9 (Hk l q1.1 (d.1+1)) r.1 r.2,[x05 10 0 (iV ((d.1+1:Nat):Int)),.nxt [r]]))] [x05 11 0 (iV ((q1.1+1:Nat):Int)),.nxt [d.2]]])]))]))] []])] (λW D=>have G:=Ql C D;have z:=u.later D;have t:=F.up D (λ_=>rfl);KJ (qV (Ω HKc.2.1 ((Bj l (HKc.1))).length HKc.2.2)) (qV (Ω A l.length c)) (qI (l.length:Int)) (qI ((HKc.1:Nat):Int)) (Yq (Qc 9 1 Q9 ([]:List xM) none 0) (Qc 9 1 Q9 (Bj l (HKc.1)) (HKc.2.1) (HKc.2.2)) λ_ _ _ h=>h)<|ai (show 0<=l.length from L7 _) λ(q1:Nat×Hp) (H:(q1.1<=l.length))=>Xi (decide ((q1.1:Int)<(l.length:Int))) (λf=>Ja (Y0 c t q1.1 (Qt f)) (ZE t q1.1 0 (Qt f) x4 rfl rfl) (show RetAt prog W 35 #[nA ((Qb l q1.1).c)] (Ψ (Yc (Qb l q1.1).c))from B3 (L6 ((p.2 _ (Yh (Qt f))).1).2.1 x4) ⟨T7 x4 ((p.2 _ (Yh (Qt f))).1).2.2.1,T7 ((p.2 _ (Yh (Qt f))).1).2.2.2 x4⟩ W G z)<|ai (YJ W 91 9 1 1 Q9 (Bj l q1.1) ([Yc (Qb l q1.1).c]) (Hk l q1.1 0) q1.2.1 q1.2.2 ([Ψ (Yc (Qb l q1.1).c)]) XO ZF Gw (pw_0 l q1.1) (pM p (Qt f) (L7 _)) rfl rfl) λ(q:Hp)=>ai (ME prog W 9 81 5 x5 x5 x5 (Qb l q1.1).m) λ(g:Hp)=>Yx (qV (Ω q.1 ((Hk l q1.1 0)).length q.2)) (qV (Ω A l.length c)) (qI (l.length:Int)) (qI (q1.1:Int)) (qV (Ω g.1 (HKd l q1).size g.2)) (qI (((HKd l q1).size:Nat):Int)) (qI ((0:Nat):Int)) (Yq (Qc 9 1 Q9 (Hk l q1.1 0) q.1 q.2) (Qc 9 1 Q9 (Hk l q1.1 0) q.1 q.2) λ_ _ _ h=>h)<|ai (XR (IR (Qb l q1.1).m g.1))<|ai (show 0<=(Qb l q1.1).m.size from L7 _) λ(d:Nat×Hp) (I:(d.1<=(Qb l q1.1).m.size))=>Xi (decide ((d.1:Int)<((((Qb l q1.1).m:xM).size:Nat):Int))) (λj=>Ky (Pp ((Qb l q1.1).m) g.1 W (λB t=>Fw B g.2 t d.1 (show d.1<(Qb l q1.1).m.size from Qt j))) (Pp ((Qb l q1.1).m) g.1 W (λB t=>Oz B t d.1 0 (show d.1<(Qb l q1.1).m.size from Qt j) x4 rfl)) (sD (Qb l q1.1).m d.1) (show RetAt prog W 32 #[Θ ((bt (Qb l q1.1).m d.1:Nat):Int)] (Ψ (JI (Qb l q1.1).m d.1))from⟨λa w=>call32 a w,λB E=>DI _ B (x8 (lK (Qb l q1.1).m d.1)) (z.later E)⟩)<|ai (YJ W 91 9 1 1 Q9 (Hk l q1.1 d.1) ([JI (Qb l q1.1).m d.1]) (Hk l q1.1 (d.1+1)) d.2.1 d.2.2 ([Ψ (JI (Qb l q1.1).m d.1)]) XO ZF Gw (QfF l q1.1 d.1) (pM p (Qt f) (show d.1<(Qb l q1.1).m.size from Qt j)) rfl rfl) λ(r:Hp)=>Yx (QD d.1 (x8 ((p.2 _ (Yh (Qt f))).2))) (qV (Ω r.1 ((Hk l q1.1 (d.1+1))).length r.2)) (qV (Ω A l.length c)) (qI (l.length:Int)) (qI (q1.1:Int)) (qV (Ω g.1 (HKd l q1).size g.2)) (qI (((HKd l q1).size:Nat):Int)) (qI (((d.1+1):Nat):Int))<|X0 (Yq (Qc 9 1 Q9 (Hk l q1.1 (d.1+1)) r.1 r.2) (Qc 9 1 Q9 (Hk l q1.1 (d.1+1)) r.1 r.2) λ_ _ _ h=>h) (XR (IR (Qb l q1.1).m g.1))<|ai (show d.1+1<=(Qb l q1.1).m.size from Qt j) (show(Qb l q1.1).m.size-(d.1+1)<(Qb l q1.1).m.size-d.1 from x8 (L0 j))) λj=>Vv (QD q1.1 (x8 p.1)) (show(Ω d.2.1 ((Hk l q1.1 d.1)).length d.2.2:y9)=(Ω d.2.1 ((Bj l (q1.1+1))).length d.2.2)from(by rw[(show d.1=(Qb l q1.1).m.size from x8 (L1 j)),Qbn])) (qV (Ω A l.length c)) (qI (l.length:Int)) (qI (((q1.1+1):Nat):Int)) (Yq (Qc 9 1 Q9 (Hk l q1.1 d.1) d.2.1 d.2.2) (Qc 9 1 Q9 (Bj l (q1.1+1)) d.2.1 d.2.2) λ_ _ _ h=>(by rw[(show d.1=(Qb l q1.1).m.size from x8 (L1 j)),Qbn]at h;exact h))<|ai (show q1.1+1<=l.length from Qt f) (show l.length-(q1.1+1)<l.length-q1.1 from x8 (L0 f))) λf=>(show ∃y:Hp,SV.val (Ω q1.2.1 ((Bj l q1.1)).length q1.2.2)=SV.val ((λ(y:Hp)=>Ω y.1 (Bj l l.length).length y.2) y)/\∀(x:y9) (S:Nat->Prop) (w:xH),(Qc 9 1 Q9 (Bj l q1.1) q1.2.1 q1.2.2).φ x S w->((λ(y:Hp)=>Qc 9 1 Q9 (Bj l l.length) y.1 y.2) y).φ x S w from⟨q1.2,(by rw[(show q1.1=l.length from x8 (L1 f))]),λx S w h=>(by rw[(show q1.1=l.length from x8 (L1 f))]at h;exact h)⟩)) λW=>x5
def QaV{A:xN}{c:Nat}{l:List Nm}(f:l.length<=4000)(b:∀x,x∈l->gI x)(w:xH)(g:QV w)(d:Tab10 w):NewIn prog w [Qc 32 3 Xk l A c] 70 #[.slice A l.length c] (λy:Hp=>Value.slice y.1 ((List.range l.length).map (C1 l)).length y.2) (λy:Hp=>Qc 9 1 Q9 ((List.range l.length).map (C1 l)) y.1 y.2):=⟨λa w=>call70 a w,λW e x S h=>(oQ _ c _ f b W (Ql g e) (d.later e) (JN Xx nm0 h)).2 W (p5 _ _)⟩
variable{b:Nm}
def QaT{A:xN}{c:Nat}(f:gI a)(g:gI b)(w:xH)(h:QV w)(d:Tab10 w):NewIn prog w [Qc 32 3 Xk [a,b] A c] 70 #[.slice A 2 c] (λy:Hp=>Value.slice y.1 2 y.2) (λy:Hp=>Qc 9 1 Q9 [Yc a,Yc b] y.1 y.2):=QaV (l:=[a,b]) xq (λx e=>by
 rcases Lb.1 e with rfl|e
 ·exact f
 ·rw[Ly.1 e];exact g) w h d
def VG(l:List xM):xM:=⟨(ZJ l).toArray⟩
def BY(l:List xM):VR l++(⟨#[10]⟩:xM)=VG l:=Dx (Hw l) [10]
def ym(l:List xM):(VG l).data.toList=ZJ l:=by
 rfl
theorem JQ{l:List xM}{n:Nat}(h:(ZJ l).length<=n):(VR l).data.size<=n:=by
 have a:(VR l).data.size=(Hw l).length:=Rs
 grind[ZJ]
def oO(l:List (Nm×Nm))(j:Nat):List xM:=[Yc (QN l j).1,Yc (QN l j).2]
def Cy(l:List (Nm×Nm))(k:Nat):List xM:=Jh::(List.range k).flatMap (oO l)
def QcM(l:List (Nm×Nm))(k:Nat):Cy l k++[Yc (QN l k).1,Yc (QN l k).2]=Cy l (k+1):=by
 simp[Cy,S7,oO]
def Po(l:List (Nm×Nm)):∀k,(Cy l k).length=2*k+1
 |0=>rfl
 |k+1=>by rw[<- QcM,La,Po l k];show 2*k+1+2=_;omega
def Pn(l:List (Nm×Nm)):Cy l l.length=Jh::l.flatMap λs=>[Yc s.1,Yc s.2]:=by
 unfold Cy;rw[U8,U8];exact Lu (λr=>Jh::List.flatten r) (Dh l (nm0,nm0) λs=>[Yc s.1,Yc s.2])
def Qe4(l:List (Nm×Nm)):Prop:=0<l.length/\l.length<=4/\∀s,s∈l->gI s.1/\gI s.2
variable{l:List UInt8}
def Ay{t:List xM}(h:l.length<=8000000)(a:(ZJ t).length<=65536):l.length+(VG t).size<=8388608:=by
 have:(VG t).size=(ZJ t).length:=Rs;omega
def Qa6{m:List UInt8}{q y:xN}{u cs:Nat}{bx:List (Nm×Nm)}(f:Qe4 bx)(E:m.length<=8000000)(x:(ZJ (Jh::bx.flatMap λs=>[Yc s.1,Yc s.2])).length<=65536)(W:xH)(G:QV W)(z:Tab10 W)(D:RdK W q bx.length 6 (λk=>JR (QN bx k))):B8 prog W (YY 85 g m) 33 #[x02 g,.agg #[Ω q bx.length u,Ω y 0 cs]] (λ_:Unit=>.tuple #[]) (λ_:Unit=>YY 85 g (m++ZJ (Jh::bx.flatMap λs=>[Yc s.1,Yc s.2]))) (λ_=>False) :=
 VC Unit Qm QU (λa w=>call33 a w) func33 ntmps33 results33 _ rfl _ _ _ _ [.row 2 99999 1 [4,9] 9 1 Q9 ([Jh]) (λ(r:Hp)=>[YE (λ(q1:Nat×Hp)=>(⟨47,[(0,.val (x02 g)),(3,.ptr 0 0),(4,lV q1.2.1 ((Cy bx q1.1)).length q1.2.2),(11,lV q bx.length u),(12,iV (bx.length:Int)),(13,iV (q1.1:Int))],[none,some (0,[])],[none,none,some (Qc 9 1 Q9 (Cy bx q1.1) q1.2.1 q1.2.2)]⟩:St)) bx.length (0,r) (λ(q1:Nat×Hp)=>[.both [x03 4 0 (.pointer (some (Q5 q (q1.1*6+0)))),x03 4 1 (.agg #[Ξ ((QN bx q1.1).1.b),Ψ ((QN bx q1.1).1.s),Θ ((QN bx q1.1).1.e),Ξ ((QN bx q1.1).2.b),Ψ ((QN bx q1.1).2.s),Θ ((QN bx q1.1).2.e)]),.row 5 6 3 [22] 32 3 Xk ([(QN bx q1.1).1,(QN bx q1.1).2]) (λ(B:Hp)=>[x09 5 6 [3] (λ(p:Hp)=>(Ω p.1 2 p.2,Qc 9 1 Q9 ([Yc (QN bx q1.1).1,Yc (QN bx q1.1).2]) p.1 p.2,[.join 5 7 2 4,x08 5 7 2 (λ(d:Hp)=>(Ω d.1 ((Cy bx (q1.1+1))).length d.2,Qc 9 1 Q9 (Cy bx (q1.1+1)) d.1 d.2,[x05 6 0 (iV ((q1.1+1:Nat):Int)),.nxt [d]]))]))])] [.br false,.unr 1,.br false,.inl 14 2 f30,.reg 6 [],.o 0 4 (.retr [2] (Ψ (VR (Cy bx q1.1)))),x03 0 5 (Ψ (VG (Cy bx q1.1))),x07 0 6 0 (λ_=>False) (λ(C:Unit)=>(.tuple #[Θ (VG (Cy bx q1.1)).size,.nilIface],YY 85 g (m++(VG (Cy bx q1.1)).data.toList),[]))]])])] (λF=>ai (show([Ψ ⟨#[98,111,120]⟩]:o3)=List.flatMap Q9 ([Jh])from rfl)<|ai (p0 ZF (show([Jh]).length<=maxLen from xq)) λ(r:Hp)=>have Z:=qk (some (27,[lV q bx.length u,lV y 0 cs]));Yx (qV (x02 g)) (qV (Ω r.1 ((Cy bx 0)).length r.2)) (qV (Ω q bx.length u)) (qI (bx.length:Int)) (qI ((0:Nat):Int)) Z (XR (YY 85 g m)) (XR F)<|ai (Yq (Qc 9 1 Q9 ([Jh]) r.1 r.2) (Qc 9 1 Q9 (Cy bx 0) r.1 r.2) λ_ _ _ h=>h)<|ai (show 0<=bx.length from L7 _) λ(q1:Nat×Hp) (H:(q1.1<=bx.length))=>Xi (decide ((q1.1:Int)<(bx.length:Int))) (λj=>Ja (CR u D q1.1 (Qt j)) (Eu D q1.1 0 (Qt j) x4 rfl rfl) (show([Ξ ((QN bx q1.1).1.b),Ψ ((QN bx q1.1).1.s),Θ ((QN bx q1.1).1.e),Ξ ((QN bx q1.1).2.b),Ψ ((QN bx q1.1).2.s),Θ ((QN bx q1.1).2.e)]:o3)=List.flatMap Xk ([(QN bx q1.1).1,(QN bx q1.1).2])from rfl)<|ai (p0 Xx (show([(QN bx q1.1).1,(QN bx q1.1).2]).length<=maxLen from xq)) λ(B:Hp)=>ai (QaT (A:=B.1) (c:=B.2) (f.2.2 _ (ET (Qt j))).1 (f.2.2 _ (ET (Qt j))).2 W G z) λ(p:Hp)=>ai (Ef W 91 Q9 (Cy bx q1.1) ([Yc (QN bx q1.1).1,Yc (QN bx q1.1).2]) (Cy bx (q1.1+1)) q1.2.1 p.1 q1.2.2 p.2 XO x4 ZF Gw sepB1 (QcM bx q1.1) (by rw[Po];have:=f.2.1;have:=(Qt j);omega)) λ(d:Hp)=>Yx (QD q1.1 (x8 f.2.1)) (qV (x02 g)) (qV (Ω d.1 ((Cy bx (q1.1+1))).length d.2)) (qV (Ω q bx.length u)) (qI (bx.length:Int)) (qI (((q1.1+1):Nat):Int)) Z (XR (YY 85 g m))<|X0 (XR F) (Yq (Qc 9 1 Q9 (Cy bx (q1.1+1)) d.1 d.2) (Qc 9 1 Q9 (Cy bx (q1.1+1)) d.1 d.2) λ_ _ _ h=>h)<|ai (show q1.1+1<=bx.length from(Qt j)) (show bx.length-(q1.1+1)<bx.length-q1.1 from x8 (L0 j))) λj=>GL (show((bx.length:Int)==0)=false from Lp.2 (x8 f.1)) (show(decide (0<((0:Nat):Int)))=false from rfl) func30 (λa w=>call30 a w) (Mt (Cy bx q1.1) (t:=VR (Cy bx q1.1)) (A:=q1.2.1) (c:=q1.2.2) rfl (by rw[Po];omega) (by rw[Po];have:=f.2.1;omega) (JQ (show(ZJ (Cy bx q1.1)).length<=65536 from by rw[(show q1.1=bx.length from x8 (L1 j)),Pn];exact x)) W) (Z9 W (.tmp 8) (.const (Ψ ⟨#[10]⟩)) (VR (Cy bx q1.1)) ⟨#[10]⟩ (VG (Cy bx q1.1)) (by have:=JQ (show(ZJ (Cy bx q1.1)).length<=65536 from by rw[(show q1.1=bx.length from x8 (L1 j)),Pn];exact x);show(VR (Cy bx q1.1)).data.size+1<=_;omega) (BY (Cy bx q1.1))) (JB 85 ⟨KR,x4⟩ g m (VG (Cy bx q1.1)) (Ay E (show(ZJ (Cy bx q1.1)).length<=65536 from by rw[(show q1.1=bx.length from x8 (L1 j)),Pn];exact x)) W)<|ai (λ(C:Unit)=>(YP F (.tuple #[]) (λ_:Unit=>.tuple #[]) (YY 85 g (m++(VG (Cy bx q1.1)).data.toList)) (λ_:Unit=>YY 85 g (m++ZJ (Jh::bx.flatMap λs=>[Yc s.1,Yc s.2]))) () rfl λ_ _ _ h=>by rw[ym,(show q1.1=bx.length from x8 (L1 j)),Pn]at h;exact h)) (Yf F (λ_=>False) (λ_=>False) λ_ h=>h)) λF=>x5
def gW(l:List (List Nm))(j:Nat):List xM:=(Qu l j).map Yc
def Ct(l:List (List Nm))(k:Nat):List xM:=Q6::(List.range k).flatMap (gW l)
def Qei(l:List (List Nm))(k:Nat):Ct l k++(List.range (Qu l k).length).map (C1 (Qu l k))=Ct l (k+1):=by
 unfold Ct;rw[S7,Sj,show(List.range (Qu l k).length).map (C1 (Qu l k))=gW l k from Dh (Qu l k) nm0 Yc];simp
def SE(l:List (List Nm)):Ct l l.length=Q6::l.flatMap λp=>p.map Yc:=by
 unfold Ct;rw[U8,U8];exact Lu (λr=>Q6::List.flatten r) (Dh l [] λp=>p.map Yc)
def Qd1(l:List (List Nm)):Prop:=0<l.length/\l.length<=5/\∀p,p∈l->(0<p.length/\p.length<=4)/\∀x,x∈p->gI x
def SF{l:List (List Nm)}(h:Qd1 l):∀k,k<=l.length->0<(Ct l k).length/\(Ct l k).length<=4*k+1
 |0,_=>⟨L4 _,L4 _⟩
 |k+1,a=>by
  have b:=SF h k x3;have c:=(h.2.2 _ (Ka (show k<l.length by omega))).1;rw[<- Qei,La,Rg,Sb];omega
abbrev HKe(d:List (List Nm))(q1:Nat×Hp):=(List.range (Qu d q1.1).length).map (C1 (Qu d q1.1))
def Qa8{u:List UInt8}{D z:xN}{E cs:Nat}{C:Nat->xN}{G:Nat->Nat}{d:List (List Nm)}(f:Qd1 d)(M:u.length<=8000000)(B:(ZJ (Q6::d.flatMap λp=>p.map Yc)).length<=65536)(W:xH)(N:QV W)(H:Tab10 W)(K:RdK W z d.length 1 (λk=>yx d C G k))(O:∀j,j<d.length->RdK W (C j) (Qu d j).length 3 (λk=>Xk (Xm (Qu d j) k))):B8 prog W (YY 85 g u) 33 #[x02 g,.agg #[Ω D 0 E,Ω z d.length cs]] (λ_:Unit=>.tuple #[]) (λ_:Unit=>YY 85 g (u++ZJ (Q6::d.flatMap λp=>p.map Yc))) (λ_=>False) :=
 VC Unit Qm QU (λa w=>call33 a w) func33 ntmps33 results33 _ rfl _ _ _ _ [.row 2 99999 1 [4,9] 9 1 Q9 ([Jh]) (λ(m:Hp)=>[.unr 1,.br false,.br true,x06 8 1 [2] (.pointer (some (Q5 m.1 (0*1+0)))),x08 8 2 2 (λ(I:Unit)=>(undef,Qc 9 1 Q9 ([Q6]) m.1 m.2,[YE (λ(q1:Nat×Hp)=>(⟨47,[(0,.val (x02 g)),(3,.ptr 0 0),(4,lV q1.2.1 ((Ct d q1.1)).length q1.2.2),(33,lV z d.length cs),(34,iV (d.length:Int)),(35,iV (q1.1:Int))],[none,some (0,[])],[none,none,some (Qc 9 1 Q9 (Ct d q1.1) q1.2.1 q1.2.2)]⟩:St)) d.length (0,m) (λ(q1:Nat×Hp)=>[.both [x03 11 0 (.pointer (some (Q5 z (q1.1*1+0)))),x03 11 1 (Ω (C q1.1) (Qu d q1.1).length (G q1.1)),x09 12 2 [] (λ(x:Hp)=>(Ω x.1 (HKe d q1).length x.2,Qc 9 1 Q9 (HKe d q1) x.1 x.2,[.join 12 3 2 3,x08 12 3 2 (λ(q:Hp)=>(Ω q.1 ((Ct d (q1.1+1))).length q.2,Qc 9 1 Q9 (Ct d (q1.1+1)) q.1 q.2,[x05 13 0 (iV ((q1.1+1:Nat):Int)),.nxt [q]]))]))] [.inl 14 2 f30,.reg 6 [],.o 0 4 (.retr [2] (Ψ (VR (Ct d q1.1)))),x03 0 5 (Ψ (VG (Ct d q1.1))),x07 0 6 0 (λ_=>False) (λ(J:Unit)=>(.tuple #[Θ (VG (Ct d q1.1)).size,.nilIface],YY 85 g (u++(VG (Ct d q1.1)).data.toList),[]))]])]))])] (λF=>ai (show([Ψ ⟨#[98,111,120]⟩]:o3)=List.flatMap Q9 ([Jh])from rfl)<|ai (p0 ZF (show([Jh]).length<=maxLen from xq)) λ(m:Hp)=>Ja (show(decide (0<((0:Nat):Int)))=false from rfl) (show(((0:Nat):Int)==0)=true from rfl) (Jl W 9 1 Q9 ([Jh]) m.1 m.2 ZF sepB1 (λQ S=>cX Q m.2 S 0 x4))<|ai (Iz prog W 9 1 m.2 Q9 m.1 9 0 0 ([Jh]) ([Q6]) (Ψ Q6) Q6 ZF sepB1 (Qm 9 _ rfl) rfl rfl x4 x4 (Gw _) rfl) λ(I:Unit)=>have Z:=qk (some (27,[lV D 0 E,lV z d.length cs]));Yx (qV (x02 g)) (qV (Ω m.1 ((Ct d 0)).length m.2)) (qV (Ω z d.length cs)) (qI (d.length:Int)) (qI ((0:Nat):Int)) Z (XR (YY 85 g u)) (XR F)<|ai (Yq (Qc 9 1 Q9 ([Q6]) m.1 m.2) (Qc 9 1 Q9 (Ct d 0) m.1 m.2) λ_ _ _ h=>h)<|ai (show 0<=d.length from L7 _) λ(q1:Nat×Hp) (L:(q1.1<=d.length))=>Xi (decide ((q1.1:Int)<(d.length:Int))) (λr=>X0 (Zy cs K q1.1 (Qt r)) (J6 K q1.1 0 (Qt r) x4 rfl)<|ai (oQ (C q1.1) (G q1.1) (Qu d q1.1) (L6 (f.2.2 _ (Ka (Qt r))).1.2 x4) (f.2.2 _ (Ka (Qt r))).2 W N H (O q1.1 (Qt r))) λ(x:Hp)=>ai (Ef W 91 Q9 (Ct d q1.1) (HKe d q1) (Ct d (q1.1+1)) q1.2.1 x.1 q1.2.2 x.2 XO x4 ZF Gw sepB1 (Qei d q1.1) (by have:=(SF f (q1.1+1) (Qt r)).2;have:=f.2.1;have:=(Qt r);omega)) λ(q:Hp)=>Yx (QD q1.1 (x8 f.2.1)) (qV (x02 g)) (qV (Ω q.1 ((Ct d (q1.1+1))).length q.2)) (qV (Ω z d.length cs)) (qI (d.length:Int)) (qI (((q1.1+1):Nat):Int)) Z (XR (YY 85 g u))<|X0 (XR F) (Yq (Qc 9 1 Q9 (Ct d (q1.1+1)) q.1 q.2) (Qc 9 1 Q9 (Ct d (q1.1+1)) q.1 q.2) λ_ _ _ h=>h)<|ai (show q1.1+1<=d.length from(Qt r)) (show d.length-(q1.1+1)<d.length-q1.1 from x8 (L0 r))) λr=>KJ func30 (λa w=>call30 a w) (Mt (Ct d q1.1) (t:=VR (Ct d q1.1)) (A:=q1.2.1) (c:=q1.2.2) rfl (SF f q1.1 L).1 (xF ((SF f q1.1 L).2) f.2.1) (JQ (show(ZJ (Ct d q1.1)).length<=65536 from by rw[(show q1.1=d.length from x8 (L1 r)),SE];exact B)) W) (Z9 W (.tmp 8) (.const (Ψ ⟨#[10]⟩)) (VR (Ct d q1.1)) ⟨#[10]⟩ (VG (Ct d q1.1)) (by have:=JQ (show(ZJ (Ct d q1.1)).length<=65536 from by rw[(show q1.1=d.length from x8 (L1 r)),SE];exact B);show(VR (Ct d q1.1)).data.size+1<=_;omega) (BY (Ct d q1.1))) (JB 85 ⟨KR,x4⟩ g u (VG (Ct d q1.1)) (Ay M (show(ZJ (Ct d q1.1)).length<=65536 from by rw[(show q1.1=d.length from x8 (L1 r)),SE];exact B)) W)<|ai (λ(J:Unit)=>(YP F (.tuple #[]) (λ_:Unit=>.tuple #[]) (YY 85 g (u++(VG (Ct d q1.1)).data.toList)) (λ_:Unit=>YY 85 g (u++ZJ (Q6::d.flatMap λp=>p.map Yc))) () rfl λ_ _ _ h=>by rw[ym,(show q1.1=d.length from x8 (L1 r)),SE]at h;exact h)) (Yf F (λ_=>False) (λ_=>False) λ_ h=>h)) λF=>x5
def KF(a:List UInt8)(f:Nat->List xM)(k:Nat):List UInt8:=a++((List.range k).map f).flatMap ZJ
theorem aK(a:List UInt8)(f:Nat->List xM)(k:Nat):KF a f k++ZJ (f k)=KF a f (k+1):=by
 simp[KF,S7]
theorem IE(hd:List UInt8){f:Nat->List xM}{n:Nat}(h:∀j,j<n->(ZJ (f j)).length<=65536):∀k,k<=n->(KF hd f k).length<=hd.length+65536*k
 |0,_=>by unfold KF;simp
 |k+1,a=>by
  have b:=IE hd h k x3
  grind[aK]
variable{V:Nat}
theorem Qa7{x:PV}(g:Nat)(l0:List UInt8){m n:xN}(cb cs:Nat){o:Nat->xN}{w:Nat->Nat}(i:PbG x v V)(q:l0.length<=8000000)(f:(ZJ (BE x.box x.κ)).length<=65536)(W:xH)(r:QV W)(h:Tab10 W)(z:RdK W m x.box.length 6 (λk=>JR (QN x.box k)))(A:RdK W n x.κ.length 1 (λk=>yx x.κ o w k))(B:∀j,j<x.κ.length->RdK W (o j) (Qu x.κ j).length 3 (λk=>Xk (Xm (Qu x.κ j) k))):B8 prog W (YY 85 g l0) 33 #[.pointer (some ⟨g,0,none⟩),.agg #[.slice m x.box.length cb,.slice n x.κ.length cs]] (λ_:Unit=>.tuple #[]) (λ_:Unit=>YY 85 g (l0++ZJ (BE x.box x.κ))) (λ_=>False):=by
 have D:=i.v4;have l:=i.a;rcases i.d.2 with⟨a,b,_⟩|⟨a,b,_,c⟩
 ·have e:BE x.box x.κ=Jh::x.box.flatMap λs=>[Yc s.1,Yc s.2]:=by
   grind[BE]
  rw[e]at f ⊢;rw[b];exact Qa6 ⟨x3,x3,λs t=>⟨l _ (VH t).1,l _ (VH t).2⟩⟩ q f W r h z
 ·have e:BE x.box x.κ=Q6::x.κ.flatMap λp=>p.map Yc:=by
   unfold BE;rw[a];rfl
  rw[e]at f ⊢;rw[a];exact Qa8 ⟨x3,x3,λp u=>⟨x8 ((c p u).1),λy C=>l _ (It u C)⟩⟩ q f W r h A B
def xJ  (w:xH):RetAt prog w 31 #[] (.agg #[x00,Ψ ⟨#[114,97,110,103,101]⟩,Ψ ⟨#[114,97,116,105,111]⟩,Ψ ⟨#[112,111,115,105,116,105,118,101]⟩,Ψ ⟨#[109,105,110,105,109,117,109]⟩,Ψ ⟨#[122,101,114,111,115]⟩,Ψ ⟨#[99,104,101,99,107]⟩]) :=
 rk [] λW a b=>(show(.agg #[x00,Ψ ⟨#[114,97,110,103,101]⟩,Ψ ⟨#[114,97,116,105,111]⟩,Ψ ⟨#[112,111,115,105,116,105,118,101]⟩,Ψ ⟨#[109,105,110,105,109,117,109]⟩,Ψ ⟨#[122,101,114,111,115]⟩,Ψ ⟨#[99,104,101,99,107]⟩]:y9)=.agg #[x00,Ψ ⟨#[114,97,110,103,101]⟩,Ψ ⟨#[114,97,116,105,111]⟩,Ψ ⟨#[112,111,115,105,116,105,118,101]⟩,Ψ ⟨#[109,105,110,105,109,117,109]⟩,Ψ ⟨#[122,101,114,111,115]⟩,Ψ ⟨#[99,104,101,99,107]⟩]from rfl)
def xI{k:Int}(a:1<=k)(b:k<=6)(W:xH):Qp prog W (Instr.index 87 (.agg #[.string ⟨#[]⟩,.string ⟨#[114,97,110,103,101]⟩,.string ⟨#[114,97,116,105,111]⟩,.string ⟨#[112,111,115,105,116,105,118,101]⟩,.string ⟨#[109,105,110,105,109,117,109]⟩,.string ⟨#[122,101,114,111,115]⟩,.string ⟨#[99,104,101,99,107]⟩]) (.int .i64 k)) (.string (wKinds.getD k.toNat ⟨#[]⟩)):=λc _=>by
 rcases(show k=1\/k=2\/k=3\/k=4\/k=5\/k=6 by omega)with rfl|rfl|rfl|rfl|rfl|rfl<;>rfl
def aJ(x:PV):List UInt8:=ZJ [wKinds.getD x.δ.toNat ⟨#[]⟩,Qz x.vars]++ZJ (BE x.box x.κ)
def fP(x:PV)(j:Nat):List xM:=ZC::EM (QM x.ps j)
def fR(x:PV)(j:Nat):List xM:=Xu::EM (QM x.θ j)
def fC(x:PV)(j:Nat):List xM:=OL (Qn x.ι j)
def lc(x:PV):List UInt8:=KF (aJ x) (fP x) x.ps.length
def BN(x:PV):List UInt8:=KF (lc x) (fR x) x.θ.length
def Uf(x:PV):List UInt8:=KF (BN x) (fC x) x.ι.length
theorem eG(x:PV):VP x=Uf x++(Gy x.δ x.ν x.ε x.ζ).flatMap ZJ:=by
 have a:(List.range x.ps.length).map (fP x)=x.ps.map λp=>ZC::EM p:=Dh x.ps NU λp=>ZC::EM p
 have b:(List.range x.θ.length).map (fR x)=x.θ.map λp=>Xu::EM p:=Dh x.θ NU λp=>Xu::EM p
 have c:(List.range x.ι.length).map (fC x)=x.ι.map OL:=Dh x.ι Eh OL;unfold VP Dt Uf BN lc aJ KF
 grind
def rQ(a:List UInt8)(f:Nat->List xM):KF a f 0=a:=Rq a
section
variable{x:PV}{v V:Nat}(h:PbG x v V)
include h
abbrev eX(l:List xM):Prop:=(ZJ l).length<=65536/\0<l.length/\l.length<=1000
theorem dv:eX [wKinds.getD x.δ.toNat ⟨#[]⟩,Qz x.vars]:=by grind[F3,Dt]
theorem Qdy:eX (BE x.box x.κ):=by grind[F3,Dt]
theorem dw{j:Nat}(a:j<x.ps.length):eX (fP x j):=by grind[F3,Dt,fP,VK]
theorem dz{j:Nat}(a:j<x.θ.length):eX (fR x j):=by grind[F3,Dt,fR,VK]
theorem Hy{j:Nat}(a:j<x.ι.length):eX (fC x j):=by grind[F3,Dt,fC,DK]
theorem Gm(b:(x.δ==6)=false):eX [Zh,Yc x.ν]/\eX [Qy,Qz x.ζ]/\((x.δ==4)=true->eX [Xh,Yc x.ε]):=by
 have key:∀l,l∈Gy x.δ x.ν x.ε x.ζ->eX l:=λl a=>F3 h l (by unfold Dt;simp only[Lb,Lo];exact .inr (.inr (.inr (.inr (.inr a)))))
 grind[Gy]
theorem Av:(aJ x).length<=131072/\(∀k,k<=x.ps.length->(KF (aJ x) (fP x) k).length<=1000000)/\(∀k,k<=x.θ.length->(KF (lc x) (fR x) k).length<=2000000)/\∀k,k<=x.ι.length->(KF (BN x) (fC x) k).length<=7000000:=by
 have e:=(dv h).1;have f:=(Qdy h).1;have g:(aJ x).length<=131072:=by unfold aJ;rw[La];omega
 have l:x.ps.length<=4:=by
  have e:=h.n;have f:=h.k;have m:=h.q;have o:=h.v4
  grind[QY]
 have p:=h.rn;have r:=h.cn;have c:∀k,k<=x.ps.length->(KF (aJ x) (fP x) k).length<=1000000:=λk a=>by
  have:=IE (aJ x) (λj b=>(dw h b).1) k a;omega
 have d:∀k,k<=x.θ.length->(KF (lc x) (fR x) k).length<=2000000:=λk a=>by
  have:=IE (lc x) (λj b=>(dz h b).1) k a;have i:(lc x).length<=1000000:=c _ (L4 _);omega
 refine⟨g,c,d,λk a=>?_⟩;have:=IE (BN x) (λj b=>(Hy h b).1) k a;have i:(BN x).length<=2000000:=d _ (L4 _);omega
omit h in
theorem pO{n:Nat}(a:lk n p)(c:ZQ p=true):dV p.ts:=⟨(Fs c).1,λt b=>⟨⟨a.1.f t b,((Fs c).2 t b).1⟩,by have:=(om (a.1.m t b)).1;have:=a.1.n;have e:t.m.data.toList.length=t.m.size:=rfl;omega⟩⟩
theorem QfD{j:Nat}(a:j<x.ps.length):dV (QM x.ps j).ts:=pO (h.p _ (VK a)) (h.g _ (by unfold KK;simp[VK a]))
theorem QfE{j:Nat}(a:j<x.θ.length):dV (QM x.θ j).ts:=pO (h.r _ (VK a)) (h.g _ (by unfold KK;simp[VK a]))
theorem QcV{j:Nat}(a:j<x.ι.length):(x.δ==6)=true:=by
 cases e:x.δ==6 with
 |true=>rfl
 |false=>rw[h.c6 e]at a;exact absurd a (R4 _)
theorem QfC{j:Nat}(a:j<x.ι.length)(b:((Qn x.ι j).split==0)=true):dV (Qn x.ι j).sum.ts:=pO (((h.c (QcV h a)).2.2.2.2 _ (DK a)).2 b).2.2 (h.g _ (by unfold KK;simp only[Lo,Lv];exact .inr ⟨_,DK a,rfl⟩))
theorem QbC{j:Nat}(b:j<x.ι.length):gI (Qn x.ι j).ο:=h.a _ (by unfold Qk;simp only[Lo,Sa];exact .inr ⟨_,DK b,x6⟩)
theorem zL:gI x.ν:=h.a _ (by unfold Qk;simp)
theorem zz:gI x.ε:=h.a _ (by unfold Qk;simp)
end
def du(a:List UInt8)(l:List xM):a++ZJ l≠[]:=λe=>by
 have h:=(List.append_eq_nil_iff.1 (List.append_eq_nil_iff.1 e).2).2;cases h
def eH{a:List UInt8}(h:a≠[])(f:Nat->List xM)(k:Nat):KF a f k≠[]:=λe=>h (List.append_eq_nil_iff.1 e).1
def Qez(x:PV)(k:Nat):KF (BN x) (fC x) k≠[]:=eH (eH (eH (du _ _) _ _) _ _) _ _
def Qff(x:PV)(j:Nat):[ZC]++Bj (QM x.ps j).ts (QM x.ps j).ts.length=fP x j:=by rw[dW];rfl
def Qfg(x:PV)(j:Nat):[Xu]++Bj (QM x.θ j).ts (QM x.θ j).ts.length=fR x j:=by rw[dW];rfl
section
variable{x:PV}{j:Nat}
theorem jK(h:((Qn x.ι j).split != 0)=true):fC x j=[Xo]:=by
 grind[fC,OL]
def Qfe(h:((Qn x.ι j).split != 0)=false):[Zq,Yc (Qn x.ι j).ο]++Bj (Qn x.ι j).sum.ts (Qn x.ι j).sum.ts.length=fC x j:=by
 unfold fC OL;rw[dW,show((Qn x.ι j).split==0)=true by simpa using h];rfl
theorem Qc3{v V:Nat}(_:PbG x v V)(h:(x.δ==6)=true):VP x=Uf x:=by
 rw[eG]
 grind[Gy]
theorem Qc2(h:(x.δ==6)=false)(a:(x.δ==4)=true):VP x=((Uf x++ZJ [Zh,Yc x.ν])++ZJ [Xh,Yc x.ε])++ZJ [Qy,Qz x.ζ]:=by
 rw[eG];simp_all[Gy]
def Qc4(h:(x.δ==6)=false)(a:(x.δ==4)=false):VP x=(Uf x++ZJ [Zh,Yc x.ν])++ZJ [Qy,Qz x.ζ]:=by
 rw[eG];unfold Gy;rw[h,a];simp
end
theorem PbG.c64{x:PV}(h:PbG x v V):x.ι.length<=64/\x.θ.length<=4/\x.ps.length<=4:=⟨h.cn,h.rn,by
 have a:=h.n;have b:=h.q;have c:=h.v4
 grind[QY]⟩
abbrev HKf(r:Nat):y9:=.pointer (some ⟨r,0,none⟩)
abbrev HKg:y9:=.string ⟨#[10]⟩
variable{Ab As:xN}{Us:Nat->xN}{us:Nat->Nat}
def wb{x:PV}{P Q O:xN}{cb cs kp kr R:Nat}{Up Ur Uc:Nat->xN}{up ur uc:Nat->Nat}(f:PbG x v V)(w:xH)(L:QV w)(F:Tab10 w)(HB:RdK w Ab x.box.length 6 (λk=>JR (QN x.box k)))(HS:RdK w As x.κ.length 1 (λk=>yx x.κ Us us k))(HP:∀j,j<x.κ.length->RdK w (Us j) (Qu x.κ j).length 3 (λk=>Xk (Xm (Qu x.κ j) k)))(HQ:RdK w P x.ps.length 2 (λk=>X7 x.ps Up up k))(U:∀j,j<x.ps.length->RdK w (Up j) (QM x.ps j).ts.length 4 (λk=>QK (Qb (QM x.ps j).ts k)))(HU:RdK w Q x.θ.length 2 (λk=>X7 x.θ Ur ur k))(X:∀j,j<x.θ.length->RdK w (Ur j) (QM x.θ j).ts.length 4 (λk=>QK (Qb (QM x.θ j).ts k)))(HC:RdK w O x.ι.length 6 (λk=>be x.ι Uc uc k))(Y:∀j,j<x.ι.length->RdK w (Uc j) (Qn x.ι j).sum.ts.length 4 (λk=>QK (Qb (Qn x.ι j).sum.ts k))):RetAt prog w 17 #[xA x Ab cb As cs P kp Q kr O R] (Ψ ⟨(VP x).toArray⟩) :=
 let Z:OB:=some (35,(xS x Ab cb As cs P kp Q kr O R));rk [.nil 2 99999 5 1 (λb:UInt8=>[.int .u8 b.toNat]),.giv 2 99999 1 0 [3] (λ(r:Nat)=>[.cnv 2 99999 1 (YY 85 r []),.reg 8 [],x04 2 0 (.agg [sV ⟨#[]⟩,sV ⟨#[114,97,110,103,101]⟩,sV ⟨#[114,97,116,105,111]⟩,sV ⟨#[112,111,115,105,116,105,118,101]⟩,sV ⟨#[109,105,110,105,109,117,109]⟩,sV ⟨#[122,101,114,111,115]⟩,sV ⟨#[99,104,101,99,107]⟩]),x03 2 3 (Ψ (wKinds.getD x.δ.toNat ⟨#[]⟩)),x04 2 6 (sV (Qz x.vars)),.inl 2 8 f30,.reg 6 [],x04 0 4 (sV (VR [(wKinds.getD x.δ.toNat ⟨#[]⟩),(Qz x.vars)])),x03 0 5 (Ψ (VG [(wKinds.getD x.δ.toNat ⟨#[]⟩),(Qz x.vars)])),x07 0 6 1 (λ_=>False) (λ(u1:Unit)=>(.tuple #[Θ (VG [(wKinds.getD x.δ.toNat ⟨#[]⟩),(Qz x.vars)]).size,.nilIface],YY 85 r (ZJ [(wKinds.getD x.δ.toNat ⟨#[]⟩),(Qz x.vars)]),[x07 3 2 1 (λ_=>False) (λ(u2:Unit)=>(.tuple #[],YY 85 r (aJ x),[x0a (0:Nat) (λ(q1:Nat) (u:List Hp)=>(q1+1)) (λ(q1:Nat)=>((⟨95,[(1,.ptr 0 0),(3,.val (HKf r)),(23,lV P x.ps.length kp),(24,iV (x.ps.length:Int)),(25,iV (q1:Int))],[none,some (0,[]),some (0,[]),some (0,[]),some (0,[]),some (0,[]),some (0,[]),some (0,[]),some (0,[]),some (0,[]),some (0,[]),some (0,[]),some (0,[]),some (0,[]),some (0,[]),some (0,[])],[none,some (YY 85 r (KF (aJ x) (fP x) q1))]⟩:St),(q1<=x.ps.length),(x.ps.length-q1),[.both [x03 6 0 (.pointer (some (Q5 P (q1*2+0)))),x03 6 1 (.agg #[Θ ((QM x.ps q1).vars),Ω (Up q1) (QM x.ps q1).ts.length (up q1)]),x09 7 2 [] (λ(C:Hp)=>(Ω C.1 (Bj (QM x.ps q1).ts (QM x.ps q1).ts.length).length C.2,Qc 9 1 Q9 (Bj (QM x.ps q1).ts (QM x.ps q1).ts.length) C.1 C.2,[.row 7 3 17 [29] 9 1 Q9 ([ZC]) (λ(I:Hp)=>[.join 7 3 3 2,x08 7 3 3 (λ(D:Hp)=>(Ω D.1 (fP x q1).length D.2,Qc 9 1 Q9 (fP x q1) D.1 D.2,[.inl 7 4 f30,.reg 6 [],.o 0 4 (.retr [3] (Ψ (VR (fP x q1)))),x03 0 5 (Ψ (VG (fP x q1))),x07 0 6 1 (λ_=>False) (λ(G:Unit)=>(.tuple #[Θ (VG (fP x q1)).size,.nilIface],YY 85 r ((KF (aJ x) (fP x) q1)++ZJ (fP x q1)),[x05 8 0 (iV ((q1+1:Nat):Int)),.nxt []]))]))])]))] [x0a (0:Nat) (λ(m:Nat) (u:List Hp)=>(m+1)) (λ(m:Nat)=>((⟨95,[(1,.ptr 0 0),(3,.val (HKf r)),(36,lV Q x.θ.length kr),(37,iV (x.θ.length:Int)),(38,iV (m:Int))],[none,some (0,[]),some (0,[]),some (0,[]),some (0,[]),some (0,[]),some (0,[]),some (0,[]),some (0,[]),some (0,[]),some (0,[]),some (0,[]),some (0,[]),some (0,[]),some (0,[]),some (0,[])],[none,some (YY 85 r (KF (lc x) (fR x) m))]⟩:St),(m<=x.θ.length),(x.θ.length-m),[.both [x03 11 0 (.pointer (some (Q5 Q (m*2+0)))),x03 11 1 (.agg #[Θ ((QM x.θ m).vars),Ω (Ur m) (QM x.θ m).ts.length (ur m)]),x09 12 2 [] (λ(C:Hp)=>(Ω C.1 (Bj (QM x.θ m).ts (QM x.θ m).ts.length).length C.2,Qc 9 1 Q9 (Bj (QM x.θ m).ts (QM x.θ m).ts.length) C.1 C.2,[.row 12 3 17 [42] 9 1 Q9 ([Xu]) (λ(I:Hp)=>[.join 12 3 3 2,x08 12 3 3 (λ(D:Hp)=>(Ω D.1 (fR x m).length D.2,Qc 9 1 Q9 (fR x m) D.1 D.2,[.inl 12 4 f30,.reg 6 [],.o 0 4 (.retr [3] (Ψ (VR (fR x m)))),x03 0 5 (Ψ (VG (fR x m))),x07 0 6 1 (λ_=>False) (λ(G:Unit)=>(.tuple #[Θ (VG (fR x m)).size,.nilIface],YY 85 r ((KF (lc x) (fR x) m)++ZJ (fR x m)),[x05 13 0 (iV ((m+1:Nat):Int)),.nxt []]))]))])]))] [x0a (0:Nat) (λ(d:Nat) (u:List Hp)=>(d+1)) (λ(d:Nat)=>((⟨95,[(1,.ptr 0 0),(3,.val (HKf r)),(49,lV O x.ι.length R),(50,iV (x.ι.length:Int)),(51,iV (d:Int))],[none,some (0,[]),some (0,[]),some (0,[]),some (0,[]),some (0,[]),some (0,[]),some (0,[]),some (0,[]),some (0,[]),some (0,[]),some (0,[]),some (0,[]),some (0,[]),some (0,[]),some (0,[])],[none,some (YY 85 r (KF (BN x) (fC x) d))]⟩:St),(d<=x.ι.length),(x.ι.length-d),[.both [x03 16 0 (.pointer (some (Q5 O (d*6+0)))),x03 16 1 (.agg #[Θ ((Qn x.ι d).split),Ξ ((Qn x.ι d).ο.b),Ψ ((Qn x.ι d).ο.s),Θ ((Qn x.ι d).ο.e),Θ ((Qn x.ι d).sum.vars),Ω (Uc d) (Qn x.ι d).sum.ts.length (uc d)]),.both [.inl 18 1 f30,.reg 6 [],x04 0 4 (sV (VR [Xo])),x03 0 5 (Ψ (VG [Xo])),x07 0 6 1 (λ_=>False) (λ(G:Unit)=>(.tuple #[Θ (VG [Xo]).size,.nilIface],YY 85 r ((KF (BN x) (fC x) d)++ZJ [Xo]),[x05 20 0 (iV ((d+1:Nat):Int)),.nxt []]))] [.reg 7 [],x04 19 2 (sV (Yc (Qn x.ι d).ο)),.o 19 6 (.nw (.han 8) [] (λ(y:Hp)=>Ω y.1 ((Bj (Qn x.ι d).sum.ts (Qn x.ι d).sum.ts.length)).length y.2) (λ(y:Hp)=>Qc 9 1 Q9 (Bj (Qn x.ι d).sum.ts (Qn x.ι d).sum.ts.length) y.1 y.2)),.opn 19 7 8 (λ(C:Hp)=>Ω C.1 ((Bj (Qn x.ι d).sum.ts (Qn x.ι d).sum.ts.length)).length C.2) (λ(C:Hp)=>Qc 9 1 Q9 (Bj (Qn x.ι d).sum.ts (Qn x.ι d).sum.ts.length) C.1 C.2) (λ(C:Hp)=>[.row 19 7 20 [63] 9 1 Q9 ([Zq,Yc (Qn x.ι d).ο]) (λ(I:Hp)=>[.join 19 7 9 8,x08 19 7 9 (λ(D:Hp)=>(Ω D.1 (fC x d).length D.2,Qc 9 1 Q9 (fC x d) D.1 D.2,[.inl 19 8 f30,.reg 6 [],.o 0 4 (.retr [9] (Ψ (VR (fC x d)))),x03 0 5 (Ψ (VG (fC x d))),x07 0 6 1 (λ_=>False) (λ(G:Unit)=>(.tuple #[Θ (VG (fC x d)).size,.nilIface],YY 85 r ((KF (BN x) (fC x) d)++ZJ (fC x d)),[x05 20 0 (iV ((d+1:Nat):Int)),.nxt []]))]))])])]] [.both [x07 22 1 1 (λ_=>False) (λ(G:Unit)=>(Ψ ⟨((KF (BN x) (fC x) d)).toArray⟩,ZI,[]))] [x04 23 2 (sV (Yc x.ν)),.inl 23 4 f30,.reg 6 [],x04 0 4 (sV (VR [Zh,(Yc x.ν)])),x03 0 5 (Ψ (VG [Zh,(Yc x.ν)])),x07 0 6 1 (λ_=>False) (λ(G:Unit)=>(.tuple #[Θ (VG [Zh,(Yc x.ν)]).size,.nilIface],YY 85 r ((KF (BN x) (fC x) d)++ZJ [Zh,(Yc x.ν)]),[.both [x04 25 2 (sV (Yc x.ε)),.inl 25 4 f30,.reg 6 [],x04 0 4 (sV (VR [Xh,(Yc x.ε)])),x03 0 5 (Ψ (VG [Xh,(Yc x.ε)])),x07 0 6 1 (λ_=>False) (λ(u4:Unit)=>(.tuple #[Θ (VG [Xh,(Yc x.ε)]).size,.nilIface],YY 85 r (((KF (BN x) (fC x) d)++ZJ [Zh,(Yc x.ν)])++ZJ [Xh,(Yc x.ε)]),[x04 26 2 (sV (Qz x.ζ)),.inl 26 4 f30,.reg 6 [],x04 0 4 (sV (VR [Qy,(Qz x.ζ)])),x03 0 5 (Ψ (VG [Qy,(Qz x.ζ)])),x07 0 6 1 (λ_=>False) (λ(u5:Unit)=>(.tuple #[Θ (VG [Qy,(Qz x.ζ)]).size,.nilIface],YY 85 r ((((KF (BN x) (fC x) d)++ZJ [Zh,(Yc x.ν)])++ZJ [Xh,(Yc x.ε)])++ZJ [Qy,(Qz x.ζ)]),[x07 27 1 1 (λ_=>False) (λ(u6:Unit)=>(Ψ ⟨(((((KF (BN x) (fC x) d)++ZJ [Zh,(Yc x.ν)])++ZJ [Xh,(Yc x.ε)])++ZJ [Qy,(Qz x.ζ)])).toArray⟩,ZI,[]))]))]))] [x04 26 2 (sV (Qz x.ζ)),.inl 26 4 f30,.reg 6 [],x04 0 4 (sV (VR [Qy,(Qz x.ζ)])),x03 0 5 (Ψ (VG [Qy,(Qz x.ζ)])),x07 0 6 1 (λ_=>False) (λ(u4:Unit)=>(.tuple #[Θ (VG [Qy,(Qz x.ζ)]).size,.nilIface],YY 85 r (((KF (BN x) (fC x) d)++ZJ [Zh,(Yc x.ν)])++ZJ [Qy,(Qz x.ζ)]),[x07 27 1 1 (λ_=>False) (λ(u5:Unit)=>(Ψ ⟨((((KF (BN x) (fC x) d)++ZJ [Zh,(Yc x.ν)])++ZJ [Qy,(Qz x.ζ)])).toArray⟩,ZI,[]))]))]]))]]]))]]))]]))]))]))])] λW J hR=>have L:=Ql L J;have F:=F.later J;have HB:=HB.up J (λ_=>rfl);have HS:=HS.up J (λ_=>rfl);have HP:=(show ∀j,j<x.κ.length->RdK W (Us j) (Qu x.κ j).length 3 (λk=>Xk (Xm (Qu x.κ j) k))from λj hj=>(HP j hj).below (λ_=>rfl) J);have HQ:=HQ.up J (λ_=>rfl);have U:=(show ∀j,j<x.ps.length->RdK W (Up j) (QM x.ps j).ts.length 4 (λk=>QK (Qb (QM x.ps j).ts k))from λj hj=>(U j hj).below (λ_=>rfl) J);have HU:=HU.up J (λ_=>rfl);have X:=(show ∀j,j<x.θ.length->RdK W (Ur j) (QM x.θ j).ts.length 4 (λk=>QK (Qb (QM x.θ j).ts k))from λj hj=>(X j hj).below (λ_=>rfl) J);have HC:=HC.up J (λ_=>rfl);have Y:=(show ∀j,j<x.ι.length->RdK W (Uc j) (Qn x.ι j).sum.ts.length 4 (λk=>QK (Qb (Qn x.ι j).sum.ts k))from λj hj=>(Y j hj).below (λ_=>rfl) J);λ(r:Nat)=>Yx (λ(x:y9) (S:Nat->Prop) (w:xH) (h:(Qh r 85 [.pointer none,x01] (Qc 5 1 (λb:UInt8=>[.int .u8 b.toNat]) [] none 0)).φ x S w)=>sS h) (xJ W) (xI f.k.1 f.k.2 W) (show RetAt prog W 32 #[Θ x.vars] (Ψ (Qz x.vars))from⟨λa w=>call32 a w,λW' K=>DI _ W' (xF f.q f.v4) (F.later K)⟩) func30 (λa w=>call30 a w) (Fx [(wKinds.getD x.δ.toNat ⟨#[]⟩),(Qz x.vars)] (t:=VR [(wKinds.getD x.δ.toNat ⟨#[]⟩),(Qz x.vars)]) rfl (dv f).2.1 (dv f).2.2 (JQ (dv f).1) W) (Z9 W (.tmp 8) (.const HKg) (VR [(wKinds.getD x.δ.toNat ⟨#[]⟩),(Qz x.vars)]) ⟨#[10]⟩ (VG [(wKinds.getD x.δ.toNat ⟨#[]⟩),(Qz x.vars)]) (by have:=JQ (dv f).1;show(VR [(wKinds.getD x.δ.toNat ⟨#[]⟩),(Qz x.vars)]).data.size+1<=_;omega) (BY [(wKinds.getD x.δ.toNat ⟨#[]⟩),(Qz x.vars)]))<|ai (JB 85 ⟨KR,x4⟩ r ([]) (VG [(wKinds.getD x.δ.toNat ⟨#[]⟩),(Qz x.vars)]) (Ay (L7 _) (dv f).1) W)<|ai (λ(u1:Unit)=>ai (Qa7 r (ZJ [(wKinds.getD x.δ.toNat ⟨#[]⟩),(Qz x.vars)]) cb cs f (L6 (dv f).1 x4) (Qdy f).1 W L F HB HS HP)<|ai (λ(u2:Unit)=>Vv (qV (HKf r)) (qV (Ω P x.ps.length kp)) (qI (x.ps.length:Int)) (qI ((0:Nat):Int)) (qk Z) (Yq (YY 85 r (aJ x)) (YY 85 r (KF (aJ x) (fP x) 0)) λ_ _ _ h=>(by rw[rQ];exact h))<|ai (show 0<=x.ps.length from L7 _) λ(q1:Nat) (ad:(q1<=x.ps.length))=>Xi (decide ((q1:Int)<(x.ps.length:Int))) (λz=>X0 (J5 kp HQ q1 (Qt z)) (D8 HQ q1 0 (Qt z) x4 rfl rfl)<|ai (MV ((QM x.ps q1).vars) (Up q1) (up q1) ((QM x.ps q1).ts) (QfD f (Qt z)) W L F (U q1 (Qt z))) λ(C:Hp)=>ai (show([Ψ ⟨#[112,111,108,121]⟩]:o3)=List.flatMap Q9 ([ZC])from rfl)<|ai (p0 ZF (show([ZC]).length<=maxLen from xq)) λ(I:Hp)=>ai (Ef W 91 Q9 ([ZC]) (Bj (QM x.ps q1).ts (QM x.ps q1).ts.length) (fP x q1) I.1 C.1 I.2 C.2 XO x4 ZF Gw sepB1 (Qff x q1) (x8 ((dw f (Qt z)).2.2))) λ(D:Hp)=>KJ func30 (λa w=>call30 a w) (Mt (fP x q1) (t:=VR (fP x q1)) (A:=D.1) (c:=D.2) rfl (dw f (Qt z)).2.1 (dw f (Qt z)).2.2 (JQ (dw f (Qt z)).1) W) (Z9 W (.tmp 8) (.const HKg) (VR (fP x q1)) ⟨#[10]⟩ (VG (fP x q1)) (by have:=JQ (dw f (Qt z)).1;show(VR (fP x q1)).data.size+1<=_;omega) (BY (fP x q1))) (JB 85 ⟨KR,x4⟩ r (KF (aJ x) (fP x) q1) (VG (fP x q1)) (Ay (L6 ((Av f).2.1 q1 ad) x4) (dw f (Qt z)).1) W)<|ai (λ(G:Unit)=>GL (QD q1 (xF (Qt z) f.c64)) (qV (HKf r)) (qV (Ω P x.ps.length kp)) (qI (x.ps.length:Int)) (qI (((q1+1):Nat):Int)) (qk Z) (Yq (YY 85 r ((KF (aJ x) (fP x) q1)++ZJ (fP x q1))) (YY 85 r (KF (aJ x) (fP x) (q1+1))) λ_ _ _ h=>(by rw[aK]at h;exact h))<|ai (show q1+1<=x.ps.length from(Qt z)) (show x.ps.length-(q1+1)<x.ps.length-q1 from x8 (L0 z))) (λ(_:y9) (h:False)=>h)) λz=>Vv (qV (HKf r)) (qV (Ω Q x.θ.length kr)) (qI (x.θ.length:Int)) (qI ((0:Nat):Int)) (qk Z) (Yq (YY 85 r (KF (aJ x) (fP x) q1)) (YY 85 r (KF (lc x) (fR x) 0)) λ_ _ _ h=>(by rw[(show q1=x.ps.length from x8 (L1 z))]at h;rw[rQ];exact h))<|ai (show 0<=x.θ.length from L7 _) λ(m:Nat) (ag:(m<=x.θ.length))=>Xi (decide ((m:Int)<(x.θ.length:Int))) (λB=>X0 (J5 kr HU m (Qt B)) (D8 HU m 0 (Qt B) x4 rfl rfl)<|ai (MV ((QM x.θ m).vars) (Ur m) (ur m) ((QM x.θ m).ts) (QfE f (Qt B)) W L F (X m (Qt B))) λ(C:Hp)=>ai (show([Ψ ⟨#[114,117,108,101]⟩]:o3)=List.flatMap Q9 ([Xu])from rfl)<|ai (p0 ZF (show([Xu]).length<=maxLen from xq)) λ(I:Hp)=>ai (Ef W 91 Q9 ([Xu]) (Bj (QM x.θ m).ts (QM x.θ m).ts.length) (fR x m) I.1 C.1 I.2 C.2 XO x4 ZF Gw sepB1 (Qfg x m) (x8 ((dz f (Qt B)).2.2))) λ(D:Hp)=>KJ func30 (λa w=>call30 a w) (Mt (fR x m) (t:=VR (fR x m)) (A:=D.1) (c:=D.2) rfl (dz f (Qt B)).2.1 (dz f (Qt B)).2.2 (JQ (dz f (Qt B)).1) W) (Z9 W (.tmp 8) (.const HKg) (VR (fR x m)) ⟨#[10]⟩ (VG (fR x m)) (by have:=JQ (dz f (Qt B)).1;show(VR (fR x m)).data.size+1<=_;omega) (BY (fR x m))) (JB 85 ⟨KR,x4⟩ r (KF (lc x) (fR x) m) (VG (fR x m)) (Ay (L6 ((Av f).2.2.1 m ag) x4) (dz f (Qt B)).1) W)<|ai (λ(G:Unit)=>GL (QD m (xF (Qt B) f.c64)) (qV (HKf r)) (qV (Ω Q x.θ.length kr)) (qI (x.θ.length:Int)) (qI (((m+1):Nat):Int)) (qk Z) (Yq (YY 85 r ((KF (lc x) (fR x) m)++ZJ (fR x m))) (YY 85 r (KF (lc x) (fR x) (m+1))) λ_ _ _ h=>(by rw[aK]at h;exact h))<|ai (show m+1<=x.θ.length from(Qt B)) (show x.θ.length-(m+1)<x.θ.length-m from x8 (L0 B))) (λ(_:y9) (h:False)=>h)) λB=>Vv (qV (HKf r)) (qV (Ω O x.ι.length R)) (qI (x.ι.length:Int)) (qI ((0:Nat):Int)) (qk Z) (Yq (YY 85 r (KF (lc x) (fR x) m)) (YY 85 r (KF (BN x) (fC x) 0)) λ_ _ _ h=>(by rw[(show m=x.θ.length from x8 (L1 B))]at h;rw[rQ];exact h))<|ai (show 0<=x.ι.length from L7 _) λ(d:Nat) (H:(d<=x.ι.length))=>Xi (decide ((d:Int)<(x.ι.length:Int))) (λp=>X0 (J4 R HC d (Qt p)) (D7 HC d 0 (Qt p) x4 rfl rfl)<|Xi (((Qn x.ι d).split) != 0) (λM=>KJ func30 (λa w=>call30 a w) (Fx [Xo] (t:=VR [Xo]) rfl (show eX [Xo]from jK M▸Hy f (Qt p)).2.1 (show eX [Xo]from jK M▸Hy f (Qt p)).2.2 (JQ (show eX [Xo]from jK M▸Hy f (Qt p)).1) W) (Z9 W (.tmp 8) (.const HKg) (VR [Xo]) ⟨#[10]⟩ (VG [Xo]) (by have:=JQ (show eX [Xo]from jK M▸Hy f (Qt p)).1;show(VR [Xo]).data.size+1<=_;omega) (BY [Xo])) (JB 85 ⟨KR,x4⟩ r (KF (BN x) (fC x) d) (VG [Xo]) (Ay (L6 ((Av f).2.2.2 d H) x4) (show eX [Xo]from jK M▸Hy f (Qt p)).1) W)<|ai (λ(G:Unit)=>GL (QD d (xF (Qt p) f.c64)) (qV (HKf r)) (qV (Ω O x.ι.length R)) (qI (x.ι.length:Int)) (qI (((d+1):Nat):Int)) (qk Z) (Yq (YY 85 r ((KF (BN x) (fC x) d)++ZJ [Xo])) (YY 85 r (KF (BN x) (fC x) (d+1))) λ_ _ _ h=>(by rw[<- jK M,aK]at h;exact h))<|ai (show d+1<=x.ι.length from(Qt p)) (show x.ι.length-(d+1)<x.ι.length-d from x8 (L0 p))) (λ(_:y9) (h:False)=>h)) λM=>Ja (show RetAt prog W 35 #[nA ((Qn x.ι d).ο)] (Ψ (Yc (Qn x.ι d).ο))from B3 (L6 (QbC f (Qt p)).2.1 x4) ⟨T7 x4 (QbC f (Qt p)).2.2.1,T7 (QbC f (Qt p)).2.2.2 x4⟩ W L F) (MV ((Qn x.ι d).sum.vars) (Uc d) (uc d) ((Qn x.ι d).sum.ts) (QfC f (Qt p) (show((Qn x.ι d).split==0)=true from l3 M)) W L F (Y d (Qt p))) (show ∀y:Hp,(Ω y.1 ((Bj (Qn x.ι d).sum.ts (Qn x.ι d).sum.ts.length)).length y.2:y9).oneCell'=true from λ_=>rfl)<|ai (show qg (HW (λ(y:Hp)=>Ω y.1 ((Bj (Qn x.ι d).sum.ts (Qn x.ι d).sum.ts.length)).length y.2) (λ(y:Hp)=>Qc 9 1 Q9 (Bj (Qn x.ι d).sum.ts (Qn x.ι d).sum.ts.length) y.1 y.2)) (λ(y:Hp)=>Ω y.1 ((Bj (Qn x.ι d).sum.ts (Qn x.ι d).sum.ts.length)).length y.2) (λ(y:Hp)=>Qc 9 1 Q9 (Bj (Qn x.ι d).sum.ts (Qn x.ι d).sum.ts.length) y.1 y.2)from Aw λy x x' S w hx h=>Ak hx h) λ(C:Hp)=>ai (show([Ψ ⟨#[108,101,97,102]⟩,Ψ (Yc (Qn x.ι d).ο)]:o3)=List.flatMap Q9 ([Zq,Yc (Qn x.ι d).ο])from rfl)<|ai (p0 ZF (show([Zq,Yc (Qn x.ι d).ο]).length<=maxLen from xq)) λ(I:Hp)=>ai (Ef W 91 Q9 ([Zq,Yc (Qn x.ι d).ο]) (Bj (Qn x.ι d).sum.ts (Qn x.ι d).sum.ts.length) (fC x d) I.1 C.1 I.2 C.2 XO x4 ZF Gw sepB1 (Qfe M) (x8 ((Hy f (Qt p)).2.2))) λ(D:Hp)=>KJ func30 (λa w=>call30 a w) (Mt (fC x d) (t:=VR (fC x d)) (A:=D.1) (c:=D.2) rfl (Hy f (Qt p)).2.1 (Hy f (Qt p)).2.2 (JQ (Hy f (Qt p)).1) W) (Z9 W (.tmp 8) (.const HKg) (VR (fC x d)) ⟨#[10]⟩ (VG (fC x d)) (by have:=JQ (Hy f (Qt p)).1;show(VR (fC x d)).data.size+1<=_;omega) (BY (fC x d))) (JB 85 ⟨KR,x4⟩ r (KF (BN x) (fC x) d) (VG (fC x d)) (Ay (L6 ((Av f).2.2.2 d H) x4) (Hy f (Qt p)).1) W)<|ai (λ(G:Unit)=>GL (QD d (xF (Qt p) f.c64)) (qV (HKf r)) (qV (Ω O x.ι.length R)) (qI (x.ι.length:Int)) (qI (((d+1):Nat):Int)) (qk Z) (Yq (YY 85 r ((KF (BN x) (fC x) d)++ZJ (fC x d))) (YY 85 r (KF (BN x) (fC x) (d+1))) λ_ _ _ h=>(by rw[aK]at h;exact h))<|ai (show d+1<=x.ι.length from(Qt p)) (show x.ι.length-(d+1)<x.ι.length-d from x8 (L0 p))) (λ(_:y9) (h:False)=>h)) λp=>Xi (x.δ==6) (λE=>ai (FO 85 r (KF (BN x) (fC x) d) (Qez x d) W)<|ai (λ(G:Unit)=>(show(Ψ ⟨((KF (BN x) (fC x) d)).toArray⟩:y9)=Ψ ⟨(VP x).toArray⟩from Lu (λl:List UInt8=>Ψ ⟨l.toArray⟩) (by rw[(show d=x.ι.length from x8 (L1 p)),Qc3 f E];rfl))) (λ(_:y9) (h:False)=>h)) λE=>Vv (show RetAt prog W 35 #[nA x.ν] (Ψ (Yc x.ν))from B3 (L6 (zL f).2.1 x4) ⟨T7 x4 (zL f).2.2.1,T7 (zL f).2.2.2 x4⟩ W L F) func30 (λa w=>call30 a w) (Fx [Zh,(Yc x.ν)] (t:=VR [Zh,(Yc x.ν)]) rfl (Gm f E).1.2.1 (Gm f E).1.2.2 (JQ (Gm f E).1.1) W) (Z9 W (.tmp 8) (.const HKg) (VR [Zh,(Yc x.ν)]) ⟨#[10]⟩ (VG [Zh,(Yc x.ν)]) (by have:=JQ (Gm f E).1.1;show(VR [Zh,(Yc x.ν)]).data.size+1<=_;omega) (BY [Zh,(Yc x.ν)])) (JB 85 ⟨KR,x4⟩ r (KF (BN x) (fC x) d) (VG [Zh,(Yc x.ν)]) (Ay (L6 ((Av f).2.2.2 d H) x4) (Gm f E).1.1) W)<|ai (λ(G:Unit)=>Xi (x.δ==4) (λN=>Vv (show RetAt prog W 35 #[nA x.ε] (Ψ (Yc x.ε))from B3 (L6 (zz f).2.1 x4) ⟨T7 x4 (zz f).2.2.1,T7 (zz f).2.2.2 x4⟩ W L F) func30 (λa w=>call30 a w) (Fx [Xh,(Yc x.ε)] (t:=VR [Xh,(Yc x.ε)]) rfl ((Gm f E).2.2 N).2.1 ((Gm f E).2.2 N).2.2 (JQ ((Gm f E).2.2 N).1) W) (Z9 W (.tmp 8) (.const HKg) (VR [Xh,(Yc x.ε)]) ⟨#[10]⟩ (VG [Xh,(Yc x.ε)]) (by have:=JQ ((Gm f E).2.2 N).1;show(VR [Xh,(Yc x.ε)]).data.size+1<=_;omega) (BY [Xh,(Yc x.ε)])) (JB 85 ⟨KR,x4⟩ r ((KF (BN x) (fC x) d)++ZJ [Zh,(Yc x.ν)]) (VG [Xh,(Yc x.ε)]) (Ay (by rw[La];have:=(Gm f E).1.1;have h9:((KF (BN x) (fC x) d):List UInt8).length<=7500000:=(L6 ((Av f).2.2.2 d H) x4);omega) ((Gm f E).2.2 N).1) W)<|ai (λ(u4:Unit)=>Vv (show RetAt prog W 32 #[Θ x.ζ] (Ψ (Qz x.ζ))from⟨λa w=>call32 a w,λW' K=>DI _ W' (x8 f.b) (F.later K)⟩) func30 (λa w=>call30 a w) (Fx [Qy,(Qz x.ζ)] (t:=VR [Qy,(Qz x.ζ)]) rfl (Gm f E).2.1.2.1 (Gm f E).2.1.2.2 (JQ (Gm f E).2.1.1) W) (Z9 W (.tmp 8) (.const HKg) (VR [Qy,(Qz x.ζ)]) ⟨#[10]⟩ (VG [Qy,(Qz x.ζ)]) (by have:=JQ (Gm f E).2.1.1;show(VR [Qy,(Qz x.ζ)]).data.size+1<=_;omega) (BY [Qy,(Qz x.ζ)])) (JB 85 ⟨KR,x4⟩ r (((KF (BN x) (fC x) d)++ZJ [Zh,(Yc x.ν)])++ZJ [Xh,(Yc x.ε)]) (VG [Qy,(Qz x.ζ)]) (Ay (by rw[La];have:=((Gm f E).2.2 N).1;have h9:(((KF (BN x) (fC x) d)++ZJ [Zh,(Yc x.ν)]):List UInt8).length<=7500000:=(by rw[La];have:=(Gm f E).1.1;have h9:((KF (BN x) (fC x) d):List UInt8).length<=7300000:=(L6 ((Av f).2.2.2 d H) x4);omega);omega) (Gm f E).2.1.1) W)<|ai (λ(u5:Unit)=>ai (FO 85 r ((((KF (BN x) (fC x) d)++ZJ [Zh,(Yc x.ν)])++ZJ [Xh,(Yc x.ε)])++ZJ [Qy,(Qz x.ζ)]) (du _ _) W)<|ai (λ(u6:Unit)=>(show(Ψ ⟨(((((KF (BN x) (fC x) d)++ZJ [Zh,(Yc x.ν)])++ZJ [Xh,(Yc x.ε)])++ZJ [Qy,(Qz x.ζ)])).toArray⟩:y9)=Ψ ⟨(VP x).toArray⟩from Lu (λl:List UInt8=>Ψ ⟨l.toArray⟩) (by rw[(show d=x.ι.length from x8 (L1 p)),Qc2 E N];rfl))) (λ(_:y9) (h:False)=>h)) (λ(_:y9) (h:False)=>h)) (λ(_:y9) (h:False)=>h)) λN=>Vv (show RetAt prog W 32 #[Θ x.ζ] (Ψ (Qz x.ζ))from⟨λa w=>call32 a w,λW' K=>DI _ W' (x8 f.b) (F.later K)⟩) func30 (λa w=>call30 a w) (Fx [Qy,(Qz x.ζ)] (t:=VR [Qy,(Qz x.ζ)]) rfl (Gm f E).2.1.2.1 (Gm f E).2.1.2.2 (JQ (Gm f E).2.1.1) W) (Z9 W (.tmp 8) (.const HKg) (VR [Qy,(Qz x.ζ)]) ⟨#[10]⟩ (VG [Qy,(Qz x.ζ)]) (by have:=JQ (Gm f E).2.1.1;show(VR [Qy,(Qz x.ζ)]).data.size+1<=_;omega) (BY [Qy,(Qz x.ζ)])) (JB 85 ⟨KR,x4⟩ r ((KF (BN x) (fC x) d)++ZJ [Zh,(Yc x.ν)]) (VG [Qy,(Qz x.ζ)]) (Ay (by rw[La];have:=(Gm f E).1.1;have h9:((KF (BN x) (fC x) d):List UInt8).length<=7500000:=(L6 ((Av f).2.2.2 d H) x4);omega) (Gm f E).2.1.1) W)<|ai (λ(u4:Unit)=>ai (FO 85 r (((KF (BN x) (fC x) d)++ZJ [Zh,(Yc x.ν)])++ZJ [Qy,(Qz x.ζ)]) (du _ _) W)<|ai (λ(u5:Unit)=>(show(Ψ ⟨((((KF (BN x) (fC x) d)++ZJ [Zh,(Yc x.ν)])++ZJ [Qy,(Qz x.ζ)])).toArray⟩:y9)=Ψ ⟨(VP x).toArray⟩from Lu (λl:List UInt8=>Ψ ⟨l.toArray⟩) (by rw[(show d=x.ι.length from x8 (L1 p)),Qc4 E N];rfl))) (λ(_:y9) (h:False)=>h)) (λ(_:y9) (h:False)=>h)) (λ(_:y9) (h:False)=>h)) (λ(_:y9) (h:False)=>h)) (λ(_:y9) (h:False)=>h)
def bA(l:List UInt8):xM:=⟨l.toArray⟩
def QS(l:List xM):List UInt8:=l.flatMap λw=>32::w.data.toList
def QC(l:List UInt8)(w:xM):bA l++w=bA (l++w.data.toList):=by
 have e:bA w.data.toList=w:=by unfold bA;rw[Array.toArray_toList]
 exact(Lu (bA l++·) e.symm).trans (Dx l w.data.toList)
def QZ{n:Nat}(h:l.length<=n):(bA l).size<=n:=by
 have:(bA l).size=l.length:=Rs;omega
def Qw{x y:xM}{m n:Nat}(h:x.size<=m)(a:y.size<=n):(x++y).size<=m+n:=by
 rw[ByteArray.size_append];omega
def QP(W:xH)(p q:x0h)(x y:xM){m n:Nat}(h:x.size<=m)(a:y.size<=n)(b:m+n<=9223372036854775807):Qp prog W (do eqGuard .add 9 p q (.string x) (.string y);binOp .add 9 (.string x) (.string y)) (.string (x++y)):=SI W p q x y x3
def F9(l m:List xM):QS (l++m)=QS l++QS m:=Sj
def BM(P:List UInt8)(L:List xM)(w:xM):bA (P++QS L)++(⟨#[32]⟩:xM)++w=bA (P++QS (L++[w])):=by
 rw[QC,QC,F9];simp[QS]
def Vs(a:xM):∀l:List xM,Hw (a::l)=a.data.toList++QS l
 |[]=>by simp[Hw,zj,QS,Lib.join]
 |u::r=>by rw[PZ,Vs u r];simp[QS]
def Wm(L:List UInt8)(a:xM)(l:List xM):bA L++a++bA (QS l)++(⟨#[10]⟩:xM)=bA (L++ZJ (a::l)):=by
 rw[QC,QC,QC];unfold ZJ;rw[Vs];simp[bA]
def NN:∀ {l:List xM},(∀t,t∈l->t.data.toList.length<=25)->(QS l).length<=26*l.length
 |[],_=>L4 _
 |t::r,h=>by
  have b:=NN (l:=r) λx a=>h x (T6 _ a)
  have c:=h t List.mem_cons_self;have e:QS (t::r)=(32::t.data.toList)++QS r:=rfl;rw[e,La,Li,Li];omega
def kj(n:Nat):bA (Lib.decDigits n)=Qz (n:Int):=by
 unfold Qz bA Lib.itoa;rw[if_neg x3,Sm]
def iU(W:World)(x y:Operand)(d:Nat):Qp prog W (do eqGuard .rem 3 x y (.int .i64 (d:Int)) (.int .i64 10);binOp .rem 3 (.int .i64 (d:Int)) (.int .i64 10)) (.int .i64 ((d % 10:Nat):Int)):=λb _=>by
 have a:(d:Int).tmod 10=((d % 10:Nat):Int):=by rw[L3 x3];omega
 generalize ((d % 10:Nat):Int)=r at *;simp[go_sem];exact a
def gX(W:World)(x y:Operand){n:Nat}(a:n<=999999999):Qp prog W (do eqGuard .quo 3 x y (.int .i64 (n:Int)) (.int .i64 10);binOp .quo 3 (.int .i64 (n:Int)) (.int .i64 10)) (.int .i64 ((n / 10:Nat):Int)):=λb _=>by
 have h:IntKind.i64.wrap ((n:Int) / 10)=(n:Int) / 10:=Le _ x3;simp[go_sem,h]
def oF(n:Nat):IntKind.i64.wrap (48+((n % 10:Nat):Int))=((48+n % 10:Nat):Int):=by
 rw[show(48:Int)+((n % 10:Nat):Int)=((48+n % 10:Nat):Int)by omega];exact Le _ x3
def oE(n:Nat):IntKind.u8.wrap ((48+n % 10:Nat):Int)=((tC (n % 10)).toNat:Int):=by
 have h:n % 10<10:=Re _ x4;generalize n % 10=d at *;have:d=0\/d=1\/d=2\/d=3\/d=4\/d=5\/d=6\/d=7\/d=8\/d=9:=x3;rcases this with rfl|rfl|rfl|rfl|rfl|rfl|rfl|rfl|rfl|rfl<;>decide
def ku{n:Nat}(h:n<=999999999):(bA (Lib.decDigits n)).size<=25:=by
 have e:(bA (Lib.decDigits n)).size=(Lib.decDigits n).length:=Rs;rw[e,Ji];exact Jy (Lw h x4) x4
def mG{n:Nat}(b:n<=999999999)(c:decide ((n:Int)>9)=true->∀W:xH,RetAt prog W 41 #[Θ ((n / 10:Nat):Int)] (Ψ (bA (Lib.decDigits (n / 10)))))(w:xH):RetAt prog w 41 #[Θ (n:Int)] (Ψ (bA (Lib.decDigits n))) :=
 rk [x03 1 1 (Θ ((n % 10:Nat):Int)),x05 1 2 (iV ((48+n % 10:Nat):Int)),x05 1 3 (.val (.int .u8 ((tC (n % 10)).toNat:Int))),.o 1 5 (.byt [tC (n % 10)]),.both [x03 3 1 (Θ ((n / 10:Nat):Int)),x04 3 2 (sV (bA (Lib.decDigits (n / 10)))),x03 3 4 (Ψ ((bA (Lib.decDigits (n / 10)))++⟨[tC (n % 10)].toArray⟩))] []] λW d e=>Ky (iU W (.tmp 4) (.const (Θ 10)) n) (show IntKind.i64.wrap (48+((n % 10:Nat):Int))=((48+n % 10:Nat):Int)from oF n) (show IntKind.u8.wrap ((48+n % 10:Nat):Int)=((tC (n % 10)).toNat:Int)from oE n) (Rx ((tC (n % 10)).toNat:Int))<|Xi (decide ((n:Int)>9)) (λa=>Ja (gX W (.tmp 12) (.const (Θ 10)) b) (c a W) (QP W (.tmp 14) (.tmp 15) (bA (Lib.decDigits (n / 10))) ⟨[tC (n % 10)].toArray⟩ (ku (n:=n / 10) x3) (xM0 1) xq)<|(show(Ψ ((bA (Lib.decDigits (n / 10)))++⟨[tC (n % 10)].toArray⟩):y9)=Ψ (bA (Lib.decDigits n))from Lu Ψ (by rw[QC,D0 (v:=n) (x8 (L0 a))]))) λa=>(show(Ψ ⟨[tC (n % 10)].toArray⟩:y9)=Ψ (bA (Lib.decDigits n))from Lu Ψ (by rw[KB (v:=n) (x8 (L1 a)),Rc (x8 (L1 a))];rfl))
def cg(n:Nat):n<=999999999->∀w:xH,RetAt prog w 41 #[.int .i64 (n:Int)] (.string (bA (Lib.decDigits n))):=by
 induction n using Nat.strongRecOn with
 |_ n a=>exact λb w=>mG b (λc W=>a (n / 10) (x8 (L0 c)) x3 W) w
def FD(z:Int)(a:0<=z)(b:z<=999999999)(w:xH):RetAt prog w 41 #[.int .i64 z] (.string (Qz z)):=by
 obtain⟨n,rfl⟩:=Int.eq_ofNat_of_zero_le a;rw[<- kj];exact cg n x3 w
def nh{t:Tm}(h:gI t.c):∀w,w∈eC t->w.data.toList.length<=25:=λw a=>by
 rcases Lb.1 a with rfl|a
 ·exact oN h
 ·obtain⟨b,_,rfl⟩:=Lv.1 a;exact eV (x8 b.toNat_lt)
section
variable{l:List Tm}(h:dV l)
include h
theorem E2(b:k<=l.length):(QS (Bj l k)).length<=20000:=by
 have d:=NN (l:=Bj l k) λw a=>by
  let⟨j,c,a⟩:=Sa.1 a;exact nh (h.2 _ (Yh (x8 (R7.1 c)))).1 w a
 have e:=pN h k b;have f:=h.1;omega
theorem ae(b:k<l.length)(e:j<=(Qb l k).m.size):(QS (Hk l k j)).length<=30000:=by
 have f:=E2 h (k:=k) x3;have d:=NN (l:=Yc (Qb l k).c::(List.range j).map (JI (Qb l k).m)) λw a=>by
  rcases Lb.1 a with rfl|a
  ·exact oN (h.2 _ (Yh b)).1
  ·obtain⟨i,_,rfl⟩:=Lv.1 a;exact eV (x8 (lK (Qb l k).m i))
 have g:=(h.2 _ (Yh b)).2;unfold Hk;rw[F9,La];rw[Li,Rg,Sb]at d;omega
end
def BG(v:Int)(A:xN)(c:Nat)(l:List Tm)(d:dV l)(w:xH)(p:RdK w A l.length 4 (λk=>QK (Qb l k))):RetAt prog w 43 #[.agg #[Θ v,Ω A l.length c]] (Ψ (bA (QS (l.flatMap eC)))) :=
 let j:OB:=some (47,[iV v,lV A l.length c]);rk [x0a (0:Nat) (λ(q1:Nat) (u:List Hp)=>(q1+1)) (λ(q1:Nat)=>((⟨48,[(1,.ptr 0 0),(2,sV ⟨#[]⟩),(3,sV (bA (QS (Bj l q1)))),(4,iV (q1:Int))],[none],[]⟩:St),(q1<=l.length),(l.length-q1),[.both [x03 5 1 (Ψ ((bA (QS (Bj l q1)))++⟨#[32]⟩)),x03 5 5 (.pointer (some (Q5 A (q1*4+0)))),x03 5 7 (nA ((Qb l q1).c)),x04 5 8 (sV (Yc (Qb l q1).c)),x03 5 9 (Ψ (((bA (QS (Bj l q1)))++⟨#[32]⟩)++(Yc (Qb l q1).c))),x0a (0:Nat) (λ(a:Nat) (u:List Hp)=>(a+1)) (λ(a:Nat)=>((⟨48,[(1,.ptr 0 0),(2,sV ⟨#[]⟩),(3,sV (bA (QS (Hk l q1 a)))),(4,iV (q1:Int)),(5,iV (a:Int))],[none],[]⟩:St),(a<=(Qb l q1).m.size),((Qb l q1).m.size-a),[x03 7 4 (.pointer (some (Q5 A (q1*4+0)))),x03 7 6 (Ψ ((Qb l q1).m)),.both [x03 9 1 (Ψ ((bA (QS (Hk l q1 a)))++⟨#[32]⟩)),x03 9 5 (.pointer (some (Q5 A (q1*4+0)))),x03 9 7 (Ψ ((Qb l q1).m)),x03 9 9 (.int .u8 (bt (Qb l q1).m a:Int)),x05 9 10 (iV ((bt (Qb l q1).m a:Nat):Int)),x04 9 11 (sV (JI (Qb l q1).m a)),x03 9 12 (Ψ (((bA (QS (Hk l q1 a)))++⟨#[32]⟩)++(JI (Qb l q1).m a))),x05 8 1 (iV ((a+1:Nat):Int)),.nxt []] [x05 4 1 (iV ((q1+1:Nat):Int)),.nxt []]]))] []]))] λW q r=>have f:=(show RdK W A l.length 4 (λk=>QK (Qb l k))from p.below (λ_=>rfl) q);Ky (qS ⟨#[]⟩) (show(⟨#[]⟩:xM)=bA (QS (Bj l 0))from rfl) (qI ((0:Nat):Int)) (qk j)<|ai (show 0<=l.length from L7 _) λ(q1:Nat) (g:(q1<=l.length))=>Xi (decide ((q1:Int)<(l.length:Int))) (λb=>Yx (QP W (.tmp 13) (.const (Ψ ⟨#[32]⟩)) (bA (QS (Bj l q1))) ⟨#[32]⟩ (QZ (E2 d g)) (xM0 1) xq) (Y0 c f q1 (Qt b)) (JW f q1 1 (Qt b) x4 rfl rfl) (show RetAt prog W 42 #[nA ((Qb l q1).c)] (Ψ (Yc (Qb l q1).c))from X8 (L6 ((d.2 _ (Yh (Qt b))).1).2.1 x4) ⟨T7 x4 ((d.2 _ (Yh (Qt b))).1).2.2.1,T7 ((d.2 _ (Yh (Qt b))).1).2.2.2 x4⟩ W) (QP W (.tmp 14) (.tmp 21) ((bA (QS (Bj l q1)))++⟨#[32]⟩) (Yc (Qb l q1).c) (Qw (QZ (E2 d g)) (xM0 1)) (show(Yc (Qb l q1).c).size<=25 from oN (d.2 _ (Yh (Qt b))).1) xq) (qS ⟨#[]⟩) (BM [] (Bj l q1) (Yc (Qb l q1).c)) (qI (q1:Int))<|X0 (qI ((0:Nat):Int)) (qk j)<|ai (show 0<=(Qb l q1).m.size from L7 _) λ(a:Nat) (h:(a<=(Qb l q1).m.size))=>X0 (Y0 c f q1 (Qt b)) (AT f q1 0 (Qt b) x4 rfl)<|Xi (decide ((a:Int)<(((Qb l q1).m).size:Int))) (λe=>Yx (QP W (.tmp 34) (.const (Ψ ⟨#[32]⟩)) (bA (QS (Hk l q1 a))) ⟨#[32]⟩ (QZ (ae d (Qt b) h)) (xM0 1) xq) (Y0 c f q1 (Qt b)) (AT f q1 0 (Qt b) x4 rfl) (bz W (Qb l q1).m a (show a<(Qb l q1).m.size from Qt e)) (show IntKind.i64.wrap ((bt (Qb l q1).m a:Nat):Int)=((bt (Qb l q1).m a:Nat):Int)from sD (Qb l q1).m a) (show RetAt prog W 41 #[Θ ((bt (Qb l q1).m a:Nat):Int)] (Ψ (JI (Qb l q1).m a))from FD _ x3 (x8 (lK (Qb l q1).m a)) W) (QP W (.tmp 35) (.tmp 45) ((bA (QS (Hk l q1 a)))++⟨#[32]⟩) (JI (Qb l q1).m a) (Qw (QZ (ae d (Qt b) h)) (xM0 1)) (show(JI (Qb l q1).m a).size<=25 from eV (x8 (lK (Qb l q1).m a))) xq) (QD a (by have:=(show a<(Qb l q1).m.size from Qt e);have:=(d.2 _ (Yh (Qt b))).2;omega))<|KJ (qS ⟨#[]⟩) ((BM [] (Hk l q1 a) (JI (Qb l q1).m a)).trans (Lu (λL=>bA (QS L)) (QfF l q1 a))) (qI (q1:Int)) (qI (((a+1):Nat):Int)) (qk j)<|ai (show a+1<=(Qb l q1).m.size from(show a<(Qb l q1).m.size from Qt e)) (show(Qb l q1).m.size-(a+1)<(Qb l q1).m.size-a from x8 (L0 e))) λe=>KJ (QD q1 (xF (Qt b) d.1)) (qS ⟨#[]⟩) (Lu (λL=>bA (QS L)) (show Hk l q1 a=Bj l (q1+1)from by rw[(show a=(Qb l q1).m.size from x8 (L1 e)),Qbn])) (qI (((q1+1):Nat):Int)) (qk j)<|ai (show q1+1<=l.length from(Qt b)) (show l.length-(q1+1)<l.length-q1 from x8 (L0 b))) λb=>(show(Ψ (bA (QS (Bj l q1))):y9)=Ψ (bA (QS (l.flatMap eC)))from Lu (λL=>Ψ (bA (QS L))) (show Bj l q1=l.flatMap eC from by rw[(show q1=l.length from x8 (L1 b)),dW]))
def H7(x:PV):xM:=bif x.box.length==0 then Q6 else Jh
def fN(x:PV):List UInt8:=ZJ [wKinds.getD x.δ.toNat ⟨#[]⟩,Qz x.vars]
def Zl(x:PV):List UInt8:=fN x++(H7 x).data.toList
def J9(x:PV)(k:Nat):List xM:=(List.range k).flatMap (oO x.box)
def MW(x:PV)(k:Nat):List xM:=J9 x x.box.length++(List.range k).flatMap (gW x.κ)
def M1(x:PV)(k j:Nat):List xM:=MW x k++(List.range j).map (C1 (Qu x.κ k))
def Ok(a:xM):a=bA a.data.toList:=by
 unfold bA;rw[Array.toArray_toList]
def FN(f:Nat->List α)(k:Nat):(List.range (k+1)).flatMap f=(List.range k).flatMap f++f k:=by
 rw[S7,Sj];simp
def nl(x:PV)(k:Nat):bA (Zl x++QS (J9 x k))++(⟨#[32]⟩:xM)++Yc (QN x.box k).1++(⟨#[32]⟩:xM)++Yc (QN x.box k).2=bA (Zl x++QS (J9 x (k+1))):=by
 rw[BM,BM];unfold J9;rw[FN,Rl];rfl
def rj(x:PV)(k j:Nat):bA (Zl x++QS (M1 x k j))++(⟨#[32]⟩:xM)++C1 (Qu x.κ k) j=bA (Zl x++QS (M1 x k (j+1))):=by
 rw[BM];unfold M1;rw[Rl,ik]
def qJ{x:PV}(h:j=(Qu x.κ k).length):bA (Zl x++QS (M1 x k j))=bA (Zl x++QS (MW x (k+1))):=by
 subst h;unfold M1 MW;rw[FN,Rl];exact Lu (λl=>bA (Zl x++QS (J9 x x.box.length++((List.range k).flatMap (gW x.κ)++l)))) (Dh (Qu x.κ k) nm0 Yc)
def Uv(x:PV):BE x.box x.κ=H7 x::MW x x.κ.length:=by
 unfold BE H7 MW J9;have a:(List.range x.box.length).flatMap (oO x.box)=x.box.flatMap λs=>[Yc s.1,Yc s.2]:=by
  rw[U8,U8];exact Lu List.flatten (Dh x.box (nm0,nm0) λs=>[Yc s.1,Yc s.2])
 have b:(List.range x.κ.length).flatMap (gW x.κ)=x.κ.flatMap λp=>p.map Yc:=by
  rw[U8,U8];exact Lu List.flatten (Dh x.κ [] λp=>p.map Yc)
 rw[a,b]
def nN{x:PV}(h:k=x.κ.length):bA (Zl x++QS (MW x k))++(⟨#[10]⟩:xM)=bA (aJ x):=by
 subst h;rw[QC];unfold aJ;rw[Uv];unfold ZJ;rw[Vs (H7 x)];simp[Zl,fN,ZJ]
def ph{x:PV}(h:decide ((x.box.length:Int)>0)=true):bA (fN x)++(⟨#[98,111,120]⟩:xM)=bA (Zl x++QS (J9 x 0)):=by
 have e:H7 x=Jh:=by
  unfold H7;rw[show(x.box.length==0)=false from Lp.2 (x8 (L0 h))];rfl
 rw[QC];unfold Zl;rw[e];simp[J9,QS,Jh]
def pm{x:PV}(h:decide ((x.box.length:Int)>0)=false):bA (fN x)++(⟨#[115,105,109,112,108,101,120]⟩:xM)=bA (Zl x++QS (J9 x 0)):=by
 have e:H7 x=Q6:=by
  unfold H7;rw[show(x.box.length==0)=true from Sk.2 (x8 (L1 h))];rfl
 rw[QC];unfold Zl;rw[e];simp[J9,QS,Q6]
def oo(x:PV):wKinds.getD x.δ.toNat ⟨#[]⟩++(⟨#[32]⟩:xM)++Qz x.vars++(⟨#[10]⟩:xM)=bA (fN x):=by
 unfold fN;generalize wKinds.getD x.δ.toNat ⟨#[]⟩=a;rw[Ok a,QC,QC,QC];unfold ZJ;rw[Vs,<- Ok a];simp[QS]
section
variable(L:List UInt8)(a:xM)(r:List xM)
theorem oq:bA L++(⟨#[108,101,97,102,32]⟩:xM)++a++bA (QS r)++(⟨#[10]⟩:xM)=bA (L++ZJ (Zq::a::r)):=by
 rw[QC,QC,QC,QC];unfold ZJ;rw[Vs];simp[bA,QS,Zq]
theorem nO:bA L++(⟨#[101,112,115,32]⟩:xM)++a++(⟨#[10]⟩:xM)=bA (L++ZJ [Zh,a]):=by
 rw[QC,QC,QC];unfold ZJ;rw[Vs];simp[QS,Zh]
theorem nm:bA L++(⟨#[100,101,108,116,97,32]⟩:xM)++a++(⟨#[10]⟩:xM)=bA (L++ZJ [Xh,a]):=by
 rw[QC,QC,QC];unfold ZJ;rw[Vs];simp[QS,Xh]
theorem jt:bA L++(⟨#[98,117,100,103,101,116,32]⟩:xM)++a++(⟨#[10]⟩:xM)=bA (L++ZJ [Qy,a]):=by
 rw[QC,QC,QC];unfold ZJ;rw[Vs];simp[QS,Qy]
end
def DT(f:Nat->List α){n:Nat}(h:k<=n):∃r,(List.range n).flatMap f=(List.range k).flatMap f++r:=by
 obtain⟨d,rfl⟩:=Nat.exists_eq_add_of_le h;rw[List.range_add,Sj];exact⟨_,rfl⟩
section
variable{x:PV}{v V:Nat}(h:PbG x v V)
include h
theorem Uz{W r:List xM}(e:MW x x.κ.length=W++r):(bA (Zl x++QS W)).size<=140000:=by
 have b:(fN x).length<=65536:=(dv h).1;have a:=(Qdy h).1;rw[Uv,e]at a;unfold ZJ at a;rw[Vs,F9]at a;simp only[La]at a;refine QZ ?_
 unfold Zl;simp only[La];omega
theorem CU{k:Nat}(a:k<=x.box.length):(bA (Zl x++QS (J9 x k))).size<=140000:=by
 let⟨r,e⟩:=DT (oO x.box) a;exact Uz h (r:=r++(List.range x.κ.length).flatMap (gW x.κ)) (by unfold MW J9;rw[e,Rl])
theorem mB{k:Nat}(a:k<=x.κ.length):(bA (Zl x++QS (MW x k))).size<=140000:=by
 let⟨r,e⟩:=DT (gW x.κ) a;exact Uz h (r:=r) (by unfold MW;rw[e,Rl])
theorem ac{k j:Nat}(c:k<x.κ.length)(d:j<=(Qu x.κ k).length):(bA (Zl x++QS (M1 x k j))).size<=140000:=by
 let⟨r,e⟩:=DT (gW x.κ) (show k+1<=x.κ.length from c);let⟨f,a⟩:=DT (λi=>[C1 (Qu x.κ k) i]) d;have b:∀n,(List.range n).flatMap (λi=>[C1 (Qu x.κ k) i])=(List.range n).map (C1 (Qu x.κ k)):=λn=>by
  induction n with
  |zero=>rfl
  |succ n g=>rw[FN,g,S7,Rv];rfl
 rw[b,b]at a;refine Uz h (r:=f++r) ?_
 have l:(gW x.κ k)=(List.range (Qu x.κ k).length).map (C1 (Qu x.κ k)):=(Dh (Qu x.κ k) nm0 Yc).symm;unfold M1 MW;rw[e,FN,l,a];simp only[Rl]
omit h in
theorem CL{l:List Tm}(a:dV l):(bA (QS (l.flatMap eC))).size<=20000:=by
 have:=E2 a (L4 _);rw[dW]at this;exact QZ this
theorem Pg{j:Nat}(a:j<x.ι.length)(b:((Qn x.ι j).split==1)=false):((Qn x.ι j).split != 0)=false:=by
 cases e:(Qn x.ι j).split==0 with
 |true=>simpa using e
 |false =>
  have:=((h.c (QcV h a)).2.2.2.2 _ (DK a)).1 e;rw[this]at b;cases b
end
def pz(x:PV)(h:((Qn x.ι j).split==1)=true):bA (KF (BN x) (fC x) j)++(⟨#[115,112,108,105,116,10]⟩:xM)=bA (KF (BN x) (fC x) (j+1)):=by
 rw[<- aK,jK (by rw[Sk]at h;rw[h];rfl),QC];rfl
def pr(x:PV)(h:((Qn x.ι j).split != 0)=false):bA (KF (BN x) (fC x) j)++(⟨#[108,101,97,102,32]⟩:xM)++Yc (Qn x.ι j).ο++bA (QS ((Qn x.ι j).sum.ts.flatMap eC))++(⟨#[10]⟩:xM)=bA (KF (BN x) (fC x) (j+1)):=by
 rw[oq,<- aK,<- Qfe h,dW];rfl
def px(x:PV)(j:Nat):bA (KF (aJ x) (fP x) j)++(⟨#[112,111,108,121]⟩:xM)++bA (QS ((QM x.ps j).ts.flatMap eC))++(⟨#[10]⟩:xM)=bA (KF (aJ x) (fP x) (j+1)) :=
 (Wm (KF (aJ x) (fP x) j) ZC (EM (QM x.ps j))).trans (Lu bA (aK (aJ x) (fP x) j))
def py(x:PV)(j:Nat):bA (KF (lc x) (fR x) j)++(⟨#[114,117,108,101]⟩:xM)++bA (QS ((QM x.θ j).ts.flatMap eC))++(⟨#[10]⟩:xM)=bA (KF (lc x) (fR x) (j+1)) :=
 (Wm (KF (lc x) (fR x) j) Xu (EM (QM x.θ j))).trans (Lu bA (aK (lc x) (fR x) j))
def fQ{x:PV}(h:PbG x v V):(wKinds.getD x.δ.toNat ⟨#[]⟩).size<=25:=by
 have:=h.k;rcases(show x.δ.toNat=1\/x.δ.toNat=2\/x.δ.toNat=3\/x.δ.toNat=4\/x.δ.toNat=5\/x.δ.toNat=6 by omega)with e|e|e|e|e|e<;>rw[e]<;>decide
def MQ{x:PV}(h:PbG x v V):x.box.length<=5/\x.κ.length<=5/\x.ps.length<=1000/\x.θ.length<=1000/\x.ι.length<=1000:=by
 have f:=h.v4;have e:=h.n;have g:=JL x.δ (v:=v) x3;rw[h.q]at e;have i:=h.cn;have j:=h.rn;rcases h.d.2 with⟨a,b,_⟩|⟨a,b,_,c⟩<;>(rw[b];simp only[a,S9];omega)
def pq{x:PV}(h:PbG x v V)(j:Nat):(Qu x.κ j).length<=1000:=by
 have f:=h.v4;by_cases e:j<x.κ.length
 ·rcases h.d.2 with⟨a,b,_⟩|⟨a,b,_,c⟩
  ·rw[b]at e;exact absurd e (R4 _)
  ·have:=(c _ (Ka e)).1;omega
 ·unfold Qu;simp[List.getD,a8 (Sx e)]
abbrev HKh(x:PV)(f:Nat):=KF (BN x) (fC x) f++ZJ [Zh,Yc x.ν]
abbrev HKi(x:PV):=List.getD wKinds x.δ.toNat (⟨#[]⟩:xM)
abbrev HKj(x:PV)(f:Nat):=(bA (KF (BN x) (fC x) f))++⟨#[108,101,97,102,32]⟩
abbrev HKk(x:PV)(f:Nat):=(HKh x f)++ZJ [Xh,Yc x.ε]
abbrev HKl(x:PV)(q1:Nat):=((bA (Zl x++QS (J9 x q1)))++⟨#[32]⟩)++(Yc (QN x.box q1).1)
abbrev HKm(x:PV):=bA (Zl x++QS (J9 x 0))
abbrev HKn:y9:=.string ⟨#[10]⟩
abbrev HKo(x:PV)(r:Nat):=(bA (KF (aJ x) (fP x) r))++⟨#[112,111,108,121]⟩
abbrev HKp(x:PV)(s:Nat):=(bA (KF (lc x) (fR x) s))++⟨#[114,117,108,101]⟩
abbrev HKq(x:PV)(f:Nat):=(bA (KF (BN x) (fC x) f))++⟨#[101,112,115,32]⟩
abbrev HKr(x:PV)(f:Nat):=bA (KF (BN x) (fC x) (f+1))
abbrev HKs(x:PV)(f:Nat):=(bA (HKk x f))++⟨#[98,117,100,103,101,116,32]⟩
abbrev HKt(x:PV)(f:Nat):=(bA (HKh x f))++⟨#[98,117,100,103,101,116,32]⟩
abbrev HKu(x:PV)(f:Nat):=Yc (Qn x.ι f).ο
abbrev HKv(x:PV)(f:Nat):=(bA (HKh x f))++⟨#[100,101,108,116,97,32]⟩
abbrev HKw:y9:=.string ⟨#[32]⟩
abbrev HKx:y9:=.string ⟨#[98,117,100,103,101,116,32]⟩
abbrev HKy(x:PV)(f:Nat):=bA (KF (BN x) (fC x) f)
def ff{x:PV}{Ap Ar S:xN}(cb cs kp kr cc:Nat){T Up Ur Uc:Nat->xN}(us up ur uc:Nat->Nat)(d:PbG x v V)(w:xH)(U:RdK w Ab x.box.length 6 (λk=>JR (QN x.box k)))(X:RdK w As x.κ.length 1 (λk=>yx x.κ T us k))(HP:∀j,j<x.κ.length->RdK w (T j) (Qu x.κ j).length 3 (λk=>Xk (Xm (Qu x.κ j) k)))(HQ:RdK w Ap x.ps.length 2 (λk=>X7 x.ps Up up k))(M:∀j,j<x.ps.length->RdK w (Up j) (QM x.ps j).ts.length 4 (λk=>QK (Qb (QM x.ps j).ts k)))(HU:RdK w Ar x.θ.length 2 (λk=>X7 x.θ Ur ur k))(N:∀j,j<x.θ.length->RdK w (Ur j) (QM x.θ j).ts.length 4 (λk=>QK (Qb (QM x.θ j).ts k)))(L:RdK w S x.ι.length 6 (λk=>be x.ι Uc uc k))(O:∀j,j<x.ι.length->RdK w (Uc j) (Qn x.ι j).sum.ts.length 4 (λk=>QK (Qb (Qn x.ι j).sum.ts k))):RetAt prog w 19 #[tA (x.δ.toNat:Int) x.vars Ab x.box.length cb As x.κ.length cs Ap x.ps.length kp Ar x.θ.length kr x.ν x.ε x.ζ S x.ι.length cc] (Ψ ⟨(VP x).toArray⟩) :=
 let H:OB:=some (35,(tS (x.δ.toNat:Int) x.vars Ab x.box.length cb As x.κ.length cs Ap x.ps.length kp Ar x.θ.length kr x.ν x.ε x.ζ S x.ι.length cc));rk [.row 2 99999 1 [3,11] 9 1 Q9 wKinds (λ(I:Hp)=>[.reg 12 [],x06 2 3 [0] (.pointer (some (Q5 I.1 (x.δ.toNat*1+0)))),x06 2 4 [0] (Ψ (HKi x)),x03 2 5 (Ψ ((HKi x)++⟨#[32]⟩)),x04 2 8 (sV (Qz x.vars)),x03 2 9 (Ψ (((HKi x)++⟨#[32]⟩)++(Qz x.vars))),x03 2 10 (Ψ (bA (fN x))),.cut 6 (λ(z0:Nat)=>(⟨192,[(1,.ptr 0 0),(2,sV ⟨#[]⟩),(4,sV (HKm x))],[none,some (0,[]),some (0,[]),some (0,[]),some (0,[]),some (0,[]),some (0,[]),some (0,[]),some (0,[]),some (0,[]),some (0,[]),some (0,[]),some (0,[]),some (0,[])],[none,none,none,none,none,none,none,none,none,none,none,none,none]⟩:St)) (λ(z0:Nat)=>True) (λk u=>k) (λ(z0:Nat)=>[x0a (0:Nat) (λ(q1:Nat) (u:List Hp)=>(q1+1)) (λ(q1:Nat)=>((⟨192,[(1,.ptr 0 0),(2,sV ⟨#[]⟩),(4,sV (bA (Zl x++QS (J9 x q1)))),(5,iV (q1:Int))],[none],[]⟩:St),(q1<=x.box.length),(x.box.length-q1),[.both [.reg 21 [],x03 9 1 (Ψ ((bA (Zl x++QS (J9 x q1)))++⟨#[32]⟩)),x03 9 6 (.pointer (some (Q5 Ab (q1*6+0)))),x03 9 8 (nA ((QN x.box q1).1)),x04 9 9 (sV (Yc (QN x.box q1).1)),x03 9 10 (Ψ (HKl x q1)),x03 9 11 (Ψ ((HKl x q1)++⟨#[32]⟩)),x03 9 16 (.pointer (some (Q5 Ab (q1*6+0)))),x03 9 18 (nA ((QN x.box q1).2)),x04 9 19 (sV (Yc (QN x.box q1).2)),x03 9 20 (Ψ (bA (Zl x++QS (J9 x (q1+1))))),x05 8 1 (iV ((q1+1:Nat):Int)),.nxt []] [x0a (0:Nat) (λ(g:Nat) (u:List Hp)=>(g+1)) (λ(g:Nat)=>((⟨192,[(1,.ptr 0 0),(2,sV ⟨#[]⟩),(4,sV (bA (Zl x++QS (MW x g)))),(6,iV (g:Int))],[none],[]⟩:St),(g<=x.κ.length),(x.κ.length-g),[.both [x0a (0:Nat) (λ(t:Nat) (u:List Hp)=>(t+1)) (λ(t:Nat)=>((⟨192,[(1,.ptr 0 0),(2,sV ⟨#[]⟩),(4,sV (bA (Zl x++QS (M1 x g t)))),(6,iV (g:Int)),(7,iV (t:Int))],[none],[]⟩:St),(t<=(Qu x.κ g).length),((Qu x.κ g).length-t),[x03 14 5 (.pointer (some (Q5 As (g*1+0)))),x03 14 6 (Ω (T g) (Qu x.κ g).length (us g)),.both [x03 16 1 (Ψ ((bA (Zl x++QS (M1 x g t)))++⟨#[32]⟩)),x03 16 6 (.pointer (some (Q5 As (g*1+0)))),x03 16 7 (Ω (T g) (Qu x.κ g).length (us g)),x03 16 9 (.pointer (some (Q5 (T g) (t*3+0)))),x03 16 10 (nA (Xm (Qu x.κ g) t)),x04 16 11 (sV (C1 (Qu x.κ g) t)),x03 16 12 (Ψ (bA (Zl x++QS (M1 x g (t+1))))),x05 15 1 (iV ((t+1:Nat):Int)),.nxt []] [x05 12 1 (iV ((g+1:Nat):Int)),.nxt []]]))] [x03 17 1 (Ψ (bA (aJ x))),x0a (0:Nat) (λ(r:Nat) (u:List Hp)=>(r+1)) (λ(r:Nat)=>((⟨192,[(1,.ptr 0 0),(2,sV ⟨#[]⟩),(4,sV (bA (KF (aJ x) (fP x) r))),(8,iV (r:Int))],[none],[]⟩:St),(r<=x.ps.length),(x.ps.length-r),[.both [x03 21 1 (Ψ (HKo x r)),x03 21 5 (.pointer (some (Q5 Ap (r*2+0)))),x03 21 6 (.agg #[Θ ((QM x.ps r).vars),Ω (Up r) (QM x.ps r).ts.length (up r)]),x04 21 7 (sV (bA (QS ((QM x.ps r).ts.flatMap eC)))),x03 21 8 (Ψ ((HKo x r)++(bA (QS ((QM x.ps r).ts.flatMap eC))))),x03 21 9 (Ψ (bA (KF (aJ x) (fP x) (r+1)))),x05 20 1 (iV ((r+1:Nat):Int)),.nxt []] [x0a (0:Nat) (λ(s:Nat) (u:List Hp)=>(s+1)) (λ(s:Nat)=>((⟨192,[(1,.ptr 0 0),(2,sV ⟨#[]⟩),(4,sV (bA (KF (lc x) (fR x) s))),(9,iV (s:Int))],[none],[]⟩:St),(s<=x.θ.length),(x.θ.length-s),[.both [x03 25 1 (Ψ (HKp x s)),x03 25 5 (.pointer (some (Q5 Ar (s*2+0)))),x03 25 6 (.agg #[Θ ((QM x.θ s).vars),Ω (Ur s) (QM x.θ s).ts.length (ur s)]),x04 25 7 (sV (bA (QS ((QM x.θ s).ts.flatMap eC)))),x03 25 8 (Ψ ((HKp x s)++(bA (QS ((QM x.θ s).ts.flatMap eC))))),x03 25 9 (Ψ (bA (KF (lc x) (fR x) (s+1)))),x05 24 1 (iV ((s+1:Nat):Int)),.nxt []] [x0a (0:Nat) (λ(f:Nat) (u:List Hp)=>(f+1)) (λ(f:Nat)=>((⟨192,[(1,.ptr 0 0),(2,sV ⟨#[]⟩),(4,sV (HKy x f)),(10,iV (f:Int))],[none],[]⟩:St),(f<=x.ι.length),(x.ι.length-f),[.both [x03 29 3 (.pointer (some (Q5 S (f*6+0)))),x03 29 5 (Θ ((Qn x.ι f).split)),.both [x03 30 1 (Ψ (HKr x f)),x05 28 1 (iV ((f+1:Nat):Int)),.nxt []] [.reg 19 [],x03 31 1 (Ψ (HKj x f)),x03 31 5 (.pointer (some (Q5 S (f*6+0)))),x03 31 7 (nA ((Qn x.ι f).ο)),x04 31 8 (sV (HKu x f)),x03 31 9 (Ψ ((HKj x f)++(HKu x f))),x03 31 13 (.pointer (some (Q5 S (f*6+0)))),x03 31 15 (.agg #[Θ ((Qn x.ι f).sum.vars),Ω (Uc f) (Qn x.ι f).sum.ts.length (uc f)]),x04 31 16 (sV (bA (QS ((Qn x.ι f).sum.ts.flatMap eC)))),x03 31 17 (Ψ (((HKj x f)++(HKu x f))++(bA (QS ((Qn x.ι f).sum.ts.flatMap eC))))),x03 31 18 (Ψ (HKr x f)),x05 28 1 (iV ((f+1:Nat):Int)),.nxt []]] [.both [] [x03 34 1 (Ψ (HKq x f)),x04 34 4 (sV (Yc x.ν)),x03 34 5 (Ψ ((HKq x f)++(Yc x.ν))),x03 34 6 (Ψ (bA (HKh x f))),.both [x03 36 1 (Ψ (HKv x f)),x04 36 4 (sV (Yc x.ε)),x03 36 5 (Ψ ((HKv x f)++(Yc x.ε))),x03 36 6 (Ψ (bA (HKk x f))),x03 37 1 (Ψ (HKs x f)),x04 37 4 (sV (Qz x.ζ)),x03 37 5 (Ψ ((HKs x f)++(Qz x.ζ))),x03 37 6 (Ψ (bA ((HKk x f)++ZJ [Qy,Qz x.ζ])))] [x03 37 1 (Ψ (HKt x f)),x04 37 4 (sV (Qz x.ζ)),x03 37 5 (Ψ ((HKt x f)++(Qz x.ζ))),x03 37 6 (Ψ (bA ((HKh x f)++ZJ [Qy,Qz x.ζ])))]]]]))]]))]]))]]))]]))]),.both [x03 4 1 (Ψ (HKm x)),.nxc 0 []] [x03 5 1 (Ψ (HKm x)),.nxc 0 []]])] λW J hR=>have U:=U.up J (λ_=>rfl);have X:=X.up J (λ_=>rfl);have HP:=(show ∀j,j<x.κ.length->RdK W (T j) (Qu x.κ j).length 3 (λk=>Xk (Xm (Qu x.κ j) k))from λj P=>(HP j P).below (λ_=>rfl) J);have HQ:=HQ.up J (λ_=>rfl);have M:=(show ∀j,j<x.ps.length->RdK W (Up j) (QM x.ps j).ts.length 4 (λk=>QK (Qb (QM x.ps j).ts k))from λj P=>(M j P).below (λ_=>rfl) J);have HU:=HU.up J (λ_=>rfl);have N:=(show ∀j,j<x.θ.length->RdK W (Ur j) (QM x.θ j).ts.length 4 (λk=>QK (Qb (QM x.θ j).ts k))from λj P=>(N j P).below (λ_=>rfl) J);have L:=L.up J (λ_=>rfl);have O:=(show ∀j,j<x.ι.length->RdK W (Uc j) (Qn x.ι j).sum.ts.length 4 (λk=>QK (Qb (Qn x.ι j).sum.ts k))from λj P=>(O j P).below (λ_=>rfl) J);ai (show([x00,Ψ ⟨#[114,97,110,103,101]⟩,Ψ ⟨#[114,97,116,105,111]⟩,Ψ ⟨#[112,111,115,105,116,105,118,101]⟩,Ψ ⟨#[109,105,110,105,109,117,109]⟩,Ψ ⟨#[122,101,114,111,115]⟩,Ψ ⟨#[99,104,101,99,107]⟩]:o3)=List.flatMap Q9 wKinds from rfl)<|ai (p0 ZF (show(wKinds).length<=maxLen from xq)) λ(I:Hp)=>Vv (Jl W 9 1 Q9 wKinds I.1 I.2 ZF (⟨#[]⟩:xM) (λW' HR=>cX W' I.2 HR x.δ.toNat (show x.δ.toNat<wKinds.length from by have:=d.k;show _<7;omega))) (Jl W 9 1 Q9 wKinds I.1 I.2 ZF (⟨#[]⟩:xM) (λW' HR=>AT HR x.δ.toNat 0 (show x.δ.toNat<wKinds.length from by have:=d.k;show _<7;omega) x4 rfl (w0:=W'))) (QP W (.tmp 16) (.const HKw) (HKi x) ⟨#[32]⟩ (show(List.getD wKinds x.δ.toNat (⟨#[]⟩:xM)).size<=25 from fQ d) (xM0 1) xq) (FD x.vars (by have:=d.q;have:=d.v4;have:=d.b;omega) (by have:=d.q;have:=d.v4;have:=d.b;omega) W) (QP W (.tmp 17) (.tmp 20) ((HKi x)++⟨#[32]⟩) (Qz x.vars) (Qw (show(List.getD wKinds x.δ.toNat (⟨#[]⟩:xM)).size<=25 from fQ d) (xM0 1)) (show(Qz x.vars).size<=25 from eV (by have:=d.q;have:=d.v4;have:=d.b;omega)) xq) (Z9 W (.tmp 21) (.const HKn) (((HKi x)++⟨#[32]⟩)++(Qz x.vars)) ⟨#[10]⟩ (bA (fN x)) (L6 (L2 (Qw (Qw (show(List.getD wKinds x.δ.toNat (⟨#[]⟩:xM)).size<=25 from fQ d) (xM0 1)) (show(Qz x.vars).size<=25 from eV (by have:=d.q;have:=d.v4;have:=d.b;omega))) (xM0 1)) xq) (oo x))<|p0 (Xi (decide ((x.box.length:Int)>0)) (λhb=>KJ (Z9 W (.tmp 28) (.const (Ψ ⟨#[98,111,120]⟩)) (bA (fN x)) ⟨#[98,111,120]⟩ (HKm x) (L6 (L2 (QZ (dv d).1) (xM0 3)) xq) (ph hb)) (qS ⟨#[]⟩) (qS (HKm x)) (qk H) (XR (Qc 9 1 Q9 wKinds I.1 I.2))<|trivial) λhb=>KJ (Z9 W (.tmp 30) (.const (Ψ ⟨#[115,105,109,112,108,101,120]⟩)) (bA (fN x)) ⟨#[115,105,109,112,108,101,120]⟩ (HKm x) (L6 (L2 (QZ (dv d).1) (xM0 7)) xq) (pm hb)) (qS ⟨#[]⟩) (qS (HKm x)) (qk H) (XR (Qc 9 1 Q9 wKinds I.1 I.2))<|trivial) λ(z0:Nat) (ao:True)=>Ky (qS ⟨#[]⟩) (qS (HKm x)) (qI ((0:Nat):Int)) (qk H)<|ai (show 0<=x.box.length from L7 _) λ(q1:Nat) (K:(q1<=x.box.length))=>Xi (decide ((q1:Int)<(x.box.length:Int))) (λy=>Yx (QP W (.tmp 40) (.const HKw) (bA (Zl x++QS (J9 x q1))) ⟨#[32]⟩ (CU d K) (xM0 1) xq) (CR cb U q1 (Qt y)) (JW U q1 0 (Qt y) x4 rfl rfl) (show RetAt prog W 42 #[nA ((QN x.box q1).1)] (Ψ (Yc (QN x.box q1).1))from X8 (L6 ((d.a _ (VH (ET (Qt y))).1)).2.1 x4) ⟨T7 x4 ((d.a _ (VH (ET (Qt y))).1)).2.2.1,T7 ((d.a _ (VH (ET (Qt y))).1)).2.2.2 x4⟩ W) (QP W (.tmp 41) (.tmp 49) ((bA (Zl x++QS (J9 x q1)))++⟨#[32]⟩) (Yc (QN x.box q1).1) (Qw (CU d K) (xM0 1)) (show(Yc (QN x.box q1).1).size<=25 from oN (d.a _ (VH (ET (Qt y))).1)) xq) (QP W (.tmp 50) (.const HKw) (HKl x q1) ⟨#[32]⟩ (Qw (Qw (CU d K) (xM0 1)) (show(Yc (QN x.box q1).1).size<=25 from oN (d.a _ (VH (ET (Qt y))).1))) (xM0 1) xq) (CR cb U q1 (Qt y)) (JW U q1 3 (Qt y) x4 rfl rfl)<|GL (show RetAt prog W 42 #[nA ((QN x.box q1).2)] (Ψ (Yc (QN x.box q1).2))from X8 (L6 ((d.a _ (VH (ET (Qt y))).2)).2.1 x4) ⟨T7 x4 ((d.a _ (VH (ET (Qt y))).2)).2.2.1,T7 ((d.a _ (VH (ET (Qt y))).2)).2.2.2 x4⟩ W) (Z9 W (.tmp 51) (.tmp 59) ((HKl x q1)++⟨#[32]⟩) (Yc (QN x.box q1).2) (bA (Zl x++QS (J9 x (q1+1)))) (L6 (L2 (Qw (Qw (Qw (CU d K) (xM0 1)) (show(Yc (QN x.box q1).1).size<=25 from oN (d.a _ (VH (ET (Qt y))).1))) (xM0 1)) (show(Yc (QN x.box q1).2).size<=25 from oN (d.a _ (VH (ET (Qt y))).2))) xq) (nl x q1)) (QD q1 (xF (Qt y) (MQ d))) (qS ⟨#[]⟩) (qS (bA (Zl x++QS (J9 x (q1+1))))) (qI (((q1+1):Nat):Int)) (qk H)<|ai (show q1+1<=x.box.length from(Qt y)) (show x.box.length-(q1+1)<x.box.length-q1 from x8 (L0 y))) λy=>Ky (qS ⟨#[]⟩) (Lu (λl=>bA (Zl x++QS l)) (show J9 x q1=MW x 0 from by rw[(show q1=x.box.length from x8 (L1 y))];exact(Rq _).symm)) (qI ((0:Nat):Int)) (qk H)<|ai (show 0<=x.κ.length from L7 _) λ(g:Nat) (ag:(g<=x.κ.length))=>Xi (decide ((g:Int)<(x.κ.length:Int))) (λB=>KJ (qS ⟨#[]⟩) (Lu (λl=>bA (Zl x++QS l)) (show MW x g=M1 x g 0 from(Rq _).symm)) (qI (g:Int)) (qI ((0:Nat):Int)) (qk H)<|ai (show 0<=(Qu x.κ g).length from L7 _) λ(t:Nat) (ad:(t<=(Qu x.κ g).length))=>X0 (Zy cs X g (Qt B)) (J6 X g 0 (Qt B) x4 rfl)<|Xi (decide ((t:Int)<(((Qu x.κ g).length:Nat):Int))) (λD=>Yx (QP W (.tmp 80) (.const HKw) (bA (Zl x++QS (M1 x g t))) ⟨#[32]⟩ (ac d (Qt B) ad) (xM0 1) xq) (Zy cs X g (Qt B)) (J6 X g 0 (Qt B) x4 rfl) (Es (us g) (HP g (Qt B)) t (show t<(Qu x.κ g).length from Qt D)) (JW (HP g (Qt B)) t 0 (show t<(Qu x.κ g).length from Qt D) x4 rfl rfl) (show RetAt prog W 42 #[nA (Xm (Qu x.κ g) t)] (Ψ (C1 (Qu x.κ g) t))from X8 (L6 ((d.a _ (It (Ka (Qt B)) (KU (show t<(Qu x.κ g).length from Qt D))))).2.1 x4) ⟨T7 x4 ((d.a _ (It (Ka (Qt B)) (KU (show t<(Qu x.κ g).length from Qt D))))).2.2.1,T7 ((d.a _ (It (Ka (Qt B)) (KU (show t<(Qu x.κ g).length from Qt D))))).2.2.2 x4⟩ W) (Z9 W (.tmp 81) (.tmp 91) ((bA (Zl x++QS (M1 x g t)))++⟨#[32]⟩) (C1 (Qu x.κ g) t) (bA (Zl x++QS (M1 x g (t+1)))) (L6 (L2 (Qw (ac d (Qt B) ad) (xM0 1)) (show(C1 (Qu x.κ g) t).size<=25 from oN (d.a _ (It (Ka (Qt B)) (KU (show t<(Qu x.κ g).length from Qt D)))))) xq) (rj x g t)) (QD t (by have:=(show t<(Qu x.κ g).length from Qt D);have:=MQ d;have:=pq d g;omega))<|KJ (qS ⟨#[]⟩) (qS (bA (Zl x++QS (M1 x g (t+1))))) (qI (g:Int)) (qI (((t+1):Nat):Int)) (qk H)<|ai (show t+1<=(Qu x.κ g).length from(show t<(Qu x.κ g).length from Qt D)) (show(Qu x.κ g).length-(t+1)<(Qu x.κ g).length-t from x8 (L0 D))) λD=>KJ (QD g (xF (Qt B) (MQ d))) (qS ⟨#[]⟩) (qJ (x:=x) (show t=(Qu x.κ g).length from x8 (L1 D))) (qI (((g+1):Nat):Int)) (qk H)<|ai (show g+1<=x.κ.length from(Qt B)) (show x.κ.length-(g+1)<x.κ.length-g from x8 (L0 B))) λB=>KJ (Z9 W (.tmp 93) (.const HKn) (bA (Zl x++QS (MW x g))) ⟨#[10]⟩ (bA (aJ x)) (L6 (L2 (mB d ag) (xM0 1)) xq) (nN (show g=x.κ.length from x8 (L1 B)))) (qS ⟨#[]⟩) (Lu bA (rQ (aJ x) (fP x)).symm) (qI ((0:Nat):Int)) (qk H)<|ai (show 0<=x.ps.length from L7 _) λ(r:Nat) (Q:(r<=x.ps.length))=>Xi (decide ((r:Int)<(x.ps.length:Int))) (λE=>Yx (QP W (.tmp 102) (.const (Ψ ⟨#[112,111,108,121]⟩)) (bA (KF (aJ x) (fP x) r)) ⟨#[112,111,108,121]⟩ (QZ ((Av d).2.1 r Q)) (xM0 4) xq) (J5 kp HQ r (Qt E)) (D8 HQ r 0 (Qt E) x4 rfl rfl) (BG ((QM x.ps r).vars) (Up r) (up r) ((QM x.ps r).ts) (QfD d (Qt E)) W (M r (Qt E))) (QP W (.tmp 103) (.tmp 109) (HKo x r) (bA (QS ((QM x.ps r).ts.flatMap eC))) (Qw (QZ ((Av d).2.1 r Q)) (xM0 4)) (CL (QfD d (Qt E))) xq) (Z9 W (.tmp 110) (.const HKn) ((HKo x r)++(bA (QS ((QM x.ps r).ts.flatMap eC)))) ⟨#[10]⟩ (bA (KF (aJ x) (fP x) (r+1))) (L6 (L2 (Qw (Qw (QZ ((Av d).2.1 r Q)) (xM0 4)) (CL (QfD d (Qt E)))) (xM0 1)) xq) (px x r)) (QD r (xF (Qt E) (MQ d))) (qS ⟨#[]⟩)<|Ja (qS (bA (KF (aJ x) (fP x) (r+1)))) (qI (((r+1):Nat):Int)) (qk H)<|ai (show r+1<=x.ps.length from(Qt E)) (show x.ps.length-(r+1)<x.ps.length-r from x8 (L0 E))) λE=>Ky (qS ⟨#[]⟩) (Lu bA (show KF (aJ x) (fP x) r=KF (lc x) (fR x) 0 from by rw[rQ,(show r=x.ps.length from x8 (L1 E))];rfl)) (qI ((0:Nat):Int)) (qk H)<|ai (show 0<=x.θ.length from L7 _) λ(s:Nat) (R:(s<=x.θ.length))=>Xi (decide ((s:Int)<(x.θ.length:Int))) (λF=>Yx (QP W (.tmp 119) (.const (Ψ ⟨#[114,117,108,101]⟩)) (bA (KF (lc x) (fR x) s)) ⟨#[114,117,108,101]⟩ (QZ ((Av d).2.2.1 s R)) (xM0 4) xq) (J5 kr HU s (Qt F)) (D8 HU s 0 (Qt F) x4 rfl rfl) (BG ((QM x.θ s).vars) (Ur s) (ur s) ((QM x.θ s).ts) (QfE d (Qt F)) W (N s (Qt F))) (QP W (.tmp 120) (.tmp 126) (HKp x s) (bA (QS ((QM x.θ s).ts.flatMap eC))) (Qw (QZ ((Av d).2.2.1 s R)) (xM0 4)) (CL (QfE d (Qt F))) xq) (Z9 W (.tmp 127) (.const HKn) ((HKp x s)++(bA (QS ((QM x.θ s).ts.flatMap eC)))) ⟨#[10]⟩ (bA (KF (lc x) (fR x) (s+1))) (L6 (L2 (Qw (Qw (QZ ((Av d).2.2.1 s R)) (xM0 4)) (CL (QfE d (Qt F)))) (xM0 1)) xq) (py x s)) (QD s (xF (Qt F) (MQ d))) (qS ⟨#[]⟩)<|Ja (qS (bA (KF (lc x) (fR x) (s+1)))) (qI (((s+1):Nat):Int)) (qk H)<|ai (show s+1<=x.θ.length from(Qt F)) (show x.θ.length-(s+1)<x.θ.length-s from x8 (L0 F))) λF=>Ky (qS ⟨#[]⟩) (Lu bA (show KF (lc x) (fR x) s=KF (BN x) (fC x) 0 from by rw[rQ,(show s=x.θ.length from x8 (L1 F))];rfl)) (qI ((0:Nat):Int)) (qk H)<|ai (show 0<=x.ι.length from L7 _) λ(f:Nat) (C:(f<=x.ι.length))=>Xi (decide ((f:Int)<(x.ι.length:Int))) (λp=>X0 (J4 cc L f (Qt p)) (BZ L f 0 (Qt p) x4 rfl)<|Xi (((Qn x.ι f).split)==1) (λY=>Vv (Z9 W (.tmp 143) (.const (Ψ ⟨#[115,112,108,105,116,10]⟩)) (HKy x f) ⟨#[115,112,108,105,116,10]⟩ (HKr x f) (L6 (L2 (QZ ((Av d).2.2.2 f C)) (xM0 6)) xq) (pz x Y)) (QD f (xF (Qt p) (MQ d))) (qS ⟨#[]⟩) (qS (HKr x f)) (qI (((f+1):Nat):Int)) (qk H)<|ai (show f+1<=x.ι.length from(Qt p)) (show x.ι.length-(f+1)<x.ι.length-f from x8 (L0 p))) λY=>have i:=QfC d (Qt p) (show((Qn x.ι f).split==0)=true from by simpa using Pg d (Qt p) Y);Yx (QP W (.tmp 145) (.const (Ψ ⟨#[108,101,97,102,32]⟩)) (HKy x f) ⟨#[108,101,97,102,32]⟩ (QZ ((Av d).2.2.2 f C)) (xM0 5) xq) (J4 cc L f (Qt p)) (JW L f 1 (Qt p) x4 rfl rfl) (show RetAt prog W 42 #[nA ((Qn x.ι f).ο)] (Ψ (Yc (Qn x.ι f).ο))from X8 (L6 ((QbC d (Qt p))).2.1 x4) ⟨T7 x4 ((QbC d (Qt p))).2.2.1,T7 ((QbC d (Qt p))).2.2.2 x4⟩ W) (QP W (.tmp 146) (.tmp 153) (HKj x f) (HKu x f) (Qw (QZ ((Av d).2.2.2 f C)) (xM0 5)) (show(Yc (Qn x.ι f).ο).size<=25 from oN (QbC d (Qt p))) xq) (J4 cc L f (Qt p)) (D8 L f 4 (Qt p) x4 rfl rfl) (BG ((Qn x.ι f).sum.vars) (Uc f) (uc f) ((Qn x.ι f).sum.ts) i W (O f (Qt p)))<|have e:=Qw (Qw (QZ ((Av d).2.2.2 f C)) (xM0 5)) (show(Yc (Qn x.ι f).ο).size<=25 from oN (QbC d (Qt p)));GL (QP W (.tmp 154) (.tmp 161) ((HKj x f)++(HKu x f)) (bA (QS ((Qn x.ι f).sum.ts.flatMap eC))) e (CL i) xq) (Z9 W (.tmp 162) (.const HKn) (((HKj x f)++(HKu x f))++(bA (QS ((Qn x.ι f).sum.ts.flatMap eC)))) ⟨#[10]⟩ (bA (KF (BN x) (fC x) (f+1))) (L6 (L2 (Qw e (CL i)) (xM0 1)) xq) (pr x (Pg d (Qt p) Y))) (QD f (xF (Qt p) (MQ d))) (qS ⟨#[]⟩) (qS (HKr x f)) (qI (((f+1):Nat):Int)) (qk H)<|ai (show f+1<=x.ι.length from(Qt p)) (show x.ι.length-(f+1)<x.ι.length-f from x8 (L0 p))) λp=>Xi ((x.δ.toNat:Int)==6) (λG=>(show(Ψ (bA (KF (BN x) (fC x) f)):y9)=Ψ ⟨(VP x).toArray⟩from Lu (λl:List UInt8=>Ψ ⟨l.toArray⟩) (by rw[(show f=x.ι.length from x8 (L1 p)),Qc3 d (show(x.δ==6)=true from by have:=d.k;have h:=G;simp at h ⊢;omega)];rfl))) λG=>Ky (QP W (.tmp 168) (.const (Ψ ⟨#[101,112,115,32]⟩)) (HKy x f) ⟨#[101,112,115,32]⟩ (QZ ((Av d).2.2.2 f C)) (xM0 4) xq) (show RetAt prog W 42 #[nA x.ν] (Ψ (Yc x.ν))from X8 (L6 ((zL d)).2.1 x4) ⟨T7 x4 ((zL d)).2.2.1,T7 ((zL d)).2.2.2 x4⟩ W) (QP W (.tmp 169) (.tmp 172) (HKq x f) (Yc x.ν) (Qw (QZ ((Av d).2.2.2 f C)) (xM0 4)) (show(Yc x.ν).size<=25 from oN (zL d)) xq) (Z9 W (.tmp 173) (.const HKn) ((HKq x f)++(Yc x.ν)) ⟨#[10]⟩ (bA (HKh x f)) (L6 (L2 (Qw (Qw (QZ ((Av d).2.2.2 f C)) (xM0 4)) (show(Yc x.ν).size<=25 from oN (zL d))) (xM0 1)) xq) (nO (KF (BN x) (fC x) f) (Yc x.ν)))<|have c:=FD x.ζ (by have:=d.q;have:=d.v4;have:=d.b;omega) (by have:=d.q;have:=d.v4;have:=d.b;omega) W;have A:=Gm d (show(x.δ==6)=false from by have:=d.k;have h:=G;simp at h ⊢;omega);have z:=QZ (n:=7500000) (by rw[La];have:=(Av d).2.2.2 f C;have:= A.1.1;omega);Xi ((x.δ.toNat:Int)==4) (λZ=>have o:=QZ (n:=7500000) (by rw[La,La];have:=(Av d).2.2.2 f C;have:= A.1.1;have:=(A.2.2 (show(x.δ==4)=true from by have:=d.k;have h:=Z;simp at h ⊢;omega)).1;omega);Yx (QP W (.tmp 178) (.const (Ψ ⟨#[100,101,108,116,97,32]⟩)) (bA (HKh x f)) ⟨#[100,101,108,116,97,32]⟩ z (xM0 6) xq) (show RetAt prog W 42 #[nA x.ε] (Ψ (Yc x.ε))from X8 (L6 ((zz d)).2.1 x4) ⟨T7 x4 ((zz d)).2.2.1,T7 ((zz d)).2.2.2 x4⟩ W) (QP W (.tmp 179) (.tmp 182) ((bA (HKh x f))++⟨#[100,101,108,116,97,32]⟩) (Yc x.ε) (Qw z (xM0 6)) (show(Yc x.ε).size<=25 from oN (zz d)) xq) (Z9 W (.tmp 183) (.const HKn) ((HKv x f)++(Yc x.ε)) ⟨#[10]⟩ (bA (HKk x f)) (L6 (L2 (Qw (Qw z (xM0 6)) (show(Yc x.ε).size<=25 from oN (zz d))) (xM0 1)) xq) (nm (HKh x f) (Yc x.ε))) (QP W (.tmp 185) (.const HKx) (bA (HKk x f)) ⟨#[98,117,100,103,101,116,32]⟩ o (xM0 7) xq) c (QP W (.tmp 186) (.tmp 189) ((bA (HKk x f))++⟨#[98,117,100,103,101,116,32]⟩) (Qz x.ζ) (Qw o (xM0 7)) (show(Qz x.ζ).size<=25 from eV (by have:=d.q;have:=d.v4;have:=d.b;omega)) xq) (Z9 W (.tmp 190) (.const HKn) ((HKs x f)++(Qz x.ζ)) ⟨#[10]⟩ (bA ((HKk x f)++ZJ [Qy,Qz x.ζ])) (L6 (L2 (Qw (Qw o (xM0 7)) (show(Qz x.ζ).size<=25 from eV (by have:=d.q;have:=d.v4;have:=d.b;omega))) (xM0 1)) xq) (jt (HKk x f) (Qz x.ζ)))<|(show(Ψ (bA (((KF (BN x) (fC x) f++ZJ [Zh,Yc x.ν])++ZJ [Xh,Yc x.ε])++ZJ [Qy,Qz x.ζ])):y9)=Ψ ⟨(VP x).toArray⟩from Lu (λl:List UInt8=>Ψ ⟨l.toArray⟩) (by rw[(show f=x.ι.length from x8 (L1 p)),Qc2 (show(x.δ==6)=false from by have:=d.k;have h:=G;simp at h ⊢;omega) (show(x.δ==4)=true from by have:=d.k;have h:=Z;simp at h ⊢;omega)];rfl))) λZ=>Ky (QP W (.tmp 185) (.const HKx) (bA (HKh x f)) ⟨#[98,117,100,103,101,116,32]⟩ z (xM0 7) xq) c (QP W (.tmp 186) (.tmp 189) ((bA (HKh x f))++⟨#[98,117,100,103,101,116,32]⟩) (Qz x.ζ) (Qw z (xM0 7)) (show(Qz x.ζ).size<=25 from eV (by have:=d.q;have:=d.v4;have:=d.b;omega)) xq) (Z9 W (.tmp 190) (.const HKn) ((HKt x f)++(Qz x.ζ)) ⟨#[10]⟩ (bA ((HKh x f)++ZJ [Qy,Qz x.ζ])) (L6 (L2 (Qw (Qw z (xM0 7)) (show(Qz x.ζ).size<=25 from eV (by have:=d.q;have:=d.v4;have:=d.b;omega))) (xM0 1)) xq) (jt (HKh x f) (Qz x.ζ)))<|(show(Ψ (bA ((KF (BN x) (fC x) f++ZJ [Zh,Yc x.ν])++ZJ [Qy,Qz x.ζ])):y9)=Ψ ⟨(VP x).toArray⟩from Lu (λl:List UInt8=>Ψ ⟨l.toArray⟩) (by rw[(show f=x.ι.length from x8 (L1 p)),Qc4 (show(x.δ==6)=false from by have:=d.k;have h:=G;simp at h ⊢;omega) (show(x.δ==4)=false from by have:=d.k;have h:=Z;simp at h ⊢;omega)];rfl))
def QaQ{a:Nat}{l:List Nm}{A:xN}{c:Nat}(h:SlV a 3 VT w l (.slice A l.length c)):RdK w A l.length 3 (λj=>Xk (Xm l j)):=by
 let⟨d,f,e,_,_,b⟩:=SlV.enc nm0 h;obtain⟨rfl,_,rfl⟩:=Ng e;exact b
variable{f:y9}
def QbV{m:Nat}{x:PV}{g i k l:y9}(n:chkN x=0)(w:xH)(o:QV w)(e:Tab10 w)(h:Five m w x f g i k l):RetAt prog w 17 #[sF x f g i k l] (.string ⟨(VP x).toArray⟩):=by
 let⟨v,V,p⟩:=Pu n;obtain⟨t,u,y,z,A,B,cs,C,D,E,F,G,H,I,J,up,K,L,rfl,rfl,rfl,rfl,rfl,a⟩:=Fo h;exact wb p w o e a.b a.s (λj d=>QaQ (a.sp j d)) a.q (λj d=>O8 (a.qs j d)) a.r (λj d=>O8 (a.rs j d)) a.c (λj d=>O8 (a.cn j d))
def xl(x:PV):xM:=⟨(VP x).toArray⟩
def rR(x:PV):(xl x).size=(VP x).length:=Rs
def Vu{l:Nat}{x:PV}{g h i j k:y9}(m:okX x)(w:xH)(c:QV w)(a:Tab10 w)(d:Five l w x g h i j k):RetAt prog w 7 #[yA x g h i j k] (.tuple #[Ψ (prnP x).1,Θ (prnP x).2]) :=
 rk [x04 1 1 (iV (chkN x)),.both [] [x04 4 1 (sV (xl x)),.both [] []]] λW e n=>have d:=d.below e;have c:=Ql c e;have a:=a.later e;ai (Ea x m W c d)<|Xi ((chkN x) != 0) (λb=>(show(.tuple #[x00,Θ (chkN x)]:y9)=.tuple #[Ψ (prnP x).1,Θ (prnP x).2]from by unfold prnP;simp only[b,cond_true,cond_false];try rfl)) λb=>ai (QbV (show chkN x=0 from l3 b) W c a d)<|Xi (decide (((xl x).size:Int)>65536)) (λf=>(show(.tuple #[x00,Θ 3]:y9)=.tuple #[Ψ (prnP x).1,Θ (prnP x).2]from by unfold prnP;simp only[b,show decide (((VP x).length:Int)>65536)=true from rR x▸f,cond_true,cond_false];try rfl)) λf=>(show(.tuple #[Ψ (xl x),Θ 0]:y9)=.tuple #[Ψ (prnP x).1,Θ (prnP x).2]from by unfold prnP;simp only[b,show decide (((VP x).length:Int)>65536)=false from rR x▸f,cond_true,cond_false];try rfl)
def nf{a:List Nd}:(YM a (k+1)).length=bif (Qn a k).split==0 then(YM a k).length-1 else(YM a k).length-1+2:=by
 cases h:(Qn a k).split==0 with
 |true=>rw[iC h,Ll];exact Tg (V9 _ _)
 |false=>rw[iB h,La,Ll,Tg (V9 _ _)];rfl
def F4{a:List Nd}:∀k,k<=a.length->(∀j,j<k->((((YM a j).length:Nat):Int)==0)=false)->YR (An a) 1=YR ((An a).drop k) (YM a k).length
 |0,_,_=>rfl
 |k+1,b,h=>by
  rw[F4 k x3 λj c=>h j x3,Tb (by rw[Za];exact b),NE b,nf];have d:=Lp.1 (h k (Sh _));obtain⟨m,e⟩:∃m,(YM a k).length=m+1:=⟨(YM a k).length-1,x3⟩
  rw[e];cases (Qn a k).split==0<;>rfl
def fk(a:List Nd):NB a=Yl a:=by
 have e:(Xj a 0==(a.length:Int))=bif XQ a.length (λj=>(((YM a j).length:Nat):Int)==0)then false else(((YM a a.length).length:Nat):Int)==0:=by
  have k:(Xj a 0==(a.length:Int))=decide (YR (An a) 1=some []):=by
   rw[V8,Sk,decide_eq_true_iff,<- PM,Za];rfl
  rw[k];by_cases h:∃j,j<a.length/\((((YM a j).length:Nat):Int)==0)=true
  ·rw[anyB_iff.2 h];obtain⟨j,d,l,b⟩:∃j,j<a.length/\((((YM a j).length:Nat):Int)==0)=true/\∀i,i<j->((((YM a i).length:Nat):Int)==0)=false:=by
    let⟨j,c,n⟩:=h;induction j using Nat.strongRecOn with
    |_ j o =>
     by_cases f:∃i,i<j/\((((YM a i).length:Nat):Int)==0)=true
     ·let⟨i,p,q⟩:=f;exact o i p x3 q
     ·refine⟨j,c,n,λi r=>?_⟩;cases e:((((YM a i).length:Nat):Int)==0)with
      |false=>rfl
      |true=>exact absurd ⟨i,r,e⟩ f
   rw[F4 j x3 b,show(YM a j).length=0 by have:=Sk.1 l;omega,GT];refine Lc λs=>?_
   have g:=Lu List.length (o7 s);rw[Lf,Za]at g;simp at g;omega
  ·have c:∀j,j<a.length->((((YM a j).length:Nat):Int)==0)=false:=λj d=>by
    cases e:((((YM a j).length:Nat):Int)==0)with
    |false=>rfl
    |true=>exact absurd ⟨j,d,e⟩ h
   rw[Kf c,F4 a.length (L4 _) c,<- Za a,List.drop_length,Za];cases e:(YM a a.length).length with
   |zero=>rfl
   |succ m =>
    show decide ((none:Option (List Bool))=some [])=(((m+1:Nat):Int)==0);rw[Lp.2 x3];rfl
 unfold NB Yl;rw[e];by_cases h:a.length<=4096
 ·rw[Lc (by omega:¬(a.length:Int)>4096),Lk (by omega:(a.length:Int)<=4096)];rfl
 ·rw[Lk (by omega:(a.length:Int)>4096),Lc (by omega:¬(a.length:Int)<=4096)];rfl
def gT(η:Int)(x:Nd):Qv η x=Zm η x:=by
 unfold Qv Zm;by_cases b:x.split=0
 ·rw[b];simp
 ·by_cases a:x.split=1
  ·rw[a];simp
  ·simp[b,a,Lp.2 a,bne]
def RN(η:Int)(a:List Nd):QA η a=Gs η a:=by
 unfold QA Gs;rw[fk,show(λj=>Qv η (Qn a j))=λj=>Zm η (Qn a j)from funext λj=>gT η _];cases h:((a.length:Int)==0)with
 |true =>
  have b:a.length=0:=x8 (Sk.1 h);rw[b,Kf λj c=>absurd c (R4 _)];rfl
 |false=>cases Yl a<;>cases XQ a.length (λj=>Zm η (Qn a j))<;>rfl
def O1{x:Nm}(h:Ks x=true):lr x=(sg x==0):=by
 have e:x=nm0↔sg x=0:=by
  constructor
  ·rintro rfl;rfl
  ·intro a;have b:nv x=0:=dsgn_eq.1 a;unfold Ks at h;rw[b]at h;have c:CC nm0 x=true:=h;exact(nmE_iff.1 c).symm
 rw[V8,Sk,<- e];exact nmE_iff (x:=x) (y:=nm0)
def Vi(δ:Int)(c a:Nm)(b:Int)(d e:Nat):Bool :=
 bif δ==6 then((((sg c==0)&&(sg a==0))&&(b==0))&&((d:Int)==0))&&decide ((e:Int)>0)else
 bif (decide (sg c<=0)||decide (b<1))||decide ((e:Int)>0)then false else
 bif δ==4 then decide (sg a>0)else(sg a==0)&&((d:Int)==0)
def jk{δ:Int}{c:Nm}{b:Int}{d:Nat}(k:Ks c=true)(l:Ks a=true):Zd (nS δ) (nR δ) (nC δ) c a d b e=Vi δ c a b d e:=by
 have m:=O1 k;have n:=O1 l;have b1:G3 c=(!decide (sg c<=0)):=by unfold G3;rw[V8];simp
 have r:=PI (nv c);have s:=PI (nv a);have i:(sg a==0)=true->G3 a=false:=λh=>by unfold G3;rw[Sk.1 h];rfl
 have o:(sg c==0)=true->G3 c=false:=λh=>by unfold G3;rw[Sk.1 h];rfl
 have d3:((d:Int)==0)=!decide ((d:Int)>0):=by rw[V8];simp
 unfold Zd Vi nS nR nC;rw[m,n,d3];by_cases f:δ=6
 ·subst f;rw[show((6:Int) != 6)=false from rfl,show((6:Int)==4)=false from rfl,show((6:Int)==6)=true from rfl];cases p:(sg c==0)<;>cases g:(sg a==0)
  all_goals (try rw[i g]);all_goals (try rw[o p]);all_goals cases decide ((d:Int)>0)<;>cases decide ((e:Int)>0)<;>cases q:(b==0)<;>cases G3 c<;>cases G3 a<;>simp[q,bne]
 ·rw[show(δ != 6)=true from bne_iff_ne.2 f,show(δ==6)=false from Lp.2 f,b1];by_cases j:δ=4
  ·subst j;have b2:G3 a=decide (sg a>0):=rfl;rw[show((4:Int)==4)=true from rfl,b2];cases decide (sg c<=0)<;>cases decide (b<1)<;>cases decide ((e:Int)>0)<;>cases decide (sg a>0)<;>simp
  ·rw[show(δ==4)=false from Lp.2 j];cases g:(sg a==0);all_goals (try rw[i g]);all_goals cases decide (sg c<=0)<;>cases decide (b<1)<;>cases decide ((e:Int)>0)<;>cases decide ((d:Int)>0)<;>cases G3 a<;>simp
def XJ(δ vars:Int)(nb:Nat)(c:List (List Nm))(f:Nat)(g h:Bool)(d b:Nm)(a:Int)(i:Nat)(e:List Nd):Bool :=
 bif QY δ vars==0 then false else bif (f:Int) != QY δ vars then false else bif !X4 nb c δ vars then false else bif !QA (Kt nb c.length) e then false else
 bif g then false else bif h then false else Vi δ d b a i e.length
def K5{l:List α}{d:α}{f:α->Bool}:XQ l.length (λj=>f (l.getD j d))=l.any f:=by
 rw[V8,anyB_iff,List.any_eq_true];constructor
 ·rintro⟨j,a,h⟩;rw[Yi a]at h;exact⟨_,Rr a,h⟩
 ·rintro⟨x,b,h⟩;obtain⟨j,a,rfl⟩:=Th b;exact⟨j,a,by rw[Yi a];exact h⟩
def WT{x:PV}(d:x.κ.length<=4294967296)(e:x.vars<=9223372036854775807):XJ x.δ x.vars x.box.length x.κ x.ps.length ((x.ps++x.θ).any (Yo x.vars)) ((Qk x.ν x.ε x.box x.κ x.ι).any λx=>!Ks x) x.ν x.ε x.ζ x.θ.length x.ι=Bh x:=by
 unfold XJ Bh K6;rw[RN,show(XQ x.ps.length λj=>Yo x.vars (QM x.ps j))=x.ps.any (Yo x.vars)from K5,show(XQ x.θ.length λj=>Yo x.vars (QM x.θ j))=x.θ.any (Yo x.vars)from K5,List.any_append];cases a:QY x.δ x.vars==0 with
 |true=>rfl
 |false =>
  have f:1<=x.vars:=by
   unfold QY at a;by_cases g:x.δ<1\/7<=x.δ\/x.vars<1
   ·rw[if_pos g]at a;cases a
   ·omega
  rw[dF d f e,show(x.δ==2||x.δ==5)=nX x.δ from rfl];cases b:(Qk x.ν x.ε x.box x.κ x.ι).all Ks with
  |true =>
   have c:∀y,y∈Qk x.ν x.ε x.box x.κ x.ι->Ks y=true:=Lg.1 b;rw[show((Qk x.ν x.ε x.box x.κ x.ι).any λx=>!Ks x)=false from by rw[<- List.not_all_eq_any_not,b];rfl,<- jk (c _ (by simp[Qk])) (c _ (by simp[Qk]))];cases (x.ps.length:Int) != QY x.δ x.vars<;>cases GR x.box.length x.κ x.vars (nX x.δ)<;>cases Gs (Kt x.box.length x.κ.length) x.ι<;>cases x.ps.any (Yo x.vars)<;>cases x.θ.any (Yo x.vars)<;>cases Zd (nS x.δ) (nR x.δ) (nC x.δ) x.ν x.ε x.θ.length x.ζ x.ι.length<;>rfl
  |false =>
   rw[show((Qk x.ν x.ε x.box x.κ x.ι).any λx=>!Ks x)=true from by rw[<- List.not_all_eq_any_not,b];rfl,Bool.and_false];cases (x.ps.length:Int) != QY x.δ x.vars<;>cases GR x.box.length x.κ x.vars (nX x.δ)<;>cases Gs (Kt x.box.length x.κ.length) x.ι<;>cases (x.ps.any (Yo x.vars)||x.θ.any (Yo x.vars))<;>rfl
def ZZ(vars:Int)(b c:Nat)(a:Int)(d go:Bool):Bool:=Cq vars b c a&&(!d&&!go)
def Wl(x:PV):ZZ x.vars x.θ.length x.ι.length x.ζ ((Qk x.ν x.ε x.box x.κ x.ι).any J1) ((KK x).any λp=>!ZQ p)=JP x:=by
 unfold ZZ JP;rw[<- List.not_all_eq_any_not,Bool.not_not,List.not_any_eq_all_not]
def TL{f g:List QQ}{a:List Nd}{b:Nat->xN}{c:Nat->Nat}(h:j<a.length):((Qn a j).sum,b j,c j)∈C4 f g a b c:=by
 have i:j<(K0 a b c).length:=by rw[DQ];exact h
 have e:=Fq (d:=XM) i;rw[iE h]at e;exact Vb _ e
variable{d:List Nd}
def WW{bx:List (Nm×Nm)}{c:List (List Nm)}:b∈Qk b a bx c d:=by simp[Qk]
def Bl{bx:List (Nm×Nm)}{c:List (List Nm)}:a∈Qk b a bx c d:=by simp[Qk]
def dU{a:List Nm}(lo:Nat){Ac Q P:xN}(cb cs cc kp kr:Nat)(Ua:Nat->xN)(Uc:Nat->Nat)(ν ε:Nm){bx:List (Nm×Nm)}{r:List (List Nm)}{J:List Nd}(δ vars ζ:Int)(l1 l2:List QQ)(L:a=Qk ν ε bx r J)(O:okL0 bx r J)(ao:l1.length<=1048576)(aw:l2.length<=1048576)(hP:∀x,x∈l1++l2->okP x.1)(hD:∀p,p∈J->okP p.sum)(U:∀x,x∈a->okN x)(w:xH)(hb:RdK w Ab bx.length 6 (λj=>JR (QN bx j)))(hs:RdK w As r.length 1 (yx r Us us))(hp:∀j,j<r.length->SlV lo 3 VT w (Qu r j) (Ω (Us j) (Qu r j).length (us j)))(hc:RdK w Ac J.length 6 (be J Ua Uc))(hq:(RdK w Q l1.length 2 (λi=>Zn (l1.getD i XM))/\(Q=none->l1.length=0/\kp=0)))(hu:(RdK w P l2.length 2 (λi=>Zn (l2.getD i XM))/\(P=none->l2.length=0/\kr=0)))(hx:∀x,x∈C4 l1 l2 J Ua Uc->RdK w x.2.1 x.1.ts.length 4 (λj=>QK (Qb x.1.ts j))):RetAt prog w 37 #[tA δ vars Ab bx.length cb As r.length cs Q l1.length kp P l2.length kr ν ε ζ Ac J.length cc] (Ξ (XJ δ vars bx.length r l1.length (XQ (l1++l2).length (λj=>Yo vars (gP (l1++l2) j).1)) (XQ a.length (λj=>!Ks (List.getD a j nm0))) ν ε ζ l2.length J)):=by
 have ad:a.length<=1099514773506:=by rw[L];exact Qbd O
 exact let Z0:OB:=some (35,(tS δ vars Ab bx.length cb As r.length cs Q l1.length kp P l2.length kr ν ε ζ Ac J.length cc));have I:=eB (XJ δ vars bx.length r l1.length (XQ (l1++l2).length (λj=>Yo vars (gP (l1++l2) j).1)) (XQ a.length (λj=>!Ks (List.getD a j nm0))) ν ε ζ l2.length J);rk [.reg 27 [],x04 1 4 (iV (QY δ vars)),.gb 1 7 [.g 1 8 true,.g 1 9 true,.g 1 10 true,.g 1 11 true,.g 1 12 true,.g 1 13 true,.g 1 14 true,x04 1 14 (iV (QY δ vars)),.g 1 15 true,.o 1 16 (.pk false),.gb 1 18 [.g 1 19 true,x04 1 19 (bV (X4 bx.length r δ vars)),.g 1 20 true,.o 1 21 (.pk false),.gb 1 23 [.g 1 24 true,x04 1 24 (bV (QA (Kt bx.length r.length) J)),.g 1 25 true,.o 1 26 (.pk false),.both [] [.reg 6 [],.o 3 3 (.nb (.han 30) (λ(y:Hp)=>Ω y.1 (l1).length y.2) (λ(y:Hp)=>Zx 47 2 Zn l1 y.1 y.2)),.opn 3 6 30 (λ(R:Hp)=>Ω R.1 (l1).length R.2) (λ(R:Hp)=>Zx 47 2 Zn l1 R.1 R.2) (λ(R:Hp)=>[x08 3 6 30 (λ(v:Hp)=>(Ω v.1 (l1++l2).length v.2,Zx 47 2 Zn (l1++l2) v.1 v.2,[P5 (λ(k1:Nat)=>(⟨143,[(1,.ptr 0 0),(2,bV false),(3,lV v.1 (l1++l2).length v.2),(4,iV (k1:Int))],[none],[none,none,none,none,none,none,none,none,none,none,none,none,none,none,none,none,none,none,none,none,none,none,none,none,none,none,none,none,none,none,none,none,none]⟩:St)) ((l1++l2).length) (λj=>Yo vars (gP (l1++l2) j).1) (λ(k1:Nat)=>[.both [.reg 16 [],x06 7 2 [30] (.pointer (some (Q5 v.1 (k1*2+0)))),x06 7 3 [30] (.agg #[Θ ((gP (l1++l2) k1).1.vars),Ω (gP (l1++l2) k1).2.1 (gP (l1++l2) k1).1.ts.length (gP (l1++l2) k1).2.2]),x04 7 4 (iV (K9 (gP (l1++l2) k1).1)),.gb 7 7 [.g 7 8 true,.g 7 9 true,x06 7 9 [30] (.pointer (some (Q5 v.1 (k1*2+0)))),.g 7 10 true,x03 7 10 (.pointer (some (Q5 v.1 (k1*2+0)))),.g 7 11 true,x06 7 11 [30] (Θ ((gP (l1++l2) k1).1.vars)),.g 7 12 true,.g 7 13 true,.g 7 14 true,.o 7 15 (.pk false),.both [] [x05 6 1 (iV ((k1+1:Nat):Int)),.next 0]] [.g 7 8 false,.g 7 9 false,.g 7 10 false,.g 7 11 false,.g 7 12 false,.g 7 13 false,.g 7 14 false,.o 7 15 (.pk true)]] [x09 9 1 [] (λ(B:Hp)=>(Ω B.1 a.length B.2,Qc 32 3 Xk a B.1 B.2,[P5 (λ(z:Nat)=>(⟨143,[(1,.ptr 0 0),(2,bV false),(5,lV B.1 (a).length B.2),(6,iV (z:Int))],[none],[none,none,none,none,none,none,none,none,none,none,none,none,none,none,none,none,none,none,none,none,none,none,none,none,none,none,none,none,none,none,none,none,none,none]⟩:St)) a.length (λj=>(!Ks (List.getD a j nm0))) (λ(z:Nat)=>[.both [.reg 10 [],x06 13 2 [33] (.pointer (some (Q5 B.1 (z*3+0)))),x06 13 3 [33] (nA (List.getD a z nm0)),x04 13 4 (.agg [bV (neg (dm (nv (List.getD a z nm0)))),sV (QJ (dm (nv (List.getD a z nm0)))),iV (de (nv (List.getD a z nm0)))]),x06 13 7 [33] (.pointer (some (Q5 B.1 (z*3+0)))),x06 13 8 [33] (nA (List.getD a z nm0)),x03 13 9 (Ξ (!(Ks (List.getD a z nm0)))),.both [] [x05 12 1 (iV ((z+1:Nat):Int)),.next 0]] [.both [x04 16 2 (iV (sg ν)),.gb 16 5 [x04 16 7 (iV (sg ε)),.gb 16 11 [.gb 16 16 [.gb 16 22 [] []] []] []] []] [x04 17 2 (iV (sg ν)),.gb 17 5 [.gb 17 10 [.both [] [.both [x04 20 2 (iV (sg ε))] [x04 21 2 (iV (sg ε)),.gb 21 5 [] []]]] []] []]]])]))]])]))])]] [.g 1 24 false,.g 1 25 false,.o 1 26 (.pk true)]] [.g 1 19 false,.g 1 20 false,.o 1 21 (.pk true)]] [.g 1 8 false,.g 1 9 false,.g 1 10 false,.g 1 11 false,.g 1 12 false,.g 1 13 false,.g 1 14 false,.g 1 15 false,.o 1 16 (.pk true)]] λW V hR=>have HB:=hb.up V (λ_=>rfl);have HS:=hs.up V (λ_=>rfl);(λ(HP:∀j,j<r.length->SlV lo 3 VT W (Qu r j) (Ω (Us j) (Qu r j).length (us j)))=>have HC:=hc.up V (λ_=>rfl);(λ(HQ:(RdK W Q l1.length 2 (λi=>Zn (l1.getD i XM))/\(Q=none->l1.length=0/\kp=0)))=>(λ(HU:(RdK W P l2.length 2 (λi=>Zn (l2.getD i XM))/\(P=none->l2.length=0/\kr=0)))=>(λ(HX:∀x,x∈C4 l1 l2 J Ua Uc->RdK W x.2.1 x.1.ts.length 4 (λj=>QK (Qb x.1.ts j)))=>ai (Iw δ vars W)<|ZD ((QY δ vars)==0) false (λt=>Yx t t t t t t t (Iw δ vars W)<|X0 t t<|ZD ((l1.length:Int) != (QY δ vars)) false (λE=>Ky E (iW Ab bx.length cb cs δ vars Q P Ac l1.length kp l2.length kr J.length cc ν ε ζ (L6 O.hs x4) W HS) E E<|ZD (!(X4 bx.length r δ vars)) false (λF=>Ky F (dQ Ab As Q P bx.length cb r.length cs l1.length kp l2.length kr cc δ vars ζ ν ε (L6 O.hc x4) (L6 O.hb x4) hD W HC λj hj=>HX _ (TL hj)) F F<|Xi (!(QA (Kt bx.length r.length) J)) (λK=>(I false (by unfold XJ;rw[t,E,F,K];rfl))) λK=>X0 (λ(H:xH) (X:Below W.heap.size W H) (g:Nat) (_:Bx H g 47 #[])=>sP 28 Zn l1 Xg Zb EL (show l1.length*32<=140737488355328 from x3) (GM Zb x4 XM (HQ.1.below (λ_=>rfl) X) HQ.2) g) (show ∀y:Hp,(Ω y.1 (l1).length y.2:y9).oneCell'=true from λ_=>rfl)<|ai (show qg (HW (λ(y:Hp)=>Ω y.1 (l1).length y.2) (λ(y:Hp)=>Zx 47 2 Zn l1 y.1 y.2)) (λ(y:Hp)=>Ω y.1 (l1).length y.2) (λ(y:Hp)=>Zx 47 2 Zn l1 y.1 y.2)from Aw λy x x' S w hx h=>l5 hx h) λ(R:Hp)=>ai (tm W 28 Zn l1 l2 (l1++l2) R.1 R.2 (Ω P l2.length kr) Xg Zb EL rfl (show(l1++l2).length*32<=140737488355328 from by rw[La];omega) (λH X=>GM Zb x4 XM (HU.1.below (λ_=>rfl) X) HU.2)) λ(v:Hp)=>KJ (qB false) (qV (Ω v.1 (l1++l2).length v.2)) (qI ((0:Nat):Int)) (qk Z0) (XR (Zx 47 2 Zn (l1++l2) v.1 v.2))<|ai (c0 ((l1++l2).length) (λj=>Yo vars (gP (l1++l2) j).1)) λ(k1:Nat) (C:cQ ((l1++l2).length) (λj=>Yo vars (gP (l1++l2) j).1) k1)=>Xi (decide ((k1:Int)<(((l1++l2).length:Nat):Int))) (λm=>have d:=Ff W 47 2 Zn Zb (l1++l2) XM v.1 v.2 (λH M=>J5 v.2 M k1 (Qt m) (w0:=H));Ja d (Ff W 47 2 Zn Zb (l1++l2) XM v.1 v.2 (λH M=>D8 M k1 0 (Qt m) x4 rfl rfl (w0:=H))) (FX ((gP (l1++l2) k1).1.vars) ((gP (l1++l2) k1).2.2) (hP (gP (l1++l2) k1) (Fq (Qt m))).len (hP (gP (l1++l2) k1) (Fq (Qt m))).tms W (HX _ (V6 _ (Fq (Qt m)))))<|ZD ((K9 (gP (l1++l2) k1).1) != 0) false (λG=>Yx G G d G (P6 (w0:=W) (A:=v.1) (i:=k1) (k:=2) (o:=0)) G (Ff W 47 2 Zn Zb (l1++l2) XM v.1 v.2 (λH M=>BZ M k1 0 (Qt m) x4 rfl (w0:=H))) G<|Ja G G G<|Xi (((gP (l1++l2) k1).1.vars) != vars) (λz2=>(I false (by unfold XJ;rw[t,E,F,K,ZG (f:=λj=>Yo vars (gP (l1++l2) j).1) (Qt m) (by show Yo _ _=_;unfold Yo;rw[G,z2];rfl)];rfl))) λz2=>Vv (QD k1 (by have:=Qt m;rw[La]at this;omega)) (qB false) (qV (Ω v.1 (l1++l2).length v.2)) (qI (((k1+1):Nat):Int)) (qk Z0) (XR (Zx 47 2 Zn (l1++l2) v.1 v.2))<|ai (cS C (Qt m) (by show Yo _ _=_;unfold Yo;rw[G,z2];rfl)) (Oe (Qt m))) λG=>Yx G G G G G G G G<|(I false (by unfold XJ;rw[t,E,F,K,ZG (f:=λj=>Yo vars (gP (l1++l2) j).1) (Qt m) (by show Yo _ _=_;unfold Yo;rw[G];rfl)];rfl))) λm=>ai (by have h:=pU lo cb cs cc (λj=>Ω (Us j) (Qu r j).length (us j)) (λj=>Ω (Ua j) (Qn J j).sum.ts.length (Uc j)) ν ε δ vars ζ Q P l1.length kp l2.length kr O W HB HS HP HC;rw[<- L]at h;exact h) λ(B:Hp)=>Vv (qB false) (qV (Ω B.1 (a).length B.2)) (qI ((0:Nat):Int)) (qk Z0) (XR (Zx 47 2 Zn (l1++l2) v.1 v.2)) (XR (Qc 32 3 Xk a B.1 B.2))<|ai (c0 a.length (λj=>(!Ks (List.getD a j nm0)))) λ(z:Nat) (D:cQ a.length (λj=>(!Ks (List.getD a j nm0))) z)=>Xi (decide ((z:Int)<(((a).length:Nat):Int))) (λq=>have c:=Jl W 32 3 Xk a B.1 B.2 Xx nm0 (λH M=>Gi B.2 H M z (Qt q));have l:=Jl W 32 3 Xk a B.1 B.2 Xx nm0 (λH M=>JW M z 0 (Qt q) x4 rfl rfl (w0:=H));Vv c l (rc W call76 λW=>Je (List.getD a z nm0).s (List.getD a z nm0).b (List.getD a z nm0).e W (L6 (U (List.getD a z nm0) (Fq (Qt q))).sz x4) (x8 ((U (List.getD a z nm0) (Fq (Qt q))).lo)) (x8 ((U (List.getD a z nm0) (Fq (Qt q))).hi))) c l (Bg W (.tmp 75) (.tmp 79) (neg (dm (nv (List.getD a z nm0)))) (List.getD a z nm0).b (QJ (dm (nv (List.getD a z nm0)))) (List.getD a z nm0).s (de (nv (List.getD a z nm0))) (List.getD a z nm0).e)<|Xi (!(Ks (List.getD a z nm0))) (λz3=>(I false (by unfold XJ;rw[t,E,F,K,G6 (λj=>Yo vars (gP (l1++l2) j).1) m C.2,ZG (f:=λj=>!Ks (List.getD a j nm0)) (Qt q) z3];rfl))) λz3=>GL (QD z (xF (Qt q) ad)) (qB false) (qV (Ω B.1 (a).length B.2)) (qI (((z+1):Nat):Int)) (qk Z0) (XR (Zx 47 2 Zn (l1++l2) v.1 v.2)) (XR (Qc 32 3 Xk a B.1 B.2))<|ai (cS D (Qt q) z3) (Oe (Qt q))) λq=>have n:=rc W call77 λW=>XD ν.s ν.b ν.e W (L6 (U _ (by rw[L];exact WW)).sz x4);have u:=rc W call77 λW=>XD ε.s ε.b ε.e W (L6 (U _ (by rw[L];exact Bl)).sz x4);Xi (δ==6) (λN=>ai n<|ZD ((sg ν)==0) true (λZ=>ai u<|ZD ((sg ε)==0) true (λT=>ZD (ζ==0) true (λe4=>ZD ((l2.length:Int)==0) true (λe5=>(I (decide ((J.length:Int)>0)) (by unfold XJ Vi;rw[t,E,F,K,G6 (λj=>Yo vars (gP (l1++l2) j).1) m C.2,G6 (λj=>!Ks (List.getD a j nm0)) q D.2,N,Z,T,e4,e5];rfl))) λe5=>(I false (by unfold XJ Vi;rw[t,E,F,K,G6 (λj=>Yo vars (gP (l1++l2) j).1) m C.2,G6 (λj=>!Ks (List.getD a j nm0)) q D.2,N,Z,T,e4,e5];rfl))) λe4=>(I false (by unfold XJ Vi;rw[t,E,F,K,G6 (λj=>Yo vars (gP (l1++l2) j).1) m C.2,G6 (λj=>!Ks (List.getD a j nm0)) q D.2,N,Z,T,e4];rfl))) λT=>(I false (by unfold XJ Vi;rw[t,E,F,K,G6 (λj=>Yo vars (gP (l1++l2) j).1) m C.2,G6 (λj=>!Ks (List.getD a j nm0)) q D.2,N,Z,T];rfl))) λZ=>(I false (by unfold XJ Vi;rw[t,E,F,K,G6 (λj=>Yo vars (gP (l1++l2) j).1) m C.2,G6 (λj=>!Ks (List.getD a j nm0)) q D.2,N,Z];rfl))) λN=>ai n<|ZD (decide ((sg ν)<=0)) false (λY=>ZD (decide (ζ<1)) false (λe8=>Xi (decide ((J.length:Int)>0)) (λe6=>(I false (by unfold XJ Vi;rw[t,E,F,K,G6 (λj=>Yo vars (gP (l1++l2) j).1) m C.2,G6 (λj=>!Ks (List.getD a j nm0)) q D.2,N,Y,e8,e6];rfl))) λe6=>Xi (δ==4) (λe9=>ai u<|(I (decide ((sg ε)>0)) (by unfold XJ Vi;rw[t,E,F,K,G6 (λj=>Yo vars (gP (l1++l2) j).1) m C.2,G6 (λj=>!Ks (List.getD a j nm0)) q D.2,N,Y,e8,e6,e9];rfl))) λe9=>ai u<|ZD ((sg ε)==0) true (λT=>(I ((l2.length:Int)==0) (by unfold XJ Vi;rw[t,E,F,K,G6 (λj=>Yo vars (gP (l1++l2) j).1) m C.2,G6 (λj=>!Ks (List.getD a j nm0)) q D.2,N,Y,e8,e6,e9,T];rfl))) λT=>(I false (by unfold XJ Vi;rw[t,E,F,K,G6 (λj=>Yo vars (gP (l1++l2) j).1) m C.2,G6 (λj=>!Ks (List.getD a j nm0)) q D.2,N,Y,e8,e6,e9,T];rfl))) λe8=>(I false (by unfold XJ Vi;rw[t,E,F,K,G6 (λj=>Yo vars (gP (l1++l2) j).1) m C.2,G6 (λj=>!Ks (List.getD a j nm0)) q D.2,N,Y,e8];rfl))) λY=>(I false (by unfold XJ Vi;rw[t,E,F,K,G6 (λj=>Yo vars (gP (l1++l2) j).1) m C.2,G6 (λj=>!Ks (List.getD a j nm0)) q D.2,N,Y];rfl))) λF=>Ja F F F<|(I false (by unfold XJ;rw[t,E,F];rfl))) λE=>Ja E E E<|(I false (by unfold XJ;rw[t,E];rfl))) λt=>Yx t t t t t t t t<|ai t<|(I false (by unfold XJ;rw[t];rfl))) (λx ag=>(hx x ag).below (λ_=>rfl) V)) (⟨hu.1.below (λ_=>rfl) V,hu.2⟩)) (⟨hq.1.below (λ_=>rfl) V,hq.2⟩)) (λj hj=>(hp j hj).below YH V)
def Ts{a:List QQ}{t:List Nm}(lo:Nat){Ac Y V:xN}(cb cs cc kp kr:Nat)(Ua:Nat->xN)(Uc:Nat->Nat)(ν ε:Nm){bx:List (Nm×Nm)}{B:List (List Nm)}{q:List Nd}(δ vars ζ:Int)(l1 l2:List QQ)(ag:t=Qk ν ε bx B q)(L:okL0 bx B q)(bk:l1.length<=1048576)(bl:l2.length<=1048576)(M:a=C4 l1 l2 q Ua Uc)(hP:∀x,x∈a->okP x.1)(w:xH)(hb:RdK w Ab bx.length 6 (λj=>JR (QN bx j)))(hs:RdK w As B.length 1 (yx B Us us))(hp:∀j,j<B.length->SlV lo 3 VT w (Qu B j) (Ω (Us j) (Qu B j).length (us j)))(hc:RdK w Ac q.length 6 (be q Ua Uc))(hq:(RdK w Y l1.length 2 (λi=>Zn (l1.getD i XM))/\(Y=none->l1.length=0/\kp=0)))(hu:(RdK w V l2.length 2 (λi=>Zn (l2.getD i XM))/\(V=none->l2.length=0/\kr=0)))(hx:∀x,x∈C4 l1 l2 q Ua Uc->RdK w x.2.1 x.1.ts.length 4 (λj=>QK (Qb x.1.ts j))):RetAt prog w 38 #[tA δ vars Ab bx.length cb As B.length cs Y l1.length kp V l2.length kr ν ε ζ Ac q.length cc] (Ξ (ZZ vars l2.length q.length ζ (XQ t.length (λj=>J1 (List.getD t j nm0))) (XQ a.length (λj=>!ZQ (gP a j).1)))):=by
 have bd:t.length<=1099514773506:=by rw[ag];exact Qbd L
 have ao:a.length=l1.length+l2.length+q.length:=by rw[M];exact sN l1 l2 q Ua Uc
 exact let P:OB:=some (35,(tS δ vars Ab bx.length cb As B.length cs Y l1.length kp V l2.length kr ν ε ζ Ac q.length cc));have R:=eB (ZZ vars l2.length q.length ζ (XQ t.length (λj=>J1 (List.getD t j nm0))) (XQ a.length (λj=>!ZQ (gP a j).1)));rk [.gb 1 4 [.gb 1 10 [.gb 1 16 [.both [] [x09 3 1 [] (λ(v:Hp)=>(Ω v.1 t.length v.2,Qc 32 3 Xk t v.1 v.2,[P5 (λ(H:Nat)=>(⟨113,[(1,.ptr 0 0),(2,bV false),(3,lV v.1 (t).length v.2),(4,iV (H:Int))],[none],[none]⟩:St)) t.length (λj=>J1 (List.getD t j nm0)) (λ(H:Nat)=>[.both [x06 7 2 [0] (.pointer (some (Q5 v.1 (H*3+0)))),x06 7 3 [0] (nA (List.getD t H nm0)),x04 7 4 (bV (J1 (List.getD t H nm0))),.both [] [x05 6 1 (iV ((H+1:Nat):Int)),.next 0]] [.reg 6 [],.o 9 3 (.nb (.han 4) (λ(y:Hp)=>Ω y.1 (l1).length y.2) (λ(y:Hp)=>Zx 47 2 Zn l1 y.1 y.2)),.opn 9 6 4 (λ(T:Hp)=>Ω T.1 (l1).length T.2) (λ(T:Hp)=>Zx 47 2 Zn l1 T.1 T.2) (λ(T:Hp)=>[x08 9 6 4 (λ(G:Hp)=>(Ω G.1 (l1++l2).length G.2,Zx 47 2 Zn (l1++l2) G.1 G.2,[YE (λ(q1:Nat×Hp)=>(⟨113,[(1,.ptr 0 0),(2,bV false),(5,lV q1.2.1 ((l1++l2)++(K0 q Ua Uc).take q1.1).length q1.2.2),(6,iV (q1.1:Int))],[none],[none,none,none,none,some (Zx 47 2 Zn ((l1++l2)++(K0 q Ua Uc).take q1.1) q1.2.1 q1.2.2),none,none]⟩:St)) q.length ((0,G):Nat×Hp) (λ(q1:Nat×Hp)=>[.both [x03 13 4 (.pointer (some (Q5 Ac (q1.1*6+0)))),x03 13 5 (.pointer (some (Q5 Ac (q1.1*6+4)))),x03 13 6 (.agg #[Θ ((Qn q q1.1).sum.vars),Ω (Ua q1.1) (Qn q q1.1).sum.ts.length (Uc q1.1)]),x08 13 8 4 (λ(K:Hp)=>(Ω K.1 ((l1++l2)++(K0 q Ua Uc).take (q1.1+1)).length K.2,Zx 47 2 Zn ((l1++l2)++(K0 q Ua Uc).take (q1.1+1)) K.1 K.2,[x05 12 1 (iV ((q1.1+1:Nat):Int)),.nxt [K]]))] [x0a (0:Nat) (λ(p:Nat) (u:List Hp)=>p+1) (λ(p:Nat)=>((⟨113,[(1,.ptr 0 0),(2,bV false),(5,lV q1.2.1 (a).length q1.2.2),(7,iV (p:Int))],[none],[none,none,none,none,some (Zx 47 2 Zn a q1.2.1 q1.2.2),none,none]⟩:St),(p<=a.length/\∀j,j<p->(!ZQ (gP a j).1)=false),(a.length-p),[.both [x06 17 2 [4] (.pointer (some (Q5 q1.2.1 (p*2+0)))),x03 17 3 (.pointer (some (Q5 q1.2.1 (p*2+1)))),x06 17 4 [4] (Ω (gP a p).2.1 (gP a p).1.ts.length (gP a p).2.2),.both [] [P5 (λ(r:Nat)=>(⟨113,[(1,.ptr 0 0),(2,bV false),(5,lV q1.2.1 (a).length q1.2.2),(7,iV (p:Int)),(8,iV (r:Int))],[none],[none,none,none,none,none,none,none]⟩:St)) ((gP a p).1.ts.length) (λj=>J1 (Qb (gP a p).1.ts j).c||XQ (Qb (gP a p).1.ts j).m.size λi=>decide (((bt (Qb (gP a p).1.ts j).m i:Nat):Int)>6)) (λ(r:Nat)=>[x06 20 3 [4] (.pointer (some (Q5 q1.2.1 (p*2+0)))),x03 20 4 (.pointer (some (Q5 q1.2.1 (p*2+1)))),x06 20 5 [4] (Ω (gP a p).2.1 (gP a p).1.ts.length (gP a p).2.2),.both [x06 22 2 [4] (.pointer (some (Q5 q1.2.1 (p*2+0)))),x03 22 3 (.pointer (some (Q5 q1.2.1 (p*2+1)))),x06 22 4 [4] (Ω (gP a p).2.1 (gP a p).1.ts.length (gP a p).2.2),x03 22 6 (.pointer (some (Q5 (gP a p).2.1 (r*4+0)))),x03 22 7 (.agg #[Ψ ((Qb (gP a p).1.ts r).m),Ξ ((Qb (gP a p).1.ts r).c.b),Ψ ((Qb (gP a p).1.ts r).c.s),Θ ((Qb (gP a p).1.ts r).c.e)]),x04 23 2 (bV (J1 (Qb (gP a p).1.ts r).c)),.both [] [P5 (λ(N:Nat)=>(⟨113,[(1,.ptr 0 0),(2,bV false),(5,lV q1.2.1 (a).length q1.2.2),(7,iV (p:Int)),(8,iV (r:Int)),(9,.ptr 1 0),(10,iV (N:Int))],[none,none],[none,none,none,none,none,none,none]⟩:St)) ((Qb (gP a p).1.ts r).m.size) (λi=>decide (((bt (Qb (gP a p).1.ts r).m i:Nat):Int)>6)) (λ(N:Nat)=>[.both [x03 28 3 (.int .u8 (bt (Qb (gP a p).1.ts r).m N:Int)),.both [] [x05 27 1 (iV ((N+1:Nat):Int)),.next 0]] [x05 21 1 (iV ((r+1:Nat):Int)),.next 0]])]] [x05 16 1 (iV ((p+1:Nat):Int)),.nxt []]])]] []]))]])]))])]])]))]] []] []] []] λW Z hR=>have HB:=hb.up Z (λ_=>rfl);have HS:=hs.up Z (λ_=>rfl);(λ(HP:∀j,j<B.length->SlV lo 3 VT W (Qu B j) (Ω (Us j) (Qu B j).length (us j)))=>have HC:=hc.up Z (λ_=>rfl);(λ(HQ:(RdK W Y l1.length 2 (λi=>Zn (l1.getD i XM))/\(Y=none->l1.length=0/\kp=0)))=>(λ(HU:(RdK W V l2.length 2 (λi=>Zn (l2.getD i XM))/\(V=none->l2.length=0/\kr=0)))=>(λ(HX:∀x,x∈C4 l1 l2 q Ua Uc->RdK W x.2.1 x.1.ts.length 4 (λj=>QK (Qb x.1.ts j)))=>ZD (decide (vars>4)) false (λQ=>ZD (decide ((l2.length:Int)>4)) false (λU=>ZD (decide ((q.length:Int)>64)) false (λX=>Xi (decide (ζ>512)) (λg4=>(R false (by unfold ZZ Cq;rw[Q,U,X,g4];rfl))) λg4=>ai (by have h:=pU lo cb cs cc (λj=>Ω (Us j) (Qu B j).length (us j)) (λj=>Ω (Ua j) (Qn q j).sum.ts.length (Uc j)) ν ε δ vars ζ Y V l1.length kp l2.length kr L W HB HS HP HC;rw[<- ag]at h;exact h) λ(v:Hp)=>KJ (qB false) (qV (Ω v.1 (t).length v.2)) (qI ((0:Nat):Int)) (qk P) (XR (Qc 32 3 Xk t v.1 v.2))<|ai (c0 t.length (λj=>J1 (List.getD t j nm0))) λ(H:Nat) (O:cQ t.length (λj=>J1 (List.getD t j nm0)) H)=>Xi (decide ((H:Int)<(((t).length:Nat):Int))) (λC=>Ja (Jl W 32 3 Xk t v.1 v.2 Xx nm0 (λE I=>Gi v.2 E I H (Qt C))) (Jl W 32 3 Xk t v.1 v.2 Xx nm0 (λE I=>JW I H 0 (Qt C) x4 rfl rfl (w0:=E))) (cJ (List.getD t H nm0) W)<|Xi (J1 (List.getD t H nm0)) (λz4=>(R false (by unfold ZZ Cq;rw[Q,U,X,g4,ZG (f:=λj=>J1 (List.getD t j nm0)) (Qt C) z4];rfl))) λz4=>Vv (QD H (xF (Qt C) bd)) (qB false) (qV (Ω v.1 (t).length v.2)) (qI (((H+1):Nat):Int)) (qk P) (XR (Qc 32 3 Xk t v.1 v.2))<|ai (cS O (Qt C) z4) (Oe (Qt C))) λC=>X0 (λ(E:xH) (ad:Below W.heap.size W E) (g:Nat) (_:Bx E g 47 #[])=>sP 28 Zn l1 Xg Zb EL (show l1.length*32<=140737488355328 from x3) (GM Zb x4 XM (HQ.1.below (λ_=>rfl) ad) HQ.2) g) (show ∀y:Hp,(Ω y.1 (l1).length y.2:y9).oneCell'=true from λ_=>rfl)<|ai (show qg (HW (λ(y:Hp)=>Ω y.1 (l1).length y.2) (λ(y:Hp)=>Zx 47 2 Zn l1 y.1 y.2)) (λ(y:Hp)=>Ω y.1 (l1).length y.2) (λ(y:Hp)=>Zx 47 2 Zn l1 y.1 y.2)from Aw λy x x' S w hx h=>l5 hx h) λ(T:Hp)=>ai (tm W 28 Zn l1 l2 (l1++l2) T.1 T.2 (Ω V l2.length kr) Xg Zb EL rfl (show(l1++l2).length*32<=140737488355328 from by rw[La];omega) (λE ad=>GM Zb x4 XM (HU.1.below (λ_=>rfl) ad) HU.2)) λ(G:Hp)=>Vv (qB false) (show(Ω G.1 (l1++l2).length G.2:y9)=(Ω G.1 ((l1++l2)++(K0 q Ua Uc).take 0).length G.2)from x6) (qI ((0:Nat):Int)) (qk P) (XR (Qc 32 3 Xk t v.1 v.2)) (Yq (Zx 47 2 Zn (l1++l2) G.1 G.2) (Zx 47 2 Zn ((l1++l2)++(K0 q Ua Uc).take 0) G.1 G.2) λ_ _ _ h=>IU x6 h)<|ai (show 0<=q.length from L7 _) λ(q1:Nat×Hp) (bm:(q1.1<=q.length))=>Xi (decide ((q1.1:Int)<(q.length:Int))) (λF=>Ja (J4 cc HC q1.1 (Qt F)) (jN W Ac 6 q1.1 0) (D8 HC q1.1 4 (Qt F) x4 rfl rfl)<|ai (tn W 28 47 1 1 Zn ((l1++l2)++(K0 q Ua Uc).take q1.1) ([((Qn q q1.1).sum,Ua q1.1,Uc q1.1)]) ((l1++l2)++(K0 q Ua Uc).take (q1.1+1)) q1.2.1 q1.2.2 ([Θ ((Qn q q1.1).sum.vars),Ω (Ua q1.1) (Qn q q1.1).sum.ts.length (Uc q1.1)]) Xg Zb EL (QbR (Qt F)) (show((l1++l2)++(K0 q Ua Uc).take (q1.1+1)).length*32<=140737488355328 from xF (Qb0 l1 l2 q Ua Uc (q1.1+1)) L.hc) rfl rfl) λ(K:Hp)=>GL (QD q1.1 (xF (Qt F) L.hc)) (qB false) (qV (Ω K.1 ((l1++l2)++(K0 q Ua Uc).take (q1.1+1)).length K.2)) (qI (((q1.1+1):Nat):Int)) (qk P) (XR (Qc 32 3 Xk t v.1 v.2)) (Yq (Zx 47 2 Zn ((l1++l2)++(K0 q Ua Uc).take (q1.1+1)) K.1 K.2) (Zx 47 2 Zn ((l1++l2)++(K0 q Ua Uc).take (q1.1+1)) K.1 K.2) λ_ _ _ h=>h)<|ai (show q1.1+1<=q.length from Qt F) (show q.length-(q1.1+1)<q.length-q1.1 from x8 (Qt F))) λF=>Vv (qB false) (show(Ω q1.2.1 ((l1++l2)++(K0 q Ua Uc).take q1.1).length q1.2.2:y9)=(Ω q1.2.1 (a).length q1.2.2)from(by rw[show((l1++l2)++(K0 q Ua Uc).take q1.1)=a from(iF (geq F)).trans M.symm])) (qI ((0:Nat):Int)) (qk P) (XR (Qc 32 3 Xk t v.1 v.2)) (Yq (Zx 47 2 Zn ((l1++l2)++(K0 q Ua Uc).take q1.1) q1.2.1 q1.2.2) (Zx 47 2 Zn a q1.2.1 q1.2.2) λ_ _ _ h=>IU (show((l1++l2)++(K0 q Ua Uc).take q1.1)=a from(iF (geq F)).trans M.symm) h)<|ai (show(0<=a.length/\∀j,j<0->(!ZQ (gP a j).1)=false)from⟨L7 _,λj hj=>absurd hj (R4 _)⟩) λ(p:Nat) (aw:(p<=a.length/\∀j,j<p->(!ZQ (gP a j).1)=false))=>Xi (decide ((p:Int)<(((a).length:Nat):Int))) (λz=>have n:=Ff W 47 2 Zn Zb a XM q1.2.1 q1.2.2 (λE I=>Ev E I p 1 (Qt z) x4 rfl);have A:=Ff W 47 2 Zn Zb a XM q1.2.1 q1.2.2 (λE I=>J5 q1.2.2 I p (Qt z) (w0:=E));Ja A (AM W q1.2.1 2 p 0) n<|Xi (decide ((((gP a p).1.ts.length:Nat):Int)>40)) (λz5=>(R false (by unfold ZZ Cq;rw[Q,U,X,g4,G6 (λj=>J1 (List.getD t j nm0)) C O.2,ZG (f:=λj=>!ZQ (gP a j).1) (Qt z) (by show(!ZQ _)=true;unfold ZQ;rw[z5];rfl)];rfl))) λz5=>GL (qB false) (qV (Ω q1.2.1 (a).length q1.2.2)) (qI (p:Int)) (qI ((0:Nat):Int)) (qk P) (XR (Qc 32 3 Xk t v.1 v.2)) (XR (Zx 47 2 Zn a q1.2.1 q1.2.2))<|ai (c0 ((gP a p).1.ts.length) (λj=>J1 (Qb (gP a p).1.ts j).c||XQ (Qb (gP a p).1.ts j).m.size λi=>decide (((bt (Qb (gP a p).1.ts j).m i:Nat):Int)>6))) λ(r:Nat) (aB:cQ ((gP a p).1.ts.length) (λj=>J1 (Qb (gP a p).1.ts j).c||XQ (Qb (gP a p).1.ts j).m.size λi=>decide (((bt (Qb (gP a p).1.ts j).m i:Nat):Int)>6)) r)=>Ja A (AM W q1.2.1 2 p 0) n<|Xi (decide ((r:Int)<(((gP a p).1.ts.length:Nat):Int))) (λD=>Vv A (AM W q1.2.1 2 p 0) n (Y0 ((gP a p).2.2) (HX _ (by rw[<- M];exact Fq (Qt z))) r (Qt D)) (ZE (HX _ (by rw[<- M];exact Fq (Qt z))) r 0 (Qt D) x4 rfl rfl) (cJ ((Qb (gP a p).1.ts r).c) W)<|Xi (J1 (Qb (gP a p).1.ts r).c) (λz6=>(R false (by unfold ZZ Cq;rw[Q,U,X,g4,G6 (λj=>J1 (List.getD t j nm0)) C O.2,ZG (f:=λj=>!ZQ (gP a j).1) (Qt z) (by show(!ZQ _)=true;unfold ZQ;rw[z5,ZG (f:=(λj=>J1 (Qb (gP a p).1.ts j).c||XQ (Qb (gP a p).1.ts j).m.size λi=>decide (((bt (Qb (gP a p).1.ts j).m i:Nat):Int)>6))) (Qt D) (by show(J1 _||_)=true;rw[z6];rfl)];rfl)];rfl))) λz6=>have l:=qk (some (51,[sV ((Qb (gP a p).1.ts r).m),bV ((Qb (gP a p).1.ts r).c.b),sV ((Qb (gP a p).1.ts r).c.s),iV ((Qb (gP a p).1.ts r).c.e)]));Yx (qB false) (qV (Ω q1.2.1 (a).length q1.2.2)) (qI (p:Int)) (qI (r:Int)) (qI ((0:Nat):Int)) (qk P) l (XR (Qc 32 3 Xk t v.1 v.2))<|ai (XR (Zx 47 2 Zn a q1.2.1 q1.2.2))<|ai (c0 ((Qb (gP a p).1.ts r).m.size) (λi=>decide (((bt (Qb (gP a p).1.ts r).m i:Nat):Int)>6))) λ(N:Nat) (bc:cQ ((Qb (gP a p).1.ts r).m.size) (λi=>decide (((bt (Qb (gP a p).1.ts r).m i:Nat):Int)>6)) N)=>Xi (decide ((N:Int)<(((Qb (gP a p).1.ts r).m).size:Int))) (λJ=>ai (bz W (Qb (gP a p).1.ts r).m N (Qt J))<|Xi (decide ((bt (Qb (gP a p).1.ts r).m N:Int)>6)) (λz8=>(R false (by unfold ZZ Cq;rw[Q,U,X,g4,G6 (λj=>J1 (List.getD t j nm0)) C O.2,ZG (f:=λj=>!ZQ (gP a j).1) (Qt z) (by show(!ZQ _)=true;unfold ZQ;rw[z5,ZG (f:=(λj=>J1 (Qb (gP a p).1.ts j).c||XQ (Qb (gP a p).1.ts j).m.size λi=>decide (((bt (Qb (gP a p).1.ts j).m i:Nat):Int)>6))) (Qt D) (by show(J1 _||_)=true;rw[z6,ZG (f:=(λi=>decide (((bt (Qb (gP a p).1.ts r).m i:Nat):Int)>6))) (Qt J) z8];rfl)];rfl)];rfl))) λz8=>Yx (QD N (xF (Qt J) (((hP (gP a p) (Fq (Qt z))).tms _ (Yh (Qt D))).1))) (qB false) (qV (Ω q1.2.1 (a).length q1.2.2)) (qI (p:Int)) (qI (r:Int)) (qI (((N+1):Nat):Int)) (qk P) l<|X0 (XR (Qc 32 3 Xk t v.1 v.2)) (XR (Zx 47 2 Zn a q1.2.1 q1.2.2))<|ai (cS bc (Qt J) z8) (Oe (Qt J))) λJ=>Yx (QD r (xF (Qt D) ((hP (gP a p) (Fq (Qt z))).len))) (qB false) (qV (Ω q1.2.1 (a).length q1.2.2)) (qI (p:Int)) (qI (((r+1):Nat):Int)) (qk P) (XR (Qc 32 3 Xk t v.1 v.2)) (XR (Zx 47 2 Zn a q1.2.1 q1.2.2))<|ai (cS aB (Qt D) (by show(J1 _||_)=false;rw[z6,G6 (λi=>decide (((bt (Qb (gP a p).1.ts r).m i:Nat):Int)>6)) J bc.2];rfl)) (Oe (Qt D))) λD=>GL (QD p (by have:=Qt z;have:=ao;have:=L.hc;omega)) (qB false) (qV (Ω q1.2.1 (a).length q1.2.2)) (qI (((p+1):Nat):Int)) (qk P) (XR (Qc 32 3 Xk t v.1 v.2)) (XR (Zx 47 2 Zn a q1.2.1 q1.2.2))<|ai (show((p+1)<=a.length/\∀j,j<(p+1)->(!ZQ (gP a j).1)=false)from⟨Qt z,jY (λj=>!ZQ (gP a j).1) aw.2 (by show(!ZQ _)=false;unfold ZQ;rw[z5,G6 (λj=>J1 (Qb (gP a p).1.ts j).c||XQ (Qb (gP a p).1.ts j).m.size λi=>decide (((bt (Qb (gP a p).1.ts j).m i:Nat):Int)>6)) D aB.2];rfl)⟩) (show a.length-(p+1)<a.length-p from x8 (Qt z))) λz=>(R true (by unfold ZZ Cq;rw[Q,U,X,g4,G6 (λj=>J1 (List.getD t j nm0)) C O.2,G6 (λj=>!ZQ (gP a j).1) z aw.2];rfl))) λX=>(R false (by unfold ZZ Cq;rw[Q,U,X];rfl))) λU=>(R false (by unfold ZZ Cq;rw[Q,U];rfl))) λQ=>(R false (by unfold ZZ Cq;rw[Q];rfl))) (λx bi=>(hx x bi).below (λ_=>rfl) Z)) (⟨hu.1.below (λ_=>rfl) Z,hu.2⟩)) (⟨hq.1.below (λ_=>rfl) Z,hq.2⟩)) (λj hj=>(hp j hj).below YH Z)
def lB{n:Nat}{b:Bool}(h:decide ((n:Int)>0)=b):((n:Int)==0)=!b:=by
 rw[<- h,V8];simp
def ba{d:xN}{k l m:y9}(o i:Bool)(t:Int)(x:PV)(p:x.box.length<=4294967296)(n:∀s,s∈x.box->okN s.1/\okN s.2)(w:xH)(q:RdK w d x.box.length 6 (λj=>JR (QN x.box j)))(r:∀W,Below w.heap.size w W->RetAt prog W 37 #[yA x (Ω d x.box.length e) f k l m] (Ξ o))(u:∀W,Below w.heap.size w W->(!o)=false->RetAt prog W 38 #[yA x (Ω d x.box.length e) f k l m] (Ξ i))(v:∀W,Below w.heap.size w W->(!o)=false->(!i)=false->((x.box.length:Int)==0)=true->RetAt prog W 40 #[f] (Θ t)):RetAt prog w 18 #[yA x (Ω d x.box.length e) f k l m] (Θ (Hs o i x.box.length t (Xc x.box))) :=
 rk [x04 1 1 (bV o),.both [] [x04 3 1 (bV i),.both [] [.both [x04 6 3 (iV (Xc x.box))] [x04 7 3 (iV t)]]]] λW g z=>have y:=q.up g (λ_=>rfl);ai (r W g)<|Xi (!o) (λa=>(show(Θ 1:y9)=Θ (Hs o i x.box.length t (Xc x.box))from by unfold Hs;rw[a];rfl)) λa=>ai (u W g a)<|Xi (!i) (λb=>(show(Θ 3:y9)=Θ (Hs o i x.box.length t (Xc x.box))from by unfold Hs;rw[a,b];rfl)) λb=>Xi (decide ((x.box.length:Int)>0)) (λh=>ai (iO (c:=e) p n W y)<|(show(Θ (Xc x.box):y9)=Θ (Hs o i x.box.length t (Xc x.box))from by unfold Hs;rw[a,b,lB h];rfl)) λh=>ai (v W g a b (lB h))<|(show(Θ t:y9)=Θ (Hs o i x.box.length t (Xc x.box))from by unfold Hs;rw[a,b,lB h];rfl)
def N3{l:List QQ}{f:Py->Bool}:XQ l.length (λj=>f (gP l j).1)=(l.map λx:QQ=>x.1).any f:=by
 rw[List.any_map];exact K5 (f:=λp:QQ=>f p.1)
def aZ(x:PV){E F G H I:y9}(h:okX x)(w:xH)(J:Five g w x E F G H I):RetAt prog w 18 #[yA x E F G H I] (.int .i64 (chkN x)):=by
 obtain⟨U,V,Y,Z,Ac,K,cs,L,M,O,Us,m,n,r,us,up,u,v,rfl,rfl,rfl,rfl,rfl,a⟩:=Fo J;have e:=TG (x:=x) (Up:=m) (Ur:=n) (Uc:=r) (up:=up) (ur:=u) (uc:=v);have P:∀y,y∈C4 (BJ x.ps m up) (BJ x.θ n u) x.ι r v->okP y.1:=λy z=>ze h _ (by rw[<- e];exact Lv.2 ⟨y,z,rfl⟩)
 refine ba (Bh x) (JP x) (eE x.κ x.vars.toNat) x (L6 h.o.l0.hb x4) (λs j=>⟨h.o.nums _ (VH j).1,h.o.nums _ (VH j).2⟩) w a.b ?_ ?_ ?_
 ·intro W l;have a:=a.below l;have k:=dU g K cs O L M r v x.ν x.ε x.δ x.vars x.ζ (BJ x.ps m up) (BJ x.θ n u) rfl h.o.l0 (by rw[JM];exact h.o.np) (by rw[JM];exact h.o.nr) (λy z=>P y (V6 _ z)) h.o.okc h.o.nums W a.b a.s a.sp a.c a.q1 a.r1 a.X;rw[N3 (f:=Yo x.vars),Rv,ic,ic,K5 (d:=nm0) (f:=λx=>!Ks x),JM,JM,WT (L6 h.o.l0.hs x4) h.o.hv.2]at k;exact k
 ·intro W l _;have a:=a.below l;have k:=Ts g K cs O L M r v x.ν x.ε x.δ x.vars x.ζ (BJ x.ps m up) (BJ x.θ n u) rfl h.o.l0 (by rw[JM];exact h.o.np) (by rw[JM];exact h.o.nr) rfl P W a.b a.s a.sp a.c a.q1 a.r1 a.X;rw[N3 (f:=λp=>!ZQ p),e,K5 (d:=nm0) (f:=J1),JM,JM,Wl]at k;exact k
 ·intro W l A Q R;have A:Bh x=true:=l3 A;let⟨N,hv,B,C,D⟩:=dO A (l3 R);have h4:=lj (x:=x) (l3 Q);have k:=Nj (lo:=g) C D (λp S q T=>eT (x:=x) (l3 Q) (It S T)) B x3 W (J.s.below (pG g) l);rw[show N=x.vars.toNat by omega]at k;exact k
def iY{n:Nat}{x:PV}{e g i l:y9}(o:chkN x=0)(w:xH)(h:Five n w x e f g i l):RetAt prog w 19 #[sF x e f g i l] (.string ⟨(VP x).toArray⟩):=by
 let⟨v,V,m⟩:=Pu o;obtain⟨C,D,E,F,G,p,cs,t,u,y,H,I,J,K,z,up,A,B,rfl,rfl,rfl,rfl,rfl,a⟩:=Fo h;have k:=ff p cs t u y z up A B m w a.b a.s (λj d=>QaQ (a.sp j d)) a.q (λj d=>O8 (a.qs j d)) a.r (λj d=>O8 (a.rs j d)) a.c (λj d=>O8 (a.cn j d));rw[Int.toNat_of_nonneg (x8 m.k)]at k;exact k
def eU{i:Nat}{x:PV}{d e g h:y9}(j:okX x)(w:xH)(b:Five i w x d e f g h):RetAt prog w 8 #[yA x d e f g h] (.tuple #[Ψ (prnP x).1,Θ (prnP x).2]) :=
 rk [x04 1 1 (iV (chkN x)),.both [] [x04 4 1 (sV (xl x)),.both [] []]] λW k l=>have b:=b.below k;ai (aZ x j W b)<|Xi ((chkN x) != 0) (λa=>(show(.tuple #[x00,Θ (chkN x)]:y9)=.tuple #[Ψ (prnP x).1,Θ (prnP x).2]from by unfold prnP;simp only[a,cond_true,cond_false];try rfl)) λa=>ai (iY (show chkN x=0 from l3 a) W b)<|Xi (decide (((xl x).size:Int)>65536)) (λc=>(show(.tuple #[x00,Θ 3]:y9)=.tuple #[Ψ (prnP x).1,Θ (prnP x).2]from by unfold prnP;simp only[a,show decide (((VP x).length:Int)>65536)=true from rR x▸c,cond_true,cond_false];try rfl)) λc=>(show(.tuple #[Ψ (xl x),Θ 0]:y9)=.tuple #[Ψ (prnP x).1,Θ (prnP x).2]from by unfold prnP;simp only[a,show decide (((VP x).length:Int)>65536)=false from rR x▸c,cond_true,cond_false];try rfl)
structure χ.Is (s:χ) (M:Res):Prop where
 ok:∀(x:Value) (S:Nat->Prop) (w:World),M.φ x S w->s.ok w
 ca:s.ls.length<=s.c0
 na:0<s.ls.length->∃b o,s.A0=some ⟨b,o,none⟩
variable{s:χ}{M:Res}
def χ.Is.nx(h:s.Is M):s.nx.Is M:=⟨λx S w a=>(h.ok x S w a).nx,h.ca,h.na⟩
def χ.Is.ln(h:s.Is M)(a:0<s.ls.length):s.ln.Is M:=⟨λx S w c=>(h.ok x S w c).ln a,(by show(s.ls.drop 1).length<=s.c0-1;rw[Lf];have:=h.ca;omega),λ_=>by
 let⟨b,o,e⟩:=h.na a;exact⟨b,_,(show CX s.A0 s.c0 2=some _ by rw[e];rfl)⟩⟩
def BC{a:xH}{A:xN}{n:Nat}{f:Nat->o3}(h:RdK w A n k f)(d:0<n->∀b o,A=some ⟨b,o,none⟩->a.heap[b]?=w.heap[b]?):RdK a A n k f:=λc=>by
 let⟨b,o,e,g⟩:=h c;exact⟨b,o,e,λj l i m=>by rw[<- g j l i m];unfold World.cell?;rw[show a.heap[b]?=w.heap[b]? from d c b o e]⟩
structure LnAK where
 A0:Option Addr
 c0:Nat
 Al:Nat->Option Addr
 cl:Nat->Nat
def Jt(l:List UInt8)(y:LnAK):χ:=⟨y.A0,y.c0,Qo (Qi l) 0,y.Al,y.cl,none,0,[],0,(l.length:Int)⟩
def ZK(s:χ):Res where
 φ x S w:=x.oneCell'=true/\s.ok w/\(∀b o,s.A0=some ⟨b,o,none⟩->0<s.ls.length->S b)/\(∀j b o,j<s.ls.length->0<(Xv s.ls j).l.length->s.Al j=some ⟨b,o,none⟩->S b)/\s.l=[]
 one _ _ _ h:=h.1
 loc x S w w' h hφ:=by
  let⟨k,a,d,f,g⟩:=hφ;exact⟨k,⟨a.h0,BC a.r0 λc b o e=>h b (d b o e c),a.hl,λj i=>BC (a.rl j i) λc b o e=>h b (f j b o i c e),a.hc,BC a.rd λc=>by rw[g]at c;exact absurd c (T4 _)⟩,d,f,g⟩
def Bi{n c:Nat}{A:xN}{d:o3}(h:w.ownsRow 0 e k (.slice A n c) n d):n<=c/\(0<n->∃b,A=some ⟨b,0,none⟩/\(Value.slice A n c).ownBlock=some b):=by
 rcases h.2 with⟨a,f⟩|⟨g,cap,i,a,_,_,j,_⟩
 ·exact⟨x3,λh=>x3⟩
 ·injection a with a f l
  subst a l;exact⟨j,λ_=>⟨g,rfl,rfl⟩⟩
def gQ{L:List Ln}{A:xN}{c:Nat}{x:y9}(s:(Qx 72 2 L.length (VF L) A c).φ x S w):∃(Al:Nat->xN) (cl:Nat->Nat),(L.length<=c/\(0<L.length->∃b o,A=some ⟨b,o,none⟩))/\∀t,(ZK ⟨A,c,L,Al,cl,none,0,[],0,t⟩).φ x S w:=by
 let⟨f,M,m,z,B,C⟩:=PP s;let⟨D,N,O,_,n,_,_,E⟩:=(show _/\_ from s)
 let⟨u,v⟩:=Bi n;have key:∀i,∃p:xN×Nat,i<L.length->f i=[.slice p.1 (Xv L i).l.length p.2,.int .i64 (Xv L i).e]/\(Xv L i).l.length<=p.2/\RdK w p.1 (Xv L i).l.length 2 (λj=>G5 (Qg (Xv L i).l j))/\∀b o,0<(Xv L i).l.length->p.1=some ⟨b,o,none⟩->S b:=λi=>by
  by_cases y:i<L.length
  ·let⟨F,G,P,k1,H,d⟩:=B i y;refine⟨(F,G),λ_=>⟨H,?_,l6 Cj Ub d,λb o m e=>?_⟩⟩
   ·rcases(show _\/_ from d)with d|⟨_,g,Q,_⟩
    ·exact(Bi (show _/\_/\_ from d).2.1).1
    ·have g:(Xv L i).l=[]:=g;rw[g];exact L7 _
   ·rcases(show _\/_ from d)with d|⟨_,g,_⟩
    ·let⟨_,I,J⟩:=(show _/\_/\_ from d)
     let⟨K,q,r⟩:=(Bi I).2 m;have a:=q.symm.trans e;injection a with a
     injection a with a
     subst a;exact(C _ (k1 _ ((J _).2 r))).1
    ·have g:(Xv L i).l=[]:=g;rw[g]at m;exact absurd m (T4 _)
  ·exact⟨(none,0),λh=>absurd h y⟩
 refine⟨λi=>(Classical.choose (key i)).1,λi=>(Classical.choose (key i)).2,⟨u,λh=>(v h).imp λb h=>⟨0,h.1⟩⟩,λt=>⟨D,⟨u,z.congr λj k=>(Lq (key j) k).1,λj k=>(Lq (key j) k).2.1,λj k=>(Lq (key j) k).2.2.1,L4 _,λh=>absurd h (T4 _)⟩,λb o e h=>?_,λj b o k m e=>(Lq (key j) k).2.2.2 b o m e,rfl⟩⟩;let⟨K,q,r⟩:=v h;have a:=q.symm.trans e;injection a with a
 injection a with a
 subst a;exact(E _).2 (.inl r)
abbrev J3(l:List UInt8):Type:={y:LnAK // (Qo (Qi l) 0).length<=y.c0/\(0<(Qo (Qi l) 0).length->∃b o,y.A0=some ⟨b,o,none⟩)}
def Ik{t0:xM}(a:t0.size<=65536)(w:xH):NewIn prog w [] 24 #[.string t0] (λy:J3 t0.data.toList=>.slice y.1.A0 (Qo (Qi t0.data.toList) 0).length y.1.c0) (λy=>ZK (Jt t0.data.toList y.1)):=by
 let⟨b,h⟩:=ux a w;refine⟨b,λW c=>(show Calls _ _ _ _ _ from h W c).mono λe k d=>?_⟩;obtain⟨y,x,S,rfl,f,g,i⟩:=d;let⟨Al,cl,k1,j⟩:=gQ f;exact⟨⟨⟨y.1,y.2,Al,cl⟩,k1⟩,x,S,rfl,j _,g,i⟩
def jC(y:J3 l):(Jt l y.1).Is (ZK (Jt l y.1)):=⟨λ_ _ _ h=>h.2.1,y.2.1,y.2.2⟩
theorem bM(p:Addr)(w:World):CallsD prog 47 #[.pointer (some p)] .returning w λe b c=>e=.returned (.tuple #[])/\b=.returning/\c=w:=by
 have a:∀w,(binOp .neq 20 .nilIface .nilIface).run prog w=.ok (.bool false) w:=λ_=>x5
 refine callsD_of_wpS func47 rfl λd cs hu=>?_
 apply wpS_seq;apply wpS_region;simp[wpOpsS,go_sem,recoverD,hu,ntmps47,Exit.thenS];apply wpS_seq;apply wpS_region;simp[wpOpsS,go_sem,a,Exit.thenS];refine wpS_cond (t:=false) (by simp[Act.eval,Array.replicate]) ?_
 simp only[Tv,if_false];refine wpS_of_wp (wp_skip ?_);cases d;simp_all [bodyPostS,results,results47]
def Tq(p:Addr)(x z:Int)(w:World)(c:w.cell? p=some (.int .i64 x))(d:w.frozen? p=false):
  CallsD prog 47 #[.pointer (some p)] (.panicking [{ v:=BI z,recovered:=false }]) w λe f g=>e=.returned (.tuple #[])/\f=.panicking [{ v:=BI z,recovered:=true }]/\g=w.setCell p (.int .i64 z):=by
 have a:∀w,(binOp .neq 20 (BI z) .nilIface).run prog w=.ok (.bool true) w:=λ_=>x5
 have b:∀w,(Instr.typeAssert (BI z) 20 103 true).run prog w=.ok (.tuple #[.int .i64 z,.bool true]) w:=λ_=>x5
 refine callsD_of_wpS func47 rfl λi cs hu=>?_
 apply wpS_seq;apply wpS_region;simp[wpOpsS,go_sem,recoverD,hu,ntmps47,Exit.thenS];apply wpS_seq;apply wpS_region;simp[wpOpsS,go_sem,a,Exit.thenS];refine wpS_cond (t:=true) (by simp[Act.eval,Act.put,Array.replicate]) ?_
 simp only[if_true];apply wpS_seq;apply wpS_region;simp[wpOpsS,go_sem,b,Exit.thenS];apply wpS_seq;apply wpS_seq;apply wpS_region;simp[wpOpsS,go_sem,Exit.thenS];refine wpS_cond (t:=false) (by simp[Act.eval,Act.put,Array.replicate]) ?_
 simp only[Tv,if_false];refine wpS_of_wp (wp_skip ?_);simp only[Exit.thenS];apply wpS_region;simp[wpOpsS,go_sem,c,d,bodyPostS,results,results47]
def DN{R0:Res}{R:β->Res}{Z:Int->Prop}{w0:World}(C:B8 prog w0 R0 48 #[.pointer (some ⟨g,0,none⟩)] (λ_:β=>.tuple #[]) R λv=>∃z,v=BI z/\Z z):B8 prog w0 R0 25 #[.pointer (some ⟨g,0,none⟩)] (λy:β ⊕ {z:Int // Z z}=>.int .i64 (y.elim (λ_=>-1) (·.1))) (λy=>y.elim R λ_=>ZI) (λ_=>False):=by
 refine⟨λa w=>call25 a w,λw r x S hS A=>?_⟩;have s:∀(fn:Fn) (first cap:Array Value) (w:World),(Instr.makeFunc fn first cap).run prog w=.ok (.func fn first cap) w:=λ_ _ _ _=>rfl
 go_enter_defers func25,ntmps25
 refine wp_seq (wp_region_list ?_);simp[wpList,Oper.wp,Oper.upon,go_sem,Exit.then];left;refine wp_seq (wp_region_list ?_);simp[wpList,Oper.wp,Oper.upon,go_sem,s,Exit.then];left;left;refine wp_seq (wp_region_list ?_);simp[wpList,Oper.wp,Oper.upon,go_sem,Exit.then];left;left;have B:Bx (w.alloc (.cells #[.int .i64 0] 3)) w.heap.size 3 #[.int .i64 0]:=Bx.new w _ _;have c:(w.alloc (.cells #[.int .i64 0] 3)).heap.size=w.heap.size+1:=World.size_alloc _ _;have t:=R0.loc x S w (w.alloc (.cells #[.int .i64 0] 3)) (λb i=>U7 w _ b (hS b i).2) A;refine(C.2 _ (r.alloc r.size _) x S (λb i=>⟨(hS b i).1,by rw[c];have:=(hS b i).2;omega⟩) t).mono ?_
 have l:¬ S w.heap.size:=λh=>absurd (hS _ h).2 (T4 _)
 have q:∀d v,Trm w0 S (w.alloc (.cells #[.int .i64 0] 3)) d->Trm w0 S w (d.setCell ⟨w.heap.size,0,none⟩ v):=λd v j=>by
  refine⟨j.low.setCell r.size _,λk D E=>?_⟩;rw[Sr d ⟨w.heap.size,0,none⟩ v k (by show k≠w.heap.size;omega),j.block k (by rw[c];omega) E,U7 w _ k D]
 rintro e d (⟨y,F,rfl,j,G,m⟩|⟨v,⟨z,rfl,H⟩,rfl,j⟩)
 ·have n:Bx d w.heap.size 3 #[.int .i64 0]:=(j.block _ (by rw[c];omega) l).trans B;have I:=n.cel 0;have J:=n.free 0;have o:Bx (d.setCell ⟨w.heap.size,0,none⟩ (.int .i64 (-1))) w.heap.size 3 #[.int .i64 (-1)]:=n.set 0 _;have p:=o.cel 0;refine wp_seq (wp_region_list ?_);simp[wpList,Oper.wp,Oper.upon,go_sem,Exit.then,I,J];left;refine wp_ret ?_
  simp only[bodyPostD];refine leaves_cons (f:=47) (args:=#[.pointer (some ⟨w.heap.size,0,none⟩)]) x6 (by simp[go_sem]) ?_
  refine(bM ⟨w.heap.size,0,none⟩ _).mono ?_
  rintro e K u ⟨rfl,rfl,rfl⟩;simp[Leaves,settle,results,results25,go_sem,p];refine .inl ⟨.inl y,F,rfl,q _ _ j,?_,λb i=>?_⟩
  ·exact(R y).loc _ _ _ _ (λb i=>Sr d ⟨w.heap.size,0,none⟩ _ b λe=>(m b i).1.elim (λh=>l ((show b=w.heap.size from e)▸h)) λh=>by rw[c]at h;have L:b=w.heap.size:=e;omega) G
  ·refine⟨(m b i).1.imp id λh=>(by rw[c]at h;omega),?_⟩;have:=(m b i).2;simpa [World.setCell]using this
 ·have n:Bx d w.heap.size 3 #[.int .i64 0]:=(j.block _ (by rw[c];omega) l).trans B;have o:Bx (d.setCell ⟨w.heap.size,0,none⟩ (.int .i64 z)) w.heap.size 3 #[.int .i64 z]:=n.set 0 _;have p:=o.cel 0;simp only[bodyPostD];refine leaves_cons (f:=47) (args:=#[.pointer (some ⟨w.heap.size,0,none⟩)]) x6 (by simp[go_sem]) ?_
  refine(Tq ⟨w.heap.size,0,none⟩ 0 z _ (n.cel 0) (n.free 0)).mono ?_
  rintro e K u ⟨rfl,rfl,rfl⟩;simp[Leaves,settle,results,results25,go_sem,p];exact .inl ⟨.inr ⟨z,H⟩,λ_=>False,rfl,q _ _ j,R0.one _ _ _ A,λ_ h=>h.elim⟩
def Xw(W:xH)(p q:x0h)(a b:xM)(c:Bool)(h:(!decide (a=b))=c):Qp prog W (do eqGuard .neq 9 p q (.string a) (.string b);binOp .neq 9 (.string a) (.string b)) (.bool c):=h▸wR W p q a b
def Qf(w0:xH)(M:Res){m:Sem y9}{v:y9}(h:∀a x S,M.φ x S a->Qp P a m v):GJ P w0 [M] m v:=λa _ x S b=>h a x S b a (p5 _ _)
def Zz(zs:List xM)(n c:Nat)(x:xM)(k:Int)(d:n<=zs.length)(h:n<=100)(e:Lib.idxOfS (zs.take n) x=k){W:xH}{t:o0}(f:Bx W g t (zs.map Value.string).toArray):xP prog 132 #[.slice (some ⟨g,0,none⟩) n c,.string x] W (.int .i64 k):=by
 refine(Tryz.slices_Index_string g 0 n c zs x W d x3 (sk f)).mono λi a b=>?_
 rw[b.1,b.2,e];exact⟨rfl,p5 _ _⟩
def d10K:xM:=⟨#[48,49,50,51,52,53,54,55,56,57]⟩
def Zc{s:xM}(c:s.size<=4000)(W:xH):RetAt prog W 133 #[.string s,.string d10K] (.string ⟨(Lib.trimS s.data.toList d10K.data.toList).toArray⟩):=⟨λa w=>call133 a w,λb _ =>
 (Any.strings_Trim_laid Tryz.lays160 x5 s d10K b x3 x4 (ascii_of_all x4)).mono λ_ _ h=>h⟩
def YD{s:xM}{n:Int}(b:s.size<=18)(h:Lib.atoi s.data.toList=some n)(W:xH):RetAt prog W 134 #[.string s] (.tuple #[.int .i64 n,.nilIface]):=⟨λa w=>call134 a w,λc _=>by
 refine(Tryz.strconv_Atoi s n b h c).mono λe f d=>?_
 obtain⟨rfl,t,rfl⟩:=d;exact⟨rfl,Lib.bytesWorld_below _ _ _⟩⟩
theorem fO:∃i z,prog.info? 5=some i/\i.zero=some z/\i.size=1/\i.bytes=1/\z=.int .u8 0:=by
 have a:(prog.info? 5).bind (λi=>i.zero.map λz=>(z,i.size,i.bytes))=some (.int .u8 0,1,1):=x5;cases b:prog.info? 5 with
 |none=>rw[b]at a;cases a
 |some i =>
  cases c:i.zero with
  |none=>rw[b,Ti,c]at a;cases a
  |some z =>
   grind
def EX(w0:xH){n:Nat}(a:n<=1000000):II prog w0 [] (λy:Hp=>.slice y.1 n y.2) (λy:Hp=>Hr 5 n (λ_=>0) y.1 y.2) (Instr.makeSlice 81 (.int .i64 (n:Int)) (.int .i64 (n:Int))):=by
 let⟨i,z,b,c,d,e,f⟩:=fO;exact QaF x5 b c d e f a
def qZ:Nm:=⟨false,⟨#[]⟩,0⟩
def qO:Nm:=⟨false,⟨#[1]⟩,0⟩
def qM:Nm:=⟨true,⟨#[1]⟩,0⟩
def qQ:Nm:=⟨false,⟨#[1]⟩,(-2)⟩
def Hx:Tm:=⟨⟨#[1]⟩,qM⟩
def Hv:Tm:=⟨⟨#[2]⟩,qO⟩
def UD:Tm:=⟨⟨#[1]⟩,qO⟩
def uG:List xM:=[⟨#[]⟩,⟨#[114,97,110,103,101]⟩,⟨#[114,97,116,105,111]⟩,⟨#[112,111,115,105,116,105,118,101]⟩,⟨#[109,105,110,105,109,117,109]⟩,⟨#[122,101,114,111,115]⟩,⟨#[99,104,101,99,107]⟩]
noncomputable def nxD(r i:Nat)(s:χ)(t:xM)(a:Int)(k:χ->List Dir):List Dir:=.inl r i f131::.reg 12 []::.inl 1 12 f89::.br false::x06 2 5 [0] (.pointer (some (Q5 s.A (0*2+0))))::x06 2 6 [0] (.agg #[.string t,.int .i64 a])::x06 3 6 [0] (.slice s.nx.A s.nx.l.length s.nx.c)::k s.nx
noncomputable def lnD(r i:Nat)(s:χ)(t:xM)(a n:Int)(k:χ->List Dir):List Dir:=.inl r i f87::.inl 1 1 f95::.inl 0 1 f136::.br false::.reg 10 []::.inl 2 10 f89::.br false::.reg 15 [1,12]::x06 3 6 [0] (.pointer (some (Q5 s.A0 (0*2+0))))::x06 3 7 [0] (.agg #[.slice s.ln.A s.ln.l.length s.ln.c,.int .i64 s.ln.ne])::x03 3 12 (.slice s.ln.A0 s.ln.ls.length s.ln.c0)::nxD 4 1 s.ln t a λs=>x04 5 3 (iV n)::x03 6 5 (.bool true)::.inl 6 9 f89::k s
noncomputable def ctD(r i:Nat)(s:χ)(t:xM)(a c n:Int)(k:χ->List Dir):List Dir:=.inl r i f88::nxD 1 1 s t a λs=>x04 2 2 (sV ⟨#[]⟩)::x03 2 3 (.bool true)::.g 2 11 true::x03 2 13 (.int .u8 c)::.inl 3 3 f89::x04 4 2 (.tup [iV n,.val .nilIface])::.inl 5 5 f89::k s
noncomputable def nuD(r i:Nat)(s:χ)(t:xM)(a:Int)(x:Nm)(k:χ->List Dir):List Dir:=.inl r i f137::nxD 1 1 s t a λs=>x04 2 2 (.tup [.agg [bV x.b,sV x.s,iV x.e],iV 0,iV 0])::.inl 3 4 f89::k s
noncomputable def pfD(s:χ)(k:χ->List Dir):List Dir:=.inl 0 0 f31::.reg 5 [0]::lnD 1 5 s ⟨#[114,97,110,103,101]⟩ 0 1 λs=>ctD 3 4 s ⟨#[49]⟩ 6 49 1 λr=>.reg 10 []::x06 4 7 [0] (.pointer (some (Q5 s.A (0*2+0))))::x06 4 9 [0] (.int .i64 6)::.inl 4 10 f89::.inl 5 1 f90::lnD 4 4 r ⟨#[98,111,120]⟩ 8 0 λs=>.unr 8::.inl 11 3 f135::.unr 8::k s
noncomputable def tpD(j:Nat)(s:χ)(t:xM)(a:Int)(x:Nm)(b:xM)(c:Int)(v:Nat)(z:xM)(k:χ->List Dir):List Dir:=.inl 2 3 f136::.br true::nuD 3 3 s t a x λs=>[.nil 3 5 51 4 QK,.mk 4 1 [] (λB:Hp=>.slice B.1 1 B.2) (λB:Hp=>Hr 5 1 (λ_=>0) B.1 B.2) λB:Hp=>.unr 8::.br true::ctD 8 5 s b c (v+48:Nat) v λs=>[x06 8 7 [j] (.pointer (some (Q5 B.1 (0*1+0)))),.eff 8 8 j (λ_:Unit=>undef) (λ_:Unit=>Hr 5 1 (λ_=>v) B.1 B.2) λ_:Unit=>.br false::x06 10 1 [j] (.string z)::k s]]
section
set_option linter.defProp false
variable{W:xH}{M:Res}{s:χ}{Q:Prop}
def um(h:s.Is M)(e:0<s.l.length)(q:s.nx.Is M->Q):= Yx func131 (λa w=>call131 a w) func89 (λa w=>call89 a w) (show(!(decide ((s.l.length:Int)>0)))=false from x7) (Qf W M λb x S d=>Qs b s.c (h.ok x S b d).rd 0 e) (Qf W M λb x S d=>NL (w0:=b) (i:=0) (o:=0) (h.ok x S b d).rd e x4 rfl rfl) (Qf W M λb x S d=>Qer b s.l e (h.ok x S b d).hc (h.ok x S b d).rd)<|q h.nx
def tI(W:xH)(t:xM)(T:o0)(b:List xM)(n:Int)(h:s.Is M)(m:(decide ((s.l.length:Int)>0))=false)(d:0<s.ls.length)(p:0<s.ln.l.length)(r:b.length<=100)(e:Lib.idxOfS (b.take b.length) t=n)(q:s.ln.nx.Is M->Q):= Yx func87 (λa w=>call87 a w) func95 (λa w=>call95 a w) func136 (λa w=>call136 a w) m func89<|KJ (λa w=>call89 a w) (show(!(decide ((s.ls.length:Int)>0)))=false from x7) (Qf W M λf x S j=>KQ f s.c0 (h.ok x S f j).r0 0 d) (Qf W M λf x S j=>NK f (h.ok x S f j).r0 0 0 d x4 rfl rfl) (Qau (l:=s.ls) d h.ca (h.na d))<|um (W:=W) (h.ln d) p λh=>Ky (FL (t:=T) W call132 λW g u=>Zz b b.length b.length t n (L4 _) r e u) (Xw W (.tmp 47) (.const (.string ⟨#[]⟩)) t ⟨#[]⟩ (!decide (t=⟨#[]⟩)) rfl) func89 (λa w=>call89 a w)<|q h
def ue(W:xH)(t:xM)(h:s.Is M)(b:0<s.l.length)(d:t.size=1)(v:Int)(c:Lib.atoi t.data.toList=some v)(q:s.nx.Is M->Q):= X0 func88 (λa w=>call88 a w)<|um (W:=W) h b λh=>Yx (Zc (s:=t) x3 W) (Xs W (.tmp 13) (.const (.string ⟨#[]⟩)) ⟨#[]⟩ ⟨#[]⟩ true rfl) (show(decide ((t.size:Int)<=9))=true from Lk x3) (wO W t 0 x3) func89 (λa w=>call89 a w) (YD (s:=t) x3 c W) func89<|ai (λa w=>call89 a w)<|q h
def tJ(W:xH){J:Prop}(h:s.Is M)(b:0<s.l.length)(c:J)(q:s.nx.Is M->Q):= X0 func137 (λa w=>call137 a w)<|um (W:=W) h b λh=>Ja c func89 (λa w=>call89 a w)<|q h
def uB(h:s.Is M)(f:(decide ((s.l.length:Int)>0))=false)(g:0<s.ls.length)(j:0<s.ln.l.length)(d:0<s.ln.nx.l.length)(k:(decide ((s.ln.nx.nx.l.length:Int)>0))=false)(m:0<s.ln.nx.nx.ls.length)(n:0<s.ln.nx.nx.ln.l.length)(q:s.ln.nx.nx.ln.nx.Is M->Q):= X0 func31 (λa w=>call31 a w)<|tI W ⟨#[114,97,110,103,101]⟩ 87 uG 1 h f g j xq rfl λh=>ue W ⟨#[49]⟩ h d rfl 1 rfl λp=>Vv (Qf W M λb x S e=>Qs b s.ln.nx.c (h.ok x S b e).rd 0 d) (Qf W M λb x S e=>BZ (h.ok x S b e).rd 0 1 d x4 rfl (w0:=b)) func89 (λa w=>call89 a w) func90 (λa w=>call90 a w)<|tI W ⟨#[98,111,120]⟩ 9 [⟨#[98,111,120]⟩,⟨#[115,105,109,112,108,101,120]⟩] 0 p k m n xq rfl λh=>X0 func135 (λa w=>call135 a w)<|q h
def uC{J:Prop}(t:xM)(h:s.Is M)(c:0<s.l.length)(d:J)(k:0<s.nx.l.length)(o:t.size=1)(v:Nat)(p:Lib.atoi t.data.toList=some (v:Int))(z:xM)(r:z=⟨((List.range 1).map λ_=>UInt8.ofNat v).toArray⟩)(q:s.nx.nx.Is M->Q):= Ja func136 (λa w=>call136 a w) (show(decide ((s.l.length:Int)>0))=true from x7)<|tJ W h c d λh=>ai (EX W (n:=1) xq) λB:Hp=>ai (show(decide (0<((1:Nat):Int)))=true from rfl)<|ue W t h k o _ p λh=>ai (m9 (P:=prog) (w0:=W) (e:=5) (m:=1) (n:=1) (L:=LP.known λi=>[.int .u8 ((0:Nat):Int)]) (A:=B.1) (cp:=B.2) (λb f y u C=>(show Qp prog b (Instr.indexAt 81 (.slice B.1 1 B.2) (.int .i64 ((0:Nat):Int))) (.pointer (some (Q5 B.1 (0*1+0))))from Kr 1 (Qm 81 _ rfl) rfl x4 u (Sw 0))))<|ai (λ(b:xH) (_:Below W.heap.size W b)=>sY prog 5 5 1 0 v (λ_=>0) (λ_=>v) B.1 B.2 (Qm 5 _ rfl) rfl (Sw 0) (λj D=>by rw[show j=0 by omega];rfl) b) λ_:Unit=>X0 (show(decide (1<((1:Nat):Int)))=false from rfl) (sZ prog W 81 9 5 5 x5 x5 x5 B.1 1 B.2 (λ_=>v) z r)<|q h
end
def ma(sp:Nm×Nm)(ts:List Tm)(e:Nm):PV:=⟨1,1,[sp],[],[⟨1,ts⟩],[],e,nm0,9,[]⟩
abbrev tH:Type:=(y9×y9)×Hp×Hp×Hp
def Hl(M:Res)(sp:Nm×Nm)(ts:List Tm)(y:Hp×Hp×Hp):Res:=Qj (Qj (Qj M (Qc 66 6 JR [sp] y.1.1 y.1.2)) (Qc 47 2 Zn [(⟨1,ts⟩,y.2.1)] y.2.2.1 y.2.2.2)) (Qc 51 4 QK ts y.2.1.1 y.2.1.2)
def EA(a b:y9)(n:Int)(sp:Nm×Nm)(ts:List Tm)(e:Nm)(y:Hp×Hp×Hp):o3:=a::b::.int .i64 n::.int .i64 n::.int .i64 1::.int .i64 1::.slice y.1.1 1 y.1.2::.slice none 0 0::.slice y.2.2.1 1 y.2.2.2::.slice none 0 0::(Xk e++Xk nm0++[.int .i64 9,.slice none 0 0,.bool false])
def uw(F:Res)(g:Nat)(sp:Nm×Nm)(ts:List Tm)(e:Nm)(n:Int)(_:s.Is M)(D b q:Hp):F=F/\76=76/\∃y:tH,(.tuple #[]:y9)=(λ_:tH=>.tuple #[]) y/\∀(x:y9) (S:Nat->Prop) (w:xH),(Qh g 76 (EA (.slice s.A0 s.ls.length s.c0) (.slice s.A s.l.length s.c) n sp ts e (D,b,q)) (Hl M sp ts (D,b,q))).φ x S w->(Qh g 76 (EA y.1.1 y.1.2 n sp ts e y.2) (Hl M sp ts y.2)).φ x S w:=⟨rfl,rfl,((_,_),D,b,q),rfl,λ_ _ _ h=>h⟩
def j7:o3:=.int .i64 0::.int .i64 0::.slice none 0 0::.slice none 0 0::.slice none 0 0::.slice none 0 0::(Xk nm0++Xk nm0++[.int .i64 0,.slice none 0 0,.bool false])
def rx:List Ln:=[]
def LnAK.pz_0(Y:LnAK):χ:=⟨Y.A0,Y.c0,rx,Y.Al,Y.cl,none,0,[],0,0⟩
variable{Y:LnAK}
def rv(b:Y.pz_0.Is M)(W:xH)(c:QV W):B8 prog W (Qh g 76 (χ.cs Y.pz_0 j7) M) 48 #[x02 g] (λ_:Empty=>.tuple #[]) (λ_:Empty=>ZI) (λv=>∃z,v=BI z/\z=0) :=
 A9 Empty Qm QU (λa w=>call48 a w) func48 ntmps48 results48 g _ _ rfl M _ _ _ [.inl 0 0 f31,.reg 5 [0],.inl 1 5 f87,.inl 1 1 f95,.inl 0 1 f136,.br false,.reg 10 [],.inl 2 10 f89,.br true,x03 1 1 (.iface 103 (Θ 0))] (λF=>Yx func31 (λa w=>call31 a w) func87 (λa w=>call87 a w) func95 (λa w=>call95 a w) func136 (λa w=>call136 a w)<|KJ (show(decide ((0:Nat)>0))=false from rfl) func89 (λa w=>call89 a w) (show(!(decide ((0:Nat)>0)))=true from rfl) (KT W (Θ 0))<|(KP F (.iface 103 (Θ 0)) (λv=>∃z,v=BI z/\z=0) (⟨0,rfl,rfl⟩:∃z,(.iface 103 (Θ 0):y9)=BI z/\z=0))) λF=>x5
def ro:List Ln:=[⟨[⟨⟨#[114,97,110,103]⟩,0⟩,⟨⟨#[49]⟩,5⟩],6⟩]
def LnAK.pw_0(Y:LnAK):χ:=⟨Y.A0,Y.c0,ro,Y.Al,Y.cl,none,0,[],0,6⟩
def rm(b:Y.pw_0.Is M)(W:xH)(j:QV W):B8 prog W (Qh g 76 (χ.cs Y.pw_0 j7) M) 48 #[x02 g] (λ_:Empty=>.tuple #[]) (λ_:Empty=>ZI) (λv=>∃z,v=BI z/\z=0) :=
 A9 Empty Qm QU (λa w=>call48 a w) func48 ntmps48 results48 g _ _ rfl M _ _ _ (.inl 0 0 f31::.reg 5 [0]::.inl 1 5 f87::.inl 1 1 f95::.inl 0 1 f136::.br false::.reg 10 []::.inl 2 10 f89::.br false::.reg 15 [1,12]::x06 3 6 [0] (.pointer (some (Q5 Y.pw_0.A0 (0*2+0))))::x06 3 7 [0] (.agg #[Ω Y.pw_0.ln.A 2 Y.pw_0.ln.c,Θ 6])::x03 3 12 (Ω Y.pw_0.ln.A0 0 Y.pw_0.ln.c0)::(nxD 4 1 Y.pw_0.ln ⟨#[114,97,110,103]⟩ 0 λm=>[x04 5 3 (iV (-1)),.inl 6 9 f89,x03 1 1 (.iface 103 (Θ 0))])) (λF=>Yx func31 (λa w=>call31 a w) func87 (λa w=>call87 a w) func95 (λa w=>call95 a w) func136 (λa w=>call136 a w)<|GL (show(decide ((0:Nat)>0))=false from rfl) func89 (λa w=>call89 a w) (show(!(decide (((1:Nat):Int)>0)))=false from rfl) (Qf W M (λd x S e=>have f:=(b.ok x S d e).r0;KQ d Y.pw_0.c0 f 0 xq)) (Qf W M (λd x S e=>have f:=(b.ok x S d e).r0;NK d f 0 0 xq x4 rfl rfl)) (Qau (l:=Y.pw_0.ls) xq b.ca (b.na xq))<|um (W:=W) (b.ln xq) xq λp=>Ky (FL (t:=87) W call132 λW g h=>Zz uG 7 7 ⟨#[114,97,110,103]⟩ (-1) xq xq rfl h) func89 (λa w=>call89 a w) (KT W (Θ 0))<|(KP F (.iface 103 (Θ 0)) (λv=>∃z,v=BI z/\z=0) (⟨0,rfl,rfl⟩:∃z,(.iface 103 (Θ 0):y9)=BI z/\z=0))) λF=>x5
def qr:List Ln:=[⟨[⟨⟨#[114,97,110,103,101]⟩,0⟩,⟨⟨#[49]⟩,6⟩],7⟩,⟨[⟨⟨#[98,111,120]⟩,8⟩,⟨⟨#[48]⟩,12⟩],13⟩]
def LnAK.pb_0(Y:LnAK):χ:=⟨Y.A0,Y.c0,qr,Y.Al,Y.cl,none,0,[],0,13⟩
def ql(d:Y.pb_0.Is M)(W:xH)(e:QV W):B8 prog W (Qh g 76 (χ.cs Y.pb_0 j7) M) 48 #[x02 g] (λ_:Empty=>.tuple #[]) (λ_:Empty=>ZI) (λv=>∃z,v=BI z/\z=13) :=
 A9 Empty Qm QU (λa w=>call48 a w) func48 ntmps48 results48 g _ _ rfl M _ _ _ (pfD Y.pb_0 λf=>(nuD 4 2 f ⟨#[48]⟩ 12 qZ λi=>[.nil 4 4 32 3 Xk,x08 4 4 115 (λ(b:Hp)=>(Ω b.1 [qZ].length b.2,Qc 32 3 Xk [qZ] b.1 b.2,[.inl 4 2 f137,.inl 1 1 f131,.reg 12 [],.inl 1 12 f89,.br true,x03 1 1 (.iface 103 (Θ 13))]))])) (λF=>uB (W:=W) d rfl xq xq xq rfl xq xq λh=>tJ W h xq (gV W e) λj=>ai (YJ W 43 32 1 1 Xk ([]:List Nm) ([qZ]) ([qZ]) none 0 ([Ξ false,x00,Θ 0]) ZY Xx Gn rfl xq rfl rfl) λ(b:Hp)=>Yx func137 (λa w=>call137 a w) func131 (λa w=>call131 a w) func89 (λa w=>call89 a w) (show(!(decide (((0:Nat):Int)>0)))=true from rfl) (KT W (Θ 13))<|(KP F (.iface 103 (Θ 13)) (λv=>∃z,v=BI z/\z=13) (⟨13,rfl,rfl⟩:∃z,(.iface 103 (Θ 13):y9)=BI z/\z=13))) λF=>x5
def qA:List Ln:=[⟨[⟨⟨#[114,97,110,103,101]⟩,0⟩,⟨⟨#[49]⟩,6⟩],7⟩,⟨[⟨⟨#[98,111,120]⟩,8⟩,⟨⟨#[48]⟩,12⟩,⟨⟨#[49]⟩,14⟩,⟨⟨#[50]⟩,16⟩],17⟩]
def LnAK.pc_0(Y:LnAK):χ:=⟨Y.A0,Y.c0,qA,Y.Al,Y.cl,none,0,[],0,17⟩
def qy(r:Y.pc_0.Is M)(W:xH)(p:QV W):B8 prog W (Qh g 76 (χ.cs Y.pc_0 j7) M) 48 #[x02 g] (λ_:Empty=>.tuple #[]) (λ_:Empty=>ZI) (λv=>∃z,v=BI z/\z=16) :=
 A9 Empty Qm QU (λa w=>call48 a w) func48 ntmps48 results48 g _ _ rfl M _ _ _ (pfD Y.pc_0 λs=>(nuD 4 2 s ⟨#[48]⟩ 12 qZ λt=>[.nil 4 4 32 3 Xk,.eff 4 4 115 (λ(h:Hp)=>Ω h.1 [qZ].length h.2) (λ(h:Hp)=>Qc 32 3 Xk [qZ] h.1 h.2) (λ(h:Hp)=>(nuD 4 2 t ⟨#[49]⟩ 14 qO λu=>[x08 4 4 115 (λ(b:Hp)=>(Ω b.1 [qZ,qO].length b.2,Qc 32 3 Xk [qZ,qO] b.1 b.2,[.reg 15 [0],x06 12 8 [115] (.pointer (some (Q5 b.1 (0*3+0)))),x06 12 9 [115] (.agg #[Ξ false,x00,Θ 0]),x06 12 11 [115] (.pointer (some (Q5 b.1 (1*3+0)))),x06 12 12 [115] (.agg #[Ξ false,Ψ ⟨#[1]⟩,Θ 0]),.nil 12 15 66 6 JR,x08 12 15 143 (λ(j:Hp)=>(Ω j.1 ([(qZ,qO)]).length j.2,Qc 66 6 JR ([(qZ,qO)]) j.1 j.2,[.reg 12 [],x04 6 10 (iV 1),.unr 8,.inl 8 4 f87,.inl 1 1 f95,.inl 0 1 f136,.br true,x06 1 5 [0] (.pointer (some (Q5 u.A (0*2+0)))),x06 1 7 [0] (Θ 16),.inl 1 8 f89,x03 1 1 (.iface 103 (Θ 16))]))]))]))])) (λF=>uB (W:=W) r rfl xq xq xq rfl xq xq λy=>tJ W y xq (gV W p) λB=>ai (YJ W 43 32 1 1 Xk ([]:List Nm) ([qZ]) ([qZ]) none 0 ([Ξ false,x00,Θ 0]) ZY Xx Gn rfl xq rfl rfl) λ(h:Hp)=>tJ W B xq (RL W p) λq=>ai (YJ W 43 32 1 1 Xk ([qZ]) ([qO]) ([qZ,qO]) h.1 h.2 ([Ξ false,Ψ ⟨#[1]⟩,Θ 0]) ZY Xx Gn rfl xq rfl rfl) λ(b:Hp)=>Ky (Jl W 32 3 Xk ([qZ,qO]) b.1 b.2 Xx nm0 (λd f=>Gi b.2 d f 0 xq)) (Jl W 32 3 Xk ([qZ,qO]) b.1 b.2 Xx nm0 (λd f=>JW f 0 0 xq x4 rfl rfl (w0:=d))) (Jl W 32 3 Xk ([qZ,qO]) b.1 b.2 Xx nm0 (λd f=>Gi b.2 d f 1 xq)) (Jl W 32 3 Xk ([qZ,qO]) b.1 b.2 Xx nm0 (λd f=>JW f 1 0 xq x4 rfl rfl (w0:=d)))<|ai (YJ W 23 66 1 1 JR ([]:List (Nm×Nm)) ([(qZ,qO)]) ([(qZ,qO)]) none 0 ([Ξ false,x00,Θ 0,Ξ false,Ψ ⟨#[1]⟩,Θ 0]) Jp iy wH rfl xq rfl rfl) λ(j:Hp)=>Yx (ia 1 1 W) func87 (λa w=>call87 a w) func95 (λa w=>call95 a w) func136 (λa w=>call136 a w) (show(decide (((1:Nat):Int)>0))=true from rfl)<|KJ (Qf W M (λd x S n=>have f:=(q.ok x S d n).rd;Qs d Y.pc_0.ln.nx.nx.ln.nx.nx.nx.c f 0 xq)) (Qf W M (λd x S n=>have f:=(q.ok x S d n).rd;BZ f 0 1 xq x4 rfl (w0:=d))) func89 (λa w=>call89 a w) (KT W (Θ 16))<|(KP F (.iface 103 (Θ 16)) (λv=>∃z,v=BI z/\z=16) (⟨16,rfl,rfl⟩:∃z,(.iface 103 (Θ 16):y9)=BI z/\z=16))) λF=>x5
def qF:List Ln:=[⟨[⟨⟨#[114,97,110,103,101]⟩,0⟩,⟨⟨#[49]⟩,6⟩],7⟩,⟨[⟨⟨#[98,111,120]⟩,8⟩,⟨⟨#[49]⟩,12⟩,⟨⟨#[48]⟩,14⟩],15⟩,⟨[⟨⟨#[112,111,108,121]⟩,16⟩,⟨⟨#[49]⟩,21⟩,⟨⟨#[49]⟩,23⟩],24⟩,⟨[⟨⟨#[101,112,115]⟩,25⟩,⟨⟨#[49]⟩,29⟩],30⟩,⟨[⟨⟨#[98,117,100,103,101,116]⟩,31⟩,⟨⟨#[57]⟩,38⟩],39⟩]
def LnAK.pg_0(Y:LnAK):χ:=⟨Y.A0,Y.c0,qF,Y.Al,Y.cl,none,0,[],0,39⟩
abbrev HKz:y9:=.agg #[.string ⟨#[1]⟩,.bool false,.string ⟨#[1]⟩,.int .i64 0]
abbrev HKA:y9:=.slice none 0 0
abbrev HKB:y9:=.agg #[.bool false,.string ⟨#[1]⟩,.int .i64 0]
abbrev HKC(b:Hp):y9:=.pointer (some (Q5 b.1 (0*4+0)))
abbrev HKD(b:Hp):QQ:=(⟨1,[UD]⟩,b.1,b.2)
def qC(K:Y.pg_0.Is M)(W:xH)(s:QV W):B8 prog W (Qh g 76 (χ.cs Y.pg_0 j7) M) 48 #[x02 g] (λ_:tH=>.tuple #[]) (λy:tH=>Qh g 76 (EA y.1.1 y.1.2 39 (qO,qZ) [UD] qO y.2) (Hl M (qO,qZ) [UD] y.2)) (λv=>∃z,v=BI z/\False) :=
 A9 tH Qm QU (λa w=>call48 a w) func48 ntmps48 results48 g _ _ rfl M _ _ _ (pfD Y.pg_0 λL=>(nuD 4 2 L ⟨#[49]⟩ 12 qO λN=>[.nil 4 4 32 3 Xk,.eff 4 4 115 (λ(p:Hp)=>Ω p.1 [qO].length p.2) (λ(p:Hp)=>Qc 32 3 Xk [qO] p.1 p.2) (λ(p:Hp)=>(nuD 4 2 N ⟨#[48]⟩ 14 qZ λO=>[x08 4 4 115 (λ(h:Hp)=>(Ω h.1 [qO,qZ].length h.2,Qc 32 3 Xk [qO,qZ] h.1 h.2,[.reg 15 [0],x06 12 8 [115] (.pointer (some (Q5 h.1 (0*3+0)))),x06 12 9 [115] HKB,x06 12 11 [115] (.pointer (some (Q5 h.1 (1*3+0)))),x06 12 12 [115] (.agg #[Ξ false,x00,Θ 0]),.nil 12 15 66 6 JR,.eff 12 15 143 (λ(q:Hp)=>Ω q.1 ([(qO,qZ)]).length q.2) (λ(q:Hp)=>Qc 66 6 JR ([(qO,qZ)]) q.1 q.2) (λ(q:Hp)=>(.reg 12 []::x04 6 10 (iV 1)::.unr 8::(lnD 8 4 O ⟨#[112,111,108,121]⟩ 16 0 λQ=>(.orh 18 [(0,76,8,x01)]::.pur 0::.pur 1::.pur 2::.pur 3::.pur 4::.lod 5::.pur 6::.pur 7::.pur 8::.pur 9::.pur 10::.inl 9 12 f91::.unr 8::(tpD 206 Q ⟨#[49]⟩ 21 qO ⟨#[49]⟩ 23 1 ⟨#[1]⟩ λu=>[.nil 11 3 51 4 QK,x08 11 3 219 (λ(j:Hp)=>(Ω j.1 [UD].length j.2,Qc 51 4 QK [UD] j.1 j.2,[.inl 2 3 f136,.br false,.inl 12 2 f138,x04 1 1 (bV true),.inl 1 6 f187,.inl 1 2 f251,.unr 8,.br true,x06 4 3 [219] (.pointer (some (Q5 j.1 (0*4+0)))),x06 4 4 [219] HKz,.inl 4 5 f188,x04 1 3 (bV true),.br false,.br false,.br false,.br false,.orh 8 [(253,3,0,Θ 1)],.lod 0,.pur 1,x09 5 2 [219] (λ(b:Hp)=>(Ω b.1 1 b.2,Qc 51 4 QK [UD] b.1 b.2,[.inl 5 3 f189,x04 1 1 (lV b.1 1 b.2),.inl 1 2 f252,.inl 1 2 f251,.unr 8,.br true,x06 4 3 [220] (HKC b),x06 4 4 [220] HKz,.inl 4 5 f256,x04 1 2 (iV 1),.br false,.br false,.br true,.br false,.unr 8,.br true,x06 7 4 [220] (HKC b),x06 7 6 [220] HKB,x04 7 7 (.agg [bV false,sV ⟨#[1]⟩,iV 0]),x06 7 8 [220] (HKC b),x08 7 10 220 (λ(x:Unit)=>(undef,Qc 51 4 QK [UD] b.1 b.2,[.br false,.pur 4,.pur 5,.nil 9 14 47 2 Zn,.eff 9 14 221 (λ(r:Hp)=>Ω r.1 ([(HKD b)]).length r.2) (λ(r:Hp)=>Qc 47 2 Zn ([(HKD b)]) r.1 r.2) (λ(r:Hp)=>(.pur 15::.pur 16::.pur 17::.unr 8::.inl 16 1 f94::(lnD 0 4 u ⟨#[101,112,115]⟩ 25 0 λB=>(nuD 1 4 B ⟨#[49]⟩ 29 qO λC=>(lnD 5 4 C ⟨#[98,117,100,103,101,116]⟩ 31 0 λD=>(ctD 6 4 D ⟨#[57]⟩ 38 57 9 λR=>[.inl 17 3 f95,.inl 0 1 f136,.br false,.join 18 99999 0 143,.join 18 99999 0 221,.join 18 99999 0 220,.br false]))))))]))]))]))])))))]))]))])) (λF=>uB (W:=W) K rfl xq xq xq rfl xq xq λS=>tJ W S xq (RL W s) λT=>ai (YJ W 43 32 1 1 Xk ([]:List Nm) ([qO]) ([qO]) none 0 ([Ξ false,Ψ ⟨#[1]⟩,Θ 0]) ZY Xx Gn rfl xq rfl rfl) λ(p:Hp)=>tJ W T xq (gV W s) λU=>ai (YJ W 43 32 1 1 Xk ([qO]) ([qZ]) ([qO,qZ]) p.1 p.2 ([Ξ false,x00,Θ 0]) ZY Xx Gn rfl xq rfl rfl) λ(h:Hp)=>Ky (Jl W 32 3 Xk ([qO,qZ]) h.1 h.2 Xx nm0 (λd f=>Gi h.2 d f 0 xq)) (Jl W 32 3 Xk ([qO,qZ]) h.1 h.2 Xx nm0 (λd f=>JW f 0 0 xq x4 rfl rfl (w0:=d))) (Jl W 32 3 Xk ([qO,qZ]) h.1 h.2 Xx nm0 (λd f=>Gi h.2 d f 1 xq)) (Jl W 32 3 Xk ([qO,qZ]) h.1 h.2 Xx nm0 (λd f=>JW f 1 0 xq x4 rfl rfl (w0:=d)))<|ai (YJ W 23 66 1 1 JR ([]:List (Nm×Nm)) ([(qO,qZ)]) ([(qO,qZ)]) none 0 ([Ξ false,Ψ ⟨#[1]⟩,Θ 0,Ξ false,x00,Θ 0]) Jp iy wH rfl xq rfl rfl) λ(q:Hp)=>ai (ia 1 1 W)<|tI W ⟨#[112,111,108,121]⟩ 9 [⟨#[112,111,108,121]⟩] 0 U rfl xq xq xq rfl λV=>Ky (qc 76 HKA) (qc 76 HKA) func91 (λa w=>call91 a w)<|uC (W:=W) ⟨#[49]⟩ V xq (RL W s) xq rfl 1 rfl ⟨#[1]⟩ rfl λE=>ai (YJ W 45 51 1 1 QK ([]:List Tm) ([UD]) ([UD]) none 0 ([Ψ ⟨#[1]⟩,Ξ false,Ψ ⟨#[1]⟩,Θ 0]) XN Q4 K2 rfl xq rfl rfl) λ(j:Hp)=>Yx func136 (λa w=>call136 a w) (show(decide (((0:Nat):Int)>0))=false from rfl) func138 (λa w=>call138 a w) (ye 1 W) func187 (λa w=>call187 a w)<|Yx func251 (λa w=>call251 a w) (show(decide (0<(([UD].length:Nat):Int)))=true from rfl) (Jl W 51 4 QK ([UD]) j.1 j.2 Q4 Bp (λd f=>Y0 j.2 f 0 xq (w0:=d))) (Jl W 51 4 QK ([UD]) j.1 j.2 Q4 Bp (λd f=>ZE f 0 0 xq x4 rfl rfl (w0:=d))) func188 (λa w=>call188 a w) (yn ⟨#[1]⟩ 1 xq W)<|KJ (rfl:false=false) (show(decide (1<(([UD].length:Nat):Int)))=false from rfl) (rfl:false=false) (show(decide ((([UD].length:Nat):Int)>65536))=false from rfl) (qc 3 (Θ 1))<|ai (OC j.1 j.2 ([UD]) xq W) λ(b:Hp)=>Yx (qc 3 (Θ 1)) func189 (λa w=>call189 a w) (GW b.1 b.2 ([UD]) rfl W) func252 (λa w=>call252 a w) func251 (λa w=>call251 a w)<|have Z:=Jl W 51 4 QK ([UD]) b.1 b.2 Q4 Bp (λd f=>Y0 b.2 f 0 xq (w0:=d));Yx (show(decide (0<((1:Nat):Int)))=true from rfl) Z (Jl W 51 4 QK ([UD]) b.1 b.2 Q4 Bp (λd f=>ZE f 0 0 xq x4 rfl rfl (w0:=d))) func256 (λa w=>call256 a w) (rc W call65 λW=>GB ⟨#[1]⟩ false 0 W) (rfl:false=false) (show(decide (1<((1:Nat):Int)))=false from rfl)<|GL (rfl:true=true) (show(decide (((1:Nat):Int)>4096))=false from rfl) (show(decide (0<((1:Nat):Int)))=true from rfl) Z (Jl W 51 4 QK ([UD]) b.1 b.2 Q4 Bp (λd f=>JW f 0 1 xq x4 rfl rfl (w0:=d))) (rt s call59 λW s=>KA ⟨#[1]⟩ false 0 W xq (L0 rfl) (L0 rfl) s) Z<|ai (Iz prog W 51 4 b.2 QK b.1 32 0 1 ([UD]) ([UD]) (.agg #[Ξ false,Ψ ⟨#[1]⟩,Θ 0]) (List.getD [UD] 0 Bp) Q4 Bp (Qm 32 _ rfl) rfl rfl x4 xq (Lg.1 rfl) rfl) λ(x:Unit)=>Vv (show(decide (1<((1:Nat):Int)))=false from rfl) (qc 3 (Θ 1)) (qc 3 (Θ 1)) (qc 3 (Θ 1)) (qc 76 HKA) (qc 76 HKA)<|ai (YJ W 28 47 1 1 Zn ([]:List QQ) ([(HKD b)]) ([(HKD b)]) none 0 ([Θ 1,Ω b.1 1 b.2]) Xg Zb EL rfl xq rfl rfl) λ(r:Hp)=>Ja (qc 76 HKA) func94 (λa w=>call94 a w)<|tI W ⟨#[101,112,115]⟩ 9 [⟨#[101,112,115]⟩] 0 E rfl xq xq xq rfl λG=>tJ W G xq (RL W s) λH=>tI W ⟨#[98,117,100,103,101,116]⟩ 9 [⟨#[98,117,100,103,101,116]⟩] 0 H rfl xq xq xq rfl λI=>ue W ⟨#[57]⟩ I xq rfl 9 rfl λJ=>Vv func95 (λa w=>call95 a w) func136 (λa w=>call136 a w) (show(decide (((0:Nat):Int)>0))=false from rfl) (show(decide (((0:Nat):Int)>0))=false from rfl)<|uw F g (qO,qZ) ([UD]) qO 39 J q b r) λF=>x5
def qL:List Ln:=[⟨[⟨⟨#[114,97,110,103,101]⟩,0⟩,⟨⟨#[49]⟩,6⟩],7⟩,⟨[⟨⟨#[98,111,120]⟩,8⟩,⟨⟨#[48]⟩,12⟩,⟨⟨#[49]⟩,14⟩],15⟩,⟨[⟨⟨#[112,111,108,121]⟩,16⟩,⟨⟨#[49]⟩,21⟩,⟨⟨#[50]⟩,23⟩,⟨⟨#[45,49]⟩,25⟩,⟨⟨#[49]⟩,28⟩],29⟩,⟨[⟨⟨#[101,112,115]⟩,30⟩,⟨⟨#[49,47,52]⟩,34⟩],37⟩,⟨[⟨⟨#[98,117,100,103,101,116]⟩,38⟩,⟨⟨#[57]⟩,45⟩],46⟩]
def LnAK.pt_0(Y:LnAK):χ:=⟨Y.A0,Y.c0,qL,Y.Al,Y.cl,none,0,[],0,46⟩
abbrev HKE:y9:=.agg #[.string ⟨#[2]⟩,.bool false,.string ⟨#[1]⟩,.int .i64 0]
abbrev HKF:y9:=.agg #[.string ⟨#[1]⟩,.bool true,.string ⟨#[1]⟩,.int .i64 0]
abbrev HKG:y9:=.slice none 0 0
abbrev HKH(b:Hp):QQ:=(⟨1,[Hx,Hv]⟩,b.1,b.2)
abbrev HKI:y9:=.agg #[.bool false,.string ⟨#[1]⟩,.int .i64 0]
abbrev HKJ(b:Hp):y9:=.pointer (some (Q5 b.1 (0*4+0)))
abbrev HKK(b:Hp):y9:=.pointer (some (Q5 b.1 (1*4+0)))
def qK(R:Y.pt_0.Is M)(W:xH)(p:QV W):B8 prog W (Qh g 76 (χ.cs Y.pt_0 j7) M) 48 #[x02 g] (λ_:tH=>.tuple #[]) (λy:tH=>Qh g 76 (EA y.1.1 y.1.2 46 (qZ,qO) [Hx,Hv] qQ y.2) (Hl M (qZ,qO) [Hx,Hv] y.2)) (λv=>∃z,v=BI z/\False) :=
 A9 tH Qm QU (λa w=>call48 a w) func48 ntmps48 results48 g _ _ rfl M _ _ _ (pfD Y.pt_0 λS=>(nuD 4 2 S ⟨#[48]⟩ 12 qZ λT=>[.nil 4 4 32 3 Xk,.eff 4 4 115 (λ(q:Hp)=>Ω q.1 [qZ].length q.2) (λ(q:Hp)=>Qc 32 3 Xk [qZ] q.1 q.2) (λ(q:Hp)=>(nuD 4 2 T ⟨#[49]⟩ 14 qO λU=>[x08 4 4 115 (λ(j:Hp)=>(Ω j.1 [qZ,qO].length j.2,Qc 32 3 Xk [qZ,qO] j.1 j.2,[.reg 15 [0],x06 12 8 [115] (.pointer (some (Q5 j.1 (0*3+0)))),x06 12 9 [115] (.agg #[Ξ false,x00,Θ 0]),x06 12 11 [115] (.pointer (some (Q5 j.1 (1*3+0)))),x06 12 12 [115] HKI,.nil 12 15 66 6 JR,.eff 12 15 143 (λ(u:Hp)=>Ω u.1 ([(qZ,qO)]).length u.2) (λ(u:Hp)=>Qc 66 6 JR ([(qZ,qO)]) u.1 u.2) (λ(u:Hp)=>(.reg 12 []::x04 6 10 (iV 1)::.unr 8::(lnD 8 4 U ⟨#[112,111,108,121]⟩ 16 0 λV=>(.orh 18 [(0,76,8,x01)]::.pur 0::.pur 1::.pur 2::.pur 3::.pur 4::.lod 5::.pur 6::.pur 7::.pur 8::.pur 9::.pur 10::.inl 9 12 f91::.unr 8::(tpD 206 V ⟨#[49]⟩ 21 qO ⟨#[50]⟩ 23 2 ⟨#[2]⟩ λB=>[.nil 11 3 51 4 QK,.eff 11 3 219 (λ(r:Hp)=>Ω r.1 [Hv].length r.2) (λ(r:Hp)=>Qc 51 4 QK [Hv] r.1 r.2) (λ(r:Hp)=>(tpD 233 B ⟨#[45,49]⟩ 25 qM ⟨#[49]⟩ 28 1 ⟨#[1]⟩ λC=>[x08 11 3 219 (λ(h:Hp)=>(Ω h.1 [Hv,Hx].length h.2,Qc 51 4 QK [Hv,Hx] h.1 h.2,[.inl 2 3 f136,.br false,.inl 12 2 f138,x04 1 1 (bV true),.inl 1 6 f187,.inl 1 2 f251,.unr 8,.br true,x06 4 3 [219] (.pointer (some (Q5 h.1 (0*4+0)))),x06 4 4 [219] HKE,.inl 4 5 f188,x04 1 3 (bV true),.br false,.br true,x06 4 3 [219] (.pointer (some (Q5 h.1 (1*4+0)))),x06 4 4 [219] HKF,.inl 4 5 f188,x04 1 3 (bV true),.br false,.br false,.br false,.br false,.orh 8 [(287,3,0,Θ 1)],.lod 0,.pur 1,x09 5 2 [219] (λ(s:Hp)=>(Ω s.1 2 s.2,Qc 51 4 QK [Hv,Hx] s.1 s.2,[.inl 5 3 f189,x09 1 1 [246] (λ(b:Hp)=>(Ω b.1 2 b.2,Qc 51 4 QK [Hx,Hv] b.1 b.2,[.inl 1 2 f252,.inl 1 2 f251,.unr 8,.br true,x06 4 3 [247] (HKJ b),x06 4 4 [247] HKF,.inl 4 5 f256,x04 1 2 (iV (-1)),.br false,.br true,x06 4 3 [247] (HKK b),x06 4 4 [247] HKE,.inl 4 5 f256,x04 1 2 (iV 1),.br false,.br false,.br true,.br false,.unr 8,.br true,x06 7 4 [247] (HKJ b),x06 7 6 [247] (.agg #[Ξ true,Ψ ⟨#[1]⟩,Θ 0]),x04 7 7 (.agg [bV true,sV ⟨#[1]⟩,iV 0]),x06 7 8 [247] (HKJ b),x08 7 10 247 (λ(D:Unit)=>(undef,Qc 51 4 QK [Hx,Hv] b.1 b.2,[.br true,x06 7 4 [247] (HKK b),x06 7 6 [247] HKI,x04 7 7 (.agg [bV false,sV ⟨#[1]⟩,iV 0]),x06 7 8 [247] (HKK b),x08 7 10 247 (λ(E:Unit)=>(undef,Qc 51 4 QK [Hx,Hv] b.1 b.2,[.br false,.pur 4,.pur 5,.nil 9 14 47 2 Zn,.eff 9 14 248 (λ(x:Hp)=>Ω x.1 ([(HKH b)]).length x.2) (λ(x:Hp)=>Qc 47 2 Zn ([(HKH b)]) x.1 x.2) (λ(x:Hp)=>(.pur 15::.pur 16::.pur 17::.unr 8::.inl 16 1 f94::(lnD 0 4 C ⟨#[101,112,115]⟩ 30 0 λG=>(nuD 1 4 G ⟨#[49,47,52]⟩ 34 qQ λH=>(lnD 5 4 H ⟨#[98,117,100,103,101,116]⟩ 38 0 λI=>(ctD 6 4 I ⟨#[57]⟩ 45 57 9 λX=>[.inl 17 3 f95,.inl 0 1 f136,.br false,.join 18 99999 0 143,.join 18 99999 0 248,.join 18 99999 0 247,.br false]))))))]))]))]))]))]))]))])))))]))]))])) (λF=>uB (W:=W) R rfl xq xq xq rfl xq xq λZ=>tJ W Z xq (gV W p) λh6=>ai (YJ W 43 32 1 1 Xk ([]:List Nm) ([qZ]) ([qZ]) none 0 ([Ξ false,x00,Θ 0]) ZY Xx Gn rfl xq rfl rfl) λ(q:Hp)=>tJ W h6 xq (RL W p) λh7=>ai (YJ W 43 32 1 1 Xk ([qZ]) ([qO]) ([qZ,qO]) q.1 q.2 ([Ξ false,Ψ ⟨#[1]⟩,Θ 0]) ZY Xx Gn rfl xq rfl rfl) λ(j:Hp)=>Ky (Jl W 32 3 Xk ([qZ,qO]) j.1 j.2 Xx nm0 (λd f=>Gi j.2 d f 0 xq)) (Jl W 32 3 Xk ([qZ,qO]) j.1 j.2 Xx nm0 (λd f=>JW f 0 0 xq x4 rfl rfl (w0:=d))) (Jl W 32 3 Xk ([qZ,qO]) j.1 j.2 Xx nm0 (λd f=>Gi j.2 d f 1 xq)) (Jl W 32 3 Xk ([qZ,qO]) j.1 j.2 Xx nm0 (λd f=>JW f 1 0 xq x4 rfl rfl (w0:=d)))<|ai (YJ W 23 66 1 1 JR ([]:List (Nm×Nm)) ([(qZ,qO)]) ([(qZ,qO)]) none 0 ([Ξ false,x00,Θ 0,Ξ false,Ψ ⟨#[1]⟩,Θ 0]) Jp iy wH rfl xq rfl rfl) λ(u:Hp)=>ai (ia 1 1 W)<|tI W ⟨#[112,111,108,121]⟩ 9 [⟨#[112,111,108,121]⟩] 0 h7 rfl xq xq xq rfl λh9=>Ky (qc 76 HKG) (qc 76 HKG) func91 (λa w=>call91 a w)<|uC (W:=W) ⟨#[50]⟩ h9 xq (RL W p) xq rfl 2 rfl ⟨#[2]⟩ rfl λJ=>ai (YJ W 45 51 1 1 QK ([]:List Tm) ([Hv]) ([Hv]) none 0 ([Ψ ⟨#[2]⟩,Ξ false,Ψ ⟨#[1]⟩,Θ 0]) XN Q4 K2 rfl xq rfl rfl) λ(r:Hp)=>uC (W:=W) ⟨#[49]⟩ J xq (pI W p) xq rfl 1 rfl ⟨#[1]⟩ rfl λK=>ai (YJ W 45 51 1 1 QK ([Hv]) ([Hx]) ([Hv,Hx]) r.1 r.2 ([Ψ ⟨#[1]⟩,Ξ true,Ψ ⟨#[1]⟩,Θ 0]) XN Q4 K2 rfl xq rfl rfl) λ(h:Hp)=>Yx func136 (λa w=>call136 a w) (show(decide (((0:Nat):Int)>0))=false from rfl) func138 (λa w=>call138 a w) (ye 1 W) func187 (λa w=>call187 a w)<|Yx func251 (λa w=>call251 a w) (show(decide (0<(([Hv,Hx].length:Nat):Int)))=true from rfl) (Jl W 51 4 QK ([Hv,Hx]) h.1 h.2 Q4 Bp (λd f=>Y0 h.2 f 0 xq (w0:=d))) (Jl W 51 4 QK ([Hv,Hx]) h.1 h.2 Q4 Bp (λd f=>ZE f 0 0 xq x4 rfl rfl (w0:=d))) func188 (λa w=>call188 a w) (yn ⟨#[2]⟩ 1 xq W)<|Yx (rfl:false=false) (show(decide (1<(([Hv,Hx].length:Nat):Int)))=true from rfl) (Jl W 51 4 QK ([Hv,Hx]) h.1 h.2 Q4 Bp (λd f=>Y0 h.2 f 1 xq (w0:=d))) (Jl W 51 4 QK ([Hv,Hx]) h.1 h.2 Q4 Bp (λd f=>ZE f 1 0 xq x4 rfl rfl (w0:=d))) func188 (λa w=>call188 a w) (yn ⟨#[1]⟩ 1 xq W) (rfl:false=false)<|Ky (show(decide (2<(([Hv,Hx].length:Nat):Int)))=false from rfl) (rfl:false=false) (show(decide ((([Hv,Hx].length:Nat):Int)>65536))=false from rfl) (qc 3 (Θ 1))<|ai (OC h.1 h.2 ([Hv,Hx]) xq W) λ(s:Hp)=>Ja (qc 3 (Θ 1)) func189 (λa w=>call189 a w)<|ai (fz s.1 s.2 Hv Hx x5 W) λ(b:Hp)=>have X:=Jl W 51 4 QK ([Hx,Hv]) b.1 b.2 Q4 Bp (λd f=>Y0 b.2 f 0 xq (w0:=d));Yx func252 (λa w=>call252 a w) func251 (λa w=>call251 a w) (show(decide (0<((2:Nat):Int)))=true from rfl) X (Jl W 51 4 QK ([Hx,Hv]) b.1 b.2 Q4 Bp (λd f=>ZE f 0 0 xq x4 rfl rfl (w0:=d))) func256<|have P:=Jl W 51 4 QK ([Hx,Hv]) b.1 b.2 Q4 Bp (λd f=>Y0 b.2 f 1 xq (w0:=d));Yx (λa w=>call256 a w) (rc W call65 λW=>GB ⟨#[1]⟩ true 0 W) (rfl:false=false) (show(decide (1<((2:Nat):Int)))=true from rfl) P (Jl W 51 4 QK ([Hx,Hv]) b.1 b.2 Q4 Bp (λd f=>ZE f 1 0 xq x4 rfl rfl (w0:=d))) func256 (λa w=>call256 a w)<|Yx (rc W call65 λW=>GB ⟨#[1]⟩ false 0 W) (rfl:false=false) (show(decide (2<((2:Nat):Int)))=false from rfl) (rfl:true=true) (show(decide (((2:Nat):Int)>4096))=false from rfl) (show(decide (0<((2:Nat):Int)))=true from rfl) X (Jl W 51 4 QK ([Hx,Hv]) b.1 b.2 Q4 Bp (λd f=>JW f 0 1 xq x4 rfl rfl (w0:=d)))<|X0 (rt p call59 λW p=>KA ⟨#[1]⟩ true 0 W xq (L0 rfl) (L0 rfl) p) X<|ai (Iz prog W 51 4 b.2 QK b.1 32 0 1 ([Hx,Hv]) ([Hx,Hv]) (.agg #[Ξ true,Ψ ⟨#[1]⟩,Θ 0]) (List.getD [Hx,Hv] 0 Bp) Q4 Bp (Qm 32 _ rfl) rfl rfl x4 xq (Lg.1 rfl) rfl) λ(D:Unit)=>KJ (show(decide (1<((2:Nat):Int)))=true from rfl) P (Jl W 51 4 QK ([Hx,Hv]) b.1 b.2 Q4 Bp (λd f=>JW f 1 1 xq x4 rfl rfl (w0:=d))) (rt p call59 λW p=>KA ⟨#[1]⟩ false 0 W xq (L0 rfl) (L0 rfl) p) P<|ai (Iz prog W 51 4 b.2 QK b.1 32 1 1 ([Hx,Hv]) ([Hx,Hv]) (.agg #[Ξ false,Ψ ⟨#[1]⟩,Θ 0]) (List.getD [Hx,Hv] 1 Bp) Q4 Bp (Qm 32 _ rfl) rfl rfl x4 xq (Lg.1 rfl) rfl) λ(E:Unit)=>Vv (show(decide (2<((2:Nat):Int)))=false from rfl) (qc 3 (Θ 1)) (qc 3 (Θ 1)) (qc 3 (Θ 1)) (qc 76 HKG) (qc 76 HKG)<|ai (YJ W 28 47 1 1 Zn ([]:List QQ) ([(HKH b)]) ([(HKH b)]) none 0 ([Θ 1,Ω b.1 2 b.2]) Xg Zb EL rfl xq rfl rfl) λ(x:Hp)=>Ja (qc 76 HKG) func94 (λa w=>call94 a w)<|tI W ⟨#[101,112,115]⟩ 9 [⟨#[101,112,115]⟩] 0 K rfl xq xq xq rfl λL=>tJ W L xq (pW W p) λN=>tI W ⟨#[98,117,100,103,101,116]⟩ 9 [⟨#[98,117,100,103,101,116]⟩] 0 N rfl xq xq xq rfl λO=>ue W ⟨#[57]⟩ O xq rfl 9 rfl λQ=>Vv func95 (λa w=>call95 a w) func136 (λa w=>call136 a w) (show(decide (((0:Nat):Int)>0))=false from rfl) (show(decide (((0:Nat):Int)>0))=false from rfl)<|uw F g (qZ,qO) ([Hx,Hv]) qQ 46 Q u b x) λF=>x5
variable{k:Int}
section
variable{g:Nat}{R0:Res}{w0:xH}
def mH(a:B8 prog w0 R0 48 #[.pointer (some ⟨g,0,none⟩)] (λ_:Empty=>.tuple #[]) (λ_:Empty=>ZI) λv=>∃z,v=BI z/\z=k):B8 prog w0 R0 25 #[.pointer (some ⟨g,0,none⟩)] (λ_:Unit=>.int .i64 k) (λ_=>ZI) (λ_=>False) :=
 ⟨(DN a).1,λW b x S c d=>((DN a).2 W b x S c d).mono λe n h=>h.imp (λ⟨y,f,i,j,l,m⟩=>by
  rcases y with y|⟨z,rfl⟩
  ·exact y.elim
  ·exact⟨(),f,i,j,l,m⟩) id⟩
def cx{R:β->Res}(a:B8 prog w0 R0 48 #[.pointer (some ⟨g,0,none⟩)] (λ_:β=>.tuple #[]) R λv=>∃z,v=BI z/\False):B8 prog w0 R0 25 #[.pointer (some ⟨g,0,none⟩)] (λ_:β=>.int .i64 (-1)) R (λ_=>False) :=
 ⟨(DN a).1,λW b x S c d=>((DN a).2 W b x S c d).mono λe m h=>h.imp (λ⟨y,f,i,j,k,l⟩=>by
  rcases y with y|⟨z,h⟩
  ·exact⟨y,f,i,j,k,l⟩
  ·exact h.elim) id⟩
end
variable{S:LnAK->χ}
def U5(e:∀Y,Jt l Y=S Y)(y:J3 l):(S y.1).Is (ZK (S y.1)):=e y.1▸jC y
section
variable{g t:Nat}{a b:y9}{n:Int}{sp:Nm×Nm}{ts:List Tm}{e:Nm}{M:Res}{y:Hp×Hp×Hp}{x:y9}{S:Nat->Prop}{w:xH}
def C0(h:(Qh g t (EA a b n sp ts e y) (Hl M sp ts y)).φ x S w):Five 0 w (ma sp ts e) (.slice y.1.1 1 y.1.2) (.slice none 0 0) (.slice y.2.2.1 1 y.2.2.2) (.slice none 0 0) (.slice none 0 0)/\RdK w y.2.2.1 1 2 λ_=>[.int .i64 1,.slice y.2.1.1 ts.length y.2.1.2]:=by
 let⟨_,_,_,_,⟨_,_,_,⟨_,_,_,⟨_,_,_,_,r,_⟩,l,_⟩,s,_⟩,_⟩:=(show _/\_/\∃d f,(∃m d f,(∃m d f,(∃m d f,_)/\_)/\_)/\_ from h)
 have z:∀ {α:Type} {k:Nat} {p:Rdg α},SlV 0 k p w ([]:List α) (.slice none 0 0):=⟨none,0,rfl,L4 _,λ_=>⟨rfl,rfl⟩,λh=>absurd h (T4 _)⟩
 refine⟨⟨im iy (nm0,nm0) r λ_ _=>L7 _,z,?_,z,z⟩,(JN Zb XM l).congr λj u=>by obtain rfl:=Nat.lt_one_iff.1 u;rfl⟩;let⟨A,c,v,B,C,D⟩:=im Zb XM l λ_ _=>L7 _
 refine⟨A,c,v,B,C,λE=>?_⟩;let⟨b,o,F,G,H⟩:=D E;refine⟨b,o,F,G,λi q=>?_⟩;let⟨cs,k1,I,J⟩:=H i q;obtain rfl:=Nat.lt_one_iff.1 (show i<1 from q);exact⟨cs,k1,⟨_,I,im Q4 Bp s λ_ _=>L7 _⟩,J⟩
def tr(sp:Nm×Nm)(ts:List Tm)(e:Nm)(y:Hp×Hp×Hp):y9:=.agg #[.int .i64 1,.int .i64 1,.slice y.1.1 1 y.1.2,.slice none 0 0,.slice y.2.2.1 1 y.2.2.2,.slice none 0 0,.bool e.b,.string e.s,.int .i64 e.e,.bool false,.string ⟨#[]⟩,.int .i64 0,.int .i64 9,.slice none 0 0]
def l7(W:xH):GJ prog W [Qh g t (EA a b n sp ts e y) M] (Instr.loadAt 35 (.pointer (some ⟨g,4,none⟩))) (tr sp ts e y):=Q2 λ_ c=>dh (o:=4) c (show 4+14<=19 by decide)
def oP{m:Sem y9}{R:y9}{w0:xH}(h:∀W,(RdK W y.2.2.1 1 2 λ_=>[.int .i64 1,.slice y.2.1.1 ts.length y.2.1.2])->Qp prog W m R):GJ prog w0 [Qh g t (EA a b n sp ts e y) (Hl M sp ts y)] m R:=λW _ x S c=>h W (C0 c).2 W (p5 _ _)
end
def OY{t:xM}(e:∀Y,Jt t.data.toList Y=S Y)(a:t.size<=65536)(w:xH):NewIn prog w [] 24 #[.string t] (λy:J3 t.data.toList=>.slice y.1.A0 (S y.1).ls.length y.1.c0) (λy=>ZK (S y.1)):=by
 obtain rfl:=funext e;exact Ik a w
def rT:xM:=⟨#[114,97,110,103,101,32,49,10,98,111,120,32,48,32,49,10,112,111,108,121,32,45,49,32,49,32,49,32,50,10,101,112,115,32,49,112,45,50,10,98,117,100,103,101,116,32,57,10]⟩
def txt:xM:=⟨#[114,97,110,103,101,32,49,10,98,111,120,32,48,32,49,10,112,111,108,121,32,49,32,50,32,45,49,32,49,10,101,112,115,32,49,47,52,10,98,117,100,103,101,116,32,57]⟩
def oa:∀Y,Jt txt.data.toList Y=LnAK.pt_0 Y:=λ_=>x5
def txg:xM:=⟨#[114,97,110,103,101,32,49,10,98,111,120,32,49,32,48,10,112,111,108,121,32,49,32,49,10,101,112,115,32,49,10,98,117,100,103,101,116,32,57]⟩
def n7:∀Y,Jt txg.data.toList Y=LnAK.pg_0 Y:=λ_=>x5
def oD:okX (ma (qZ,qO) [Hx,Hv] qQ):=⟨⟨⟨x4,x4,λp a=>(by cases a),x4⟩,x4,x4,x4,λp a=>by
 obtain rfl:=Ly.1 a;refine⟨x4,λt b=>?_⟩;simp[ma]at b;rcases b with rfl|rfl
 all_goals exact⟨x4,x4,x4,x4⟩,λp a=>(by cases a),λp a=>(by cases a),λx c=>by
 simp[Qk,ma]at c;rcases c with rfl|rfl|rfl|rfl
 all_goals exact⟨x4,x4,x4⟩⟩⟩
def pY:okX (ma (qO,qZ) [UD] qO):=⟨⟨⟨x4,x4,λp a=>(by cases a),x4⟩,x4,x4,x4,λp a=>by
 obtain rfl:=Ly.1 a;refine⟨x4,λt b=>?_⟩;simp[ma]at b;subst b;all_goals exact⟨x4,x4,x4,x4⟩,λp a=>(by cases a),λp a=>(by cases a),λx c=>by
 simp[Qk,ma]at c;rcases c with rfl|rfl|rfl|rfl
 all_goals exact⟨x4,x4,x4⟩⟩⟩
def WJ(W:xH)(p q:x0h):Qp prog W (do eqGuard .eql 32 p q (rN false ⟨#[]⟩ 0) (rN false ⟨#[]⟩ 0);binOp .eql 32 (rN false ⟨#[]⟩ 0) (rN false ⟨#[]⟩ 0)) (.bool true):=by
 have h:=RB W p q nm0 nm0;rwa [show CC nm0 nm0=true from x5]at h
def fA{t:xM}(f:0<=k)(l:t.size<=65536)(i:∀ {g:Nat} {Y:LnAK} {M:Res},(Jt t.data.toList Y).Is M->∀W,QV W->B8 prog W (Qh g 76 (χ.cs (Jt t.data.toList Y) j7) M) 48 #[x02 g] (λ_:Empty=>.tuple #[]) (λ_:Empty=>ZI) λv=>∃z,v=BI z/\z=k)(w:xH)(c:QV w):RetAt prog w 12 #[Ψ t,Θ k] (Ξ true) :=
 rk [.inl 1 1 f11,.br false,x09 3 1 [] (λ(b:J3 (t).data.toList)=>(Ω b.1.A0 (Jt t.data.toList b.1).ls.length b.1.c0,ZK (Jt t.data.toList b.1),[.giv 4 0 1 0 [5] (λ(e:Nat)=>[x07 4 1 1 (λ_=>False) (λ(d:Unit)=>(Θ k,ZI,[.br true,x05 2 5 (bV true),.inl 2 10 f9,x03 1 17 (Ξ true),x03 1 24 (Ξ true),.inl 1 40 f20,x05 1 1 (iV 0),x05 1 3 (iV 0),.unr 1,x05 4 2 (iV 0),.inl 1 49 f21,x05 1 1 (iV 0),x05 1 3 (iV 0),.unr 1,x05 4 2 (iV 0),.inl 1 56 f22,x05 1 1 (iV 0),x05 1 3 (iV 0),.unr 1,x05 4 2 (iV 0),.inl 1 63 f22,x05 1 1 (iV 0),x05 1 3 (iV 0),.unr 1,x05 4 2 (iV 0),.inl 1 70 f23,x05 1 1 (iV 0),x05 1 3 (iV 0),.unr 1,x05 4 2 (iV 0)]))])]))] λW j m=>have c:=Ql c j;Ja func11 (λa w=>call11 a w) (show(decide ((t.size:Int)>65536))=false from Lc x3)<|ai (Ik (t0:=t) x3 W) λ(b:J3 (t).data.toList)=>λ(e:Nat)=>ai (mH (i (g:=e) (jC b) W c))<|ai (λ(d:Unit)=>Yx (show(decide (k>=0))=true from Lk f) (show(k==k)=true from beq_self_eq_true k) func9 (λa w=>call9 a w) (WJ W (.tmp 19) (.tmp 21)) (WJ W (.tmp 26) (.tmp 28)) func20 (λa w=>call20 a w)<|Yx (show(((0:Nat):Int):Int)=0 from rfl) (show(((0:Nat):Int):Int)=0 from rfl) (show(((0:Nat):Int):Int)=0 from rfl) func21 (λa w=>call21 a w) (show(((0:Nat):Int):Int)=0 from rfl) (show(((0:Nat):Int):Int)=0 from rfl) (show(((0:Nat):Int):Int)=0 from rfl)<|Yx func22 (λa w=>call22 a w) (show(((0:Nat):Int):Int)=0 from rfl) (show(((0:Nat):Int):Int)=0 from rfl) (show(((0:Nat):Int):Int)=0 from rfl) func22 (λa w=>call22 a w) (show(((0:Nat):Int):Int)=0 from rfl)<|GL (show(((0:Nat):Int):Int)=0 from rfl) (show(((0:Nat):Int):Int)=0 from rfl) func23 (λa w=>call23 a w) (show(((0:Nat):Int):Int)=0 from rfl) (show(((0:Nat):Int):Int)=0 from rfl) (show(((0:Nat):Int):Int)=0 from rfl)<|(eB true true rfl)) (λ(_:y9) (h:False)=>h)
def EW{t:xM}(S:LnAK->χ)(e:∀Y,Jt t.data.toList Y=S Y)(a:0<=k)(b:t.size<=65536)(c:∀ {g:Nat} {Y:LnAK} {M:Res},(S Y).Is M->∀W,QV W->B8 prog W (Qh g 76 (χ.cs (S Y) j7) M) 48 #[.pointer (some ⟨g,0,none⟩)] (λ_:Empty=>.tuple #[]) (λ_:Empty=>ZI) λv=>∃z,v=BI z/\z=k)(w:xH)(d:QV w):RetAt prog w 12 #[.string t,.int .i64 k] (.bool true):=by
 obtain rfl:=funext e;exact fA a b c w d
def Qed(w:xH)(a:QV w):RetAt prog w 12 #[.string ⟨#[114,97,110,103,101,32,49,10,98,111,120,32,48]⟩,.int .i64 13] (.bool true):=EW LnAK.pb_0 (λ_=>x5) x4 xq ql w a
def Qee(w:xH)(a:QV w):RetAt prog w 12 #[.string ⟨#[114,97,110,103,101,32,49,10,98,111,120,32,48,32,49,32,50]⟩,.int .i64 16] (.bool true):=EW LnAK.pc_0 (λ_=>x5) x4 xq qy w a
def Qef(w:xH)(a:QV w):RetAt prog w 12 #[.string ⟨#[]⟩,.int .i64 0] (.bool true):=EW LnAK.pz_0 (λ_=>x5) x4 xq rv w a
def Qeg(w:xH)(a:QV w):RetAt prog w 12 #[.string ⟨#[114,97,110,103,32,49]⟩,.int .i64 0] (.bool true):=EW LnAK.pw_0 (λ_=>x5) x4 xq rm w a
def EY(W:xH)(p q:x0h)(a:xM):Qp prog W (do eqGuard .eql 9 p q (.string a) (.string a);binOp .eql 9 (.string a) (.string a)) (.bool true):=by
 have h:=IC W p q a a;rwa [show decide (a=a)=true from Lk rfl]at h
abbrev HKL(b:tH):=EA b.1.1 b.1.2 46 (qZ,qO) [Hx,Hv] qQ b.2
abbrev HKM(f:J3 (txt).data.toList)(b:tH):=Hl (ZK (LnAK.pt_0 f.1)) (qZ,qO) [Hx,Hv] b.2
abbrev HKN(b:tH):y9:=.agg #[.int .i64 1,.int .i64 1,.slice b.2.1.1 1 b.2.1.2,.slice none 0 0,.slice b.2.2.2.1 1 b.2.2.2.2,.slice none 0 0,.bool false,.string ⟨#[1]⟩,.int .i64 (-2),.bool false,.string ⟨#[]⟩,.int .i64 0,.int .i64 9,.slice none 0 0]
abbrev HKO(d:tH):=EA d.1.1 d.1.2 39 (qO,qZ) [UD] qO d.2
abbrev HKP(m:J3 (txg).data.toList)(d:tH):=Hl (ZK (LnAK.pg_0 m.1)) (qO,qZ) [UD] d.2
def Kh  (w:xH) (l:QV w) (p:Tab10 w):RetAt prog w 5 #[] (Ξ true) :=
 rk [.inl 1 0 f11,.br false,x09 3 1 [] (λ(f:J3 (txt).data.toList)=>(Ω f.1.A0 5 f.1.c0,ZK (LnAK.pt_0 f.1),[.giv 4 0 1 0 [5] (λ(n:Nat)=>[x07 4 1 1 (λ_=>False) (λ(b:tH)=>(Θ (-1),Qh n 76 (HKL b) (HKM f b),[x06 7 3 [1] (Ξ false),x06 9 3 [1] (HKN b),.o 9 4 (.retr [1] (Θ 0)),x06 12 3 [1] (HKN b),.o 2 1 (.retr [1] (.tuple #[Ψ rT,Θ 0])),.inl 3 0 f11,.br false,x09 3 1 [] (λ(m:J3 (txg).data.toList)=>(Ω m.1.A0 5 m.1.c0,ZK (LnAK.pg_0 m.1),[.giv 4 0 4 2 [5] (λ(q:Nat)=>[x07 4 1 3 (λ_=>False) (λ(d:tH)=>(Θ (-1),Qh q 76 (HKO d) (HKP m d),[x06 7 3 [3] (Ξ false),x06 9 3 [3] (.agg #[Θ 1,Θ 1,Ω d.2.1.1 1 d.2.1.2,x01,Ω d.2.2.2.1 1 d.2.2.2.2,x01,Ξ false,Ψ ⟨#[1]⟩,Θ 0,Ξ false,x00,Θ 0,Θ 9,x01]),.o 9 4 (.retr [3] (Θ 5)),.g 4 18 true,x06 4 20 [1] (.pointer (some (Q5 b.2.2.2.1 (0*2+0)))),x03 4 21 (.pointer (some (Q5 b.2.2.2.1 (0*2+(0+1))))),x06 4 22 [1] (Ω b.2.2.1.1 2 b.2.2.1.2),.g 4 27 true,x03 4 32 (Ξ true),x04 4 35 (bV true),x04 4 38 (bV true),x04 4 45 (bV true),x04 4 48 (bV true)]))])]))]))])]))] λW u v=>have l:=Ql l u;have p:=p.later u;Ja func11 (λa w=>call11 a w) (show(decide (((⟨#[114,97,110,103,101,32,49,10,98,111,120,32,48,32,49,10,112,111,108,121,32,49,32,50,32,45,49,32,49,10,101,112,115,32,49,47,52,10,98,117,100,103,101,116,32,57]⟩:xM).size:Int)>65536))=false from rfl)<|ai (OY oa xq W) λ(f:J3 (txt).data.toList)=>λ(n:Nat)=>ai (cx (qK (g:=n) (U5 oa f) W l))<|ai (λ(b:tH)=>Yx (Q2 (w0:=W) (g:=n) (t:=76) (cs:=(HKL b)) (M:=(HKM f b)) (λe r=>OX e 18 r rfl)) (l7 W:GJ prog W [Qh n 76 (HKL b) (HKM f b)] _ _) (p0 (λa w=>call16 a w) (λ(e:xH) (j:Below W.heap.size W e) (x:y9) (S:Nat->Prop) (h:(Qh n 76 (HKL b) (HKM f b)).φ x S e)=>(Ea _ oD e (Ql l j) (C0 h).1).at)) (l7 W:GJ prog W [Qh n 76 (HKL b) (HKM f b)] _ _) (p0 (λa w=>call7 a w) (λ(e:xH) (j:Below W.heap.size W e) (x:y9) (S:Nat->Prop) (h:(Qh n 76 (HKL b) (HKM f b)).φ x S e)=>(Vu oD e (Ql l j) (p.later j) (C0 h).1).at)) func11 (λa w=>call11 a w) (show(decide (((⟨#[114,97,110,103,101,32,49,10,98,111,120,32,49,32,48,10,112,111,108,121,32,49,32,49,10,101,112,115,32,49,10,98,117,100,103,101,116,32,57]⟩:xM).size:Int)>65536))=false from rfl)<|ai (OY n7 xq W) λ(m:J3 (txg).data.toList)=>λ(q:Nat)=>ai (cx (qC (g:=q) (U5 n7 m) W l))<|ai (λ(d:tH)=>Yx (Q2 (w0:=W) (g:=q) (t:=76) (cs:=(HKO d)) (M:=(HKP m d)) (λe r=>OX e 18 r rfl)) (l7 W:GJ prog W [Qh q 76 (HKO d) (HKP m d)] _ _) (p0 (λa w=>call16 a w) (λ(e:xH) (j:Below W.heap.size W e) (x:y9) (S:Nat->Prop) (h:(Qh q 76 (HKO d) (HKP m d)).φ x S e)=>(Ea _ pY e (Ql l j) (C0 h).1).at)) (show((1:Nat)==1)=true from rfl) (oP λe s=>J5 b.2.2.2.2 s 0 (Sw 0) (w0:=e):GJ prog W [Qh n 76 (HKL b) (HKM f b)] _ _) (AM W b.2.2.2.1 2 0 0) (oP λe s=>Ev e s 0 (0+1) (Sw 0) x4 rfl:GJ prog W [Qh n 76 (HKL b) (HKM f b)] _ _) (show((2:Nat)==2)=true from rfl)<|KJ (EY W (.tmp 55) (.const (Ψ ⟨#[114,97,110,103,101,32,49,10,98,111,120,32,48,32,49,10,112,111,108,121,32,45,49,32,49,32,49,32,50,10,101,112,115,32,49,112,45,50,10,98,117,100,103,101,116,32,57,10]⟩)) rT) (Qed W l) (Qee W l) (Qef W l) (Qeg W l)<|(eB true true rfl)) (λ(_:y9) (h:False)=>h)) (λ(_:y9) (h:False)=>h)
def iv{x:PV}(h:okX x):shortP x :=
 have c:(1048576:Nat)<=4294967296:=x4;have a:∀p,okP p->p.ts.length<=4294967296:=λp h=>h.len
 ⟨L6 h.o.l0.hb c,L6 h.o.l0.hs c,L6 h.o.np c,L6 h.o.nr c,L6 h.o.l0.hc c,λp k=>L6 (h.o.l0.hp p k) c,λp k=>a p (h.o.okp p k),λp k=>a p (h.o.okr p k),λn k=>a _ (h.o.okc n k)⟩
def gN{x:PV}{B:Nat}{n p q r s:xN}{t cs u z:Nat}(e:smallX x)(w:xH)(f:QV w)(c:Tab10 w)(i:Five B w x (Ω n x.box.length t) (Ω p x.κ.length cs) (Ω q x.ps.length u) (Ω r x.θ.length v) (Ω s x.ι.length z)):RetAt prog w 3 #[xA x n t p cs q u r v s z] (Ξ true) :=
 have A:=eB true;rk [x04 1 1 (bV (CH x)),.both [x04 2 0 (bV true)] [x09 3 1 [] (λ(b:NX)=>(xA x b.1.1 b.1.2 b.2.1.1 b.2.1.2 b.2.2.1.1 b.2.2.1.2 b.2.2.2.1.1 b.2.2.2.1.2 b.2.2.2.2.1 b.2.2.2.2.2,US x b,[.o 4 1 (.retr [0] (.tuple #[Ψ ((prnP x).1),Θ ((prnP x).2)])),x04 5 1 (.tup [sV ((prnP x).1),iV ((prnP x).2)]),x03 6 2 (Ξ true),.g 6 9 true,.o 6 11 (.retr [0] (Ξ true)),x04 6 14 (bV true)]))]] λW k C=>(λ(c:Tab10 W)=>have j:=i.below k;(λ(f:QV W)=>ai (sb e W j)<|Xi (CH x) (λv1=>ai (Kh W f c)<|(A true rfl)) λv1=>ai (mO e W j) λ(b:NX)=>Vv (OQ x b W (λa w=>call7 a w) (λl m d i=>Vu (RE e v1) l (Ql f d) (c.later d) i)) (eU (RE e v1) W j) (EY W (.tmp 23) (.tmp 24) ((prnP x).1)) (show(((prnP x).2)==((prnP x).2))=true from beq_self_eq_true _) (OQ x b W (λa w=>call9 a w) (λl m d i=>(by have h:=iz x x (iv (RE e v1)) l i (j.below d);rwa [sameB_iff.2 rfl]at h))) (Kh W f c)<|(A true rfl)) (Ql f k)) (c.later k)
open Go.WideShapes Go.ChangeShapes Go.Deep
section
variable{H:Type}{enc:o0×y9->H}{w:xH}{B:Nat}
def N9{d:DataW H}{l:List (DataW H)}(h:d∈l):Rows.uptoBulk d<=Rows.uptoBulkAll l:=by
 induction l with
 |nil=>cases h
 |cons x r a =>
  simp only[Rows.uptoBulkAll];cases Lb.1 h with
  |inl e=>subst e;omega
  |inr e=>have:=a e;omega
def lM(d:DataW H):1<=Rows.uptoBulk d:=by
 cases d with
 |lit l=>cases l<;>simp[Rows.uptoBulk]
 |nil=>simp[Rows.uptoBulk]
 |ptr d=>simp[Rows.uptoBulk]
 |slice a spare=>simp[Rows.uptoBulk]
 |agg parts=>simp[Rows.uptoBulk]
 |iface t d=>simp[Rows.uptoBulk]
 |map entries=>simp[Rows.uptoBulk]
 |held h=>simp[Rows.uptoBulk]
def lL(l:List (DataW H)):l.length<=Rows.uptoBulkAll l:=by
 induction l with
 |nil=>simp[Rows.uptoBulkAll]
 |cons x r a=>have:=lM x;simp only[Rows.uptoBulkAll,Li];omega
abbrev TR(enc:o0×y9->H)(w:xH)(a:Nat)(t:o0)(cs:o3)(x:DataW H×List MemPlace):Prop:=DataW.trod enc prog w 0 (λ_=>true) true a t cs=some x
theorem GH{t:o0}{e:Array Field}{a k:Nat}{cs:o3}{x:DataW H×List MemPlace}(l:prog.underlying t=some (.struct e))(o:prog.cellsOf t=k)(h:TR enc w a t cs x)(u:Rows.uptoBulk x.1<=B):
  cs.length=k/\∃n,∀(i:Nat) (f:Field) (m:Nat),e[i]?=some f->prog.cellsOf f.type=m->∃y,TR enc w n f.type ((cs.drop f.offset).take m) y/\Rows.uptoBulk y.1<=B:=by
 obtain⟨d,n,_,rfl,p,b,q⟩:=DataW.trod_struct l h;refine⟨p.trans o,n,λi f m g r=>?_⟩;subst r;have j:=q i f g;have c:i<d.length:=by rw[b];exact(b8.1 g).1
 rw[p6 c]at j;refine⟨_,j,?_⟩;have s:(d[i]).1∈d.map (·.1):=Lv.2 ⟨_,Rr c,rfl⟩;have v:=N9 s
 grind[Rows.uptoBulk]
def et{a:Addr}{v:y9}(b:w.cell? (a.add 0)=some v):∃blk off,a=⟨blk,off,none⟩:=by
 let⟨blk,off,sp⟩:=a;cases sp with
 |none=>exact⟨blk,off,rfl⟩
 |some x =>
  exfalso;simp only[Addr.add,if_true,World.cell?]at b;split at b
  ·simp at b
  ·cases b
theorem G2{α:Type}{t e k:Nat}(p:Rdg α)(Q:α->Prop)(d:α){f:Nat}{cs:o3}{x:DataW H×List MemPlace}(L:prog.underlying t=some (.slice e))(M:prog.cellsOf e=k)(N:0<k)(O:∀f cs x,TR enc w f e cs x->Rows.uptoBulk x.1<=B->∃a:α,p w a cs/\Q a)(h:TR enc w f t cs x)(I:Rows.uptoBulk x.1<=B):
  ∃(l:List α) (A:xN) (c:Nat),cs=[.slice A l.length c]/\SlV 0 k p w l (.slice A l.length c)/\l.length<=B/\∀a,a∈l->Q a:=by
 rcases open_slice L h with⟨z,_⟩|⟨a,len,cap,m,n,D,Pl,z,_,P,_,R,S,C⟩
 ·exact⟨[],none,0,z,SlV.nil_ _ _ _ _,L7 _,λa T=>by cases T⟩
 ·simp only[if_true]at R;rw[S]at I;simp only[Rows.uptoBulk]at I;have r:len<=B:=by
   have:=lL ((List.range len).map D)
   grind
  have key:∀i,∃x:o3×α,i<len->w.cells? 0 (a.add (i*k)) k=some x.1/\p w x.2 x.1/\Q x.2:=λi=>by
   by_cases o:i<len
   ·let⟨E,J,U⟩:=C i x3;rw[M]at J;have V:D i∈(List.range len).map D:=Lv.2 ⟨i,R7.2 o,rfl⟩;let⟨b,W,y⟩:=O _ _ _ U (by have:=N9 V;show Rows.uptoBulk (D i)<=B;omega);exact⟨(E,b),λ_=>⟨J,W,y⟩⟩
   ·exact⟨([],d),λh=>absurd h o⟩
  obtain⟨X,F⟩:∃X:Nat->o3×α,∀i,i<len->w.cells? 0 (a.add (i*k)) k=some (X i).1/\p w (X i).2 (X i).1/\Q (X i).2:=⟨λi=>Classical.choose (key i),λi C=>Lq (key i) C⟩
  have g:((List.range len).map λi=>(X i).2).length=len:=x6;refine⟨(List.range len).map λi=>(X i).2,some a,cap,by rw[g];exact z,⟨some a,cap,rfl,by rw[g];exact P,(λh=>nomatch h),λK=>?_⟩,by rw[g];exact r,λb Y=>?_⟩
  ·rw[g]at K;let⟨_,Z,G⟩:=World.cells?_some (F 0 K).1;have s:=G 0 N;rw[p6 x3,Ue,add_add]at s;obtain⟨blk,off,rfl⟩:=et s;refine⟨blk,off,rfl,L7 _,λi q=>?_⟩;have o:i<len:=by rw[g]at q;exact q
   let⟨q1,q2,q3⟩:=F i o;let⟨_,u,v⟩:=World.cells?_some q1;refine⟨(X i).1,u,?_,λj hj=>?_⟩
   ·rw[show((List.range len).map λi=>(X i).2)[i]=(X i).2 by simp];exact q2
   ·have y:=v j hj;rw[add_add,add_plain]at y;rw[Sf];exact y
  ·obtain⟨i,q,rfl⟩:=Lv.1 Y;exact(F i (R7.1 q)).2.2
def yl{α:Type}{l:List α}(h:l.length=6):∃a b c d e f,l=[a,b,c,d,e,f]:=by
 match l,h with | [a,b,c,d,e,f],_=>exact⟨a,b,c,d,e,f,rfl⟩
def Qdu{α:Type}{l:List α}(h:l.length=4):∃a b c d,l=[a,b,c,d]:=by
 match l,h with | [a,b,c,d],_=>exact⟨a,b,c,d,rfl⟩
def Qar{α:Type}{l:List α}(h:l.length=14):∃a b c d e f g i j k m n o p,l=[a,b,c,d,e,f,g,i,j,k,m,n,o,p]:=by
 match l,h with | [a,b,c,d,e,f,g,i,j,k,m,n,o,p],_=>exact⟨a,b,c,d,e,f,g,i,j,k,m,n,o,p,rfl⟩
def CY{c:Nat}{cs:o3}{x:DataW H×List MemPlace}(h:TR enc w c 32 cs x):∃a:Nm,VT w a cs:=by
 let⟨b,s,e,d,_⟩:=rG h;exact⟨⟨b,s,e⟩,d⟩
def lQ:prog.cellsOf 66=6:=x5
def lR:prog.cellsOf 51=4:=x5
def ub:prog.cellsOf 52=1:=x5
def Pr:prog.cellsOf 47=2:=x5
def lP:prog.cellsOf 49=6:=x5
def UA:prog.cellsOf 27=2:=x5
def jn:prog.cellsOf 35=14:=x5
def QcQ:prog.cellsOf 23=1:=x5
def jo:prog.cellsOf 25=1:=x5
def Oo:prog.cellsOf 28=1:=x5
def ua:prog.cellsOf 33=1:=x5
def s8:prog.cellsOf 45=1:=x5
abbrev BK(B:Nat)(d:DataW H):Prop:=Rows.uptoBulk d<=B
def xd{c:Nat}{cs:o3}{x:DataW H×List MemPlace}(h:TR enc w c 66 cs x)(k:BK B x.1):∃a:Nm×Nm,yN w a cs/\True:=by
 let⟨l,n,j⟩:=GH Tryz.underlying66 lQ h k;obtain⟨c0,d,e,f,g,i,rfl⟩:=yl l;let⟨r,m,_⟩:=(show ∃y,TR enc w n 32 [c0,d,e] y/\BK B y.1 from j 0 _ 3 rfl Kz)
 let⟨s,o,_⟩:=(show ∃y,TR enc w n 32 [f,g,i] y/\BK B y.1 from j 1 _ 3 rfl Kz)
 let⟨a,p⟩:=CY m;let⟨b,q⟩:=CY o;refine⟨(a,b),?_,trivial⟩;show[c0,d,e]++[f,g,i]=Xk a++Xk b;rw[show[c0,d,e]=Xk a from p,show[f,g,i]=Xk b from q]
theorem xe{c:Nat}{cs:o3}{x:DataW H×List MemPlace}(h:TR enc w c 51 cs x)(k:BK B x.1):∃a:Tm,Ye w a cs/\a.m.size<=B:=by
 let⟨l,n,i⟩:=GH Tryz.underlying51 lR h k;obtain⟨c0,d,e,f,rfl⟩:=Qdu l;let⟨o,p,g⟩:=(show ∃y,TR enc w n 9 [c0] y/\BK B y.1 from i 0 _ 1 rfl C9)
 let⟨v,q,_⟩:=(show ∃y,TR enc w n 32 [d,e,f] y/\BK B y.1 from i 1 _ 3 rfl Kz)
 let⟨s,r,t,_⟩:=DataW.trod_string Tryz.underlying9 p;let⟨b,u⟩:=CY q;refine⟨⟨s,b⟩,?_,?_⟩
 ·show[c0]++[d,e,f]=[.string s]++Xk b;rw[r,show[d,e,f]=Xk b from u]
 ·have j:Rows.uptoBulk o.1<=B:=g;rw[t]at j;simp[Rows.uptoBulk]at j
  grind
def rE{b:Nat}{cs:o3}{x:DataW H×List MemPlace}(h:TR enc w b 52 cs x)(d:BK B x.1):∃a:List Nm,kz 0 w a cs/\a.length<=B:=by
 let⟨l,A,c,e,f,g,_⟩:=G2 VT (λ_=>True) nm0 Tryz.underlying52 Kz x4 (λ_ _ _ h _=>by let⟨a,i⟩:=CY h;exact⟨a,i,trivial⟩) h d;exact⟨l,⟨_,e,f⟩,g⟩
def PQ(B:Nat)(p:Py):Prop:=p.ts.length<=B/\∀t,t∈p.ts->t.m.size<=B
def Nu{a:Nat}{cs:o3}{x:DataW H×List MemPlace}(h:TR enc w a 3 cs x):∃e:Int,cs=[.int .i64 e]/\-9223372036854775808<=e/\e<=9223372036854775807:=by
 let⟨e,c,_,b⟩:=DataW.trod_int Tryz.underlying3 h;simp only[Lit.wf,Lx,decide_eq_true_eq]at b;exact⟨e,c,b.1,b.2⟩
def Ku{a b:y9}(h:[a]=[b]):a=b:=by injection h
def SR{b:Nat}{cs:o3}{x:DataW H×List MemPlace}(h:TR enc w b 47 cs x)(d:BK B x.1):∃a:Py,dX 0 w a cs/\PQ B a:=by
 let⟨i,n,g⟩:=GH Tryz.underlying47 Pr h d;obtain⟨c0,j,rfl⟩:=yk i;let⟨v,k,_⟩:=(show ∃y,TR enc w n 3 [c0] y/\BK B y.1 from g 0 _ 1 rfl GA)
 let⟨z,o,f⟩:=(show ∃y,TR enc w n 45 [j] y/\BK B y.1 from g 1 _ 1 rfl s8)
 let⟨e,q,_⟩:=Nu k;let⟨l,A,c,k1,r,s,u⟩:=G2 Ye (λt=>t.m.size<=B) Bp Tryz.underlying45 lR x4 (λ_ _ _ h d=>xe h d) o f;rw[Ku q,Ku k1];exact⟨⟨e,l⟩,⟨_,rfl,r⟩,s,u⟩
def xc{c:Nat}{cs:o3}{x:DataW H×List MemPlace}(h:TR enc w c 49 cs x)(o:BK B x.1):∃a:Nd,lu 0 w a cs/\PQ B a.sum:=by
 let⟨p,n,d⟩:=GH Tryz.underlying49 lP h o;obtain⟨c0,g,i,j,r,s,rfl⟩:=yl p;let⟨G,t,_⟩:=(show ∃y,TR enc w n 3 [c0] y/\BK B y.1 from d 0 _ 1 rfl GA)
 let⟨I,u,_⟩:=(show ∃y,TR enc w n 32 [g,i,j] y/\BK B y.1 from d 1 _ 3 rfl Kz)
 let⟨J,z,f⟩:=(show ∃y,TR enc w n 47 [r,s] y/\BK B y.1 from d 2 _ 2 rfl Pr)
 let⟨e,A,_⟩:=Nu t;let⟨b,C⟩:=CY u;let⟨q,⟨v,D,E⟩,F⟩:=SR z f;have k:=List.cons.inj (show[g,i,j]=Xk b from C);have l:=List.cons.inj k.2;have m:=List.cons.inj D;rw[Ku A,k.1,l.1,Ku l.2,m.1,Ku m.2];exact⟨⟨e,b,q⟩,⟨v,rfl,E⟩,F⟩
def Qcp{r:Reach}{b0:Nat}{v:y9}{d:DataW H}{ps:List MemPlace}(i:Value.okWide prog w r b0 35 v)(h:DataW.Trod enc prog w 0 (λ_=>true) true 35 v d ps)(c:Rows.uptoBulk d<=1048576):
  ∃(x:PV) (s u z A C:xN) (D cs E F G:Nat),v=xA x s D u cs z E A F C G/\smallX x/\Five 0 w x (.slice s x.box.length D) (.slice u x.κ.length cs) (.slice z x.ps.length E) (.slice A x.θ.length F) (.slice C x.ι.length G):=by
 obtain⟨cs,rfl,ad⟩:=okWide_struct Tryz.underlying35 i;let⟨W,I⟩:=h;let⟨hl,n,f⟩:=GH (B:=1048576) Tryz.underlying35 jn I c;let⟨c0,c1,X,Y,c4,c5,Z,c7,c8,c9,j,k,J,K,m⟩:=Qar hl;rw[m]at f;let⟨y0,h0,_⟩:=(show ∃y,TR enc w n 3 [c0] y/\BK 1048576 y.1 from f 0 _ 1 rfl GA)
 let⟨y1,h1,_⟩:=(show ∃y,TR enc w n 3 [c1] y/\BK 1048576 y.1 from f 1 _ 1 rfl GA)
 let⟨y2,h2,L⟩:=(show ∃y,TR enc w n 27 [X,Y] y/\BK 1048576 y.1 from f 2 _ 2 rfl UA)
 let⟨y3,h3,M⟩:=(show ∃y,TR enc w n 28 [c4] y/\BK 1048576 y.1 from f 3 _ 1 rfl Oo)
 let⟨y4,h4,N⟩:=(show ∃y,TR enc w n 28 [c5] y/\BK 1048576 y.1 from f 4 _ 1 rfl Oo)
 let⟨y5,h5,_⟩:=(show ∃y,TR enc w n 32 [Z,c7,c8] y/\BK 1048576 y.1 from f 5 _ 3 rfl Kz)
 let⟨y6,h6,_⟩:=(show ∃y,TR enc w n 32 [c9,j,k] y/\BK 1048576 y.1 from f 6 _ 3 rfl Kz)
 let⟨y7,h7,_⟩:=(show ∃y,TR enc w n 3 [J] y/\BK 1048576 y.1 from f 7 _ 1 rfl GA)
 let⟨y8,h8,O⟩:=(show ∃y,TR enc w n 33 [K] y/\BK 1048576 y.1 from f 8 _ 1 rfl ua)
 let⟨_,n2,hg⟩:=GH Tryz.underlying27 UA h2 L;let⟨z0,g0,P⟩:=(show ∃y,TR enc w n2 23 [X] y/\BK 1048576 y.1 from hg 0 _ 1 rfl QcQ)
 let⟨z1,g1,R⟩:=(show ∃y,TR enc w n2 25 [Y] y/\BK 1048576 y.1 from hg 1 _ 1 rfl jo)
 let⟨δ,e0,_⟩:=Nu h0;let⟨vars,e1,ev⟩:=Nu h1;let⟨g,e7,_⟩:=Nu h7;let⟨o,e5⟩:=CY h5;let⟨e,e6⟩:=CY h6;let⟨box,s,D,e2,f2,S,_⟩:=G2 yN (λ_=>True) (nm0,nm0) Tryz.underlying23 lQ x4 (λ_ _ _ h c=>xd h c) g0 P;let⟨T,u,U,e3,f3,n3,q3⟩:=G2 (kz 0) (λl=>l.length<=1048576) [] Tryz.underlying25 ub x4 (λ_ _ _ h c=>rE h c) g1 R;let⟨pl,z,E,e4,f4,n4,q4⟩:=G2 (dX 0) (PQ 1048576) NU Tryz.underlying28 Pr x4 (λ_ _ _ h c=>SR h c) h3 M;let⟨rl,A,F,e8,f8,n8,q8⟩:=G2 (dX 0) (PQ 1048576) NU Tryz.underlying28 Pr x4 (λ_ _ _ h c=>SR h c) h4 N;let⟨ct,C,G,e9,f9,n9,q9⟩:=G2 (lu 0) (λa=>PQ 1048576 a.sum) Eh Tryz.underlying33 lP x4 (λ_ _ _ h c=>xc h c) h8 O;have u5:=List.cons.inj (show[Z,c7,c8]=Xk o from e5);have v5:=List.cons.inj u5.2;have u6:=List.cons.inj (show[c9,j,k]=Xk e from e6);have v6:=List.cons.inj u6.2;refine⟨⟨δ,vars,box,T,pl,rl,o,e,g,ct⟩,s,u,z,A,C,D,U,E,F,G,Lu Value.agg (Array.toList_inj.1 ?_),⟨S,n3,n4,n8,n9,q3,λp b=>(q4 p b).1,λp b=>(q8 p b).1,λp b=>(q9 p b).1,λp b t V=>?_,ev⟩,⟨f2,f3,f4,f8,f9⟩⟩
 ·rw[show cs.toList=_ from m,Ku e0,Ku e1,Ku e2,Ku e3,Ku e4,Ku e8,u5.1,v5.1,Ku v5.2,u6.1,v6.1,Ku v6.2,Ku e7,Ku e9]
 ·unfold KK at b;simp only[Lo,Lv]at b;rcases b with(b|b)|⟨q,b,rfl⟩
  ·exact(q4 p b).2 t V
  ·exact(q8 p b).2 t V
  ·exact(q9 q b).2 t V
end
