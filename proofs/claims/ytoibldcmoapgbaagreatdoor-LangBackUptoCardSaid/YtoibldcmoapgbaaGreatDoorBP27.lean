/- Laws beneath the statement. -/
import Derived.Test.YtoibldcmoapgbaaGreatDoorBP26
import Derived.Test.YtoibldcmoapgbaaGreatDoorRows
namespace Go.Proofs.YtoibldcmoapgbaaGreatDoor
set_option linter.defProp false
open Go.Proofs.Tryz
set_option maxRecDepth 100000
open Go Go.RowKit Go.Lib
variable{z:Int}{k:Nat}
theorem Mq(h:z.natAbs<10^k)(hk:0<k):(itoa z).length<=k+1:=by
 unfold itoa;split
 ·rw[Li,Ji];simp_all[Jy]
 ·rw[Ji];have:=Jy (v:=z.toNat) (k:=k) (by rwa [show z.toNat=z.natAbs by omega]) hk;omega
theorem oN{x:Nm}(h:gI x):(Yc x).data.toList.length<=25:=by
 let⟨h1,h2,h3⟩:=h;have a:(dm (nv x)).natAbs<10^20:=by
  have c:(dm (nv x)).natAbs<=(Qe x.b (Qa x.s)).natAbs:=x9 _ _;rw[Xd]at c;have d:=Dk x.s;have e:(256:Nat)^x.s.size<=256^8:=Lh x4 h2;omega
 have f:=Mq a x4;have g:(itoa (de (nv x))).length<=3:=Mq (k:=2) (by rw[Qc6 h1];omega) x4;show(yt (nv x)).toArray.toList.length<=25
 grind[yt]
theorem eV(h:0<=z/\z<=512):(Qz z).data.toList.length<=25:=by
 rw[Nz];have:=Mq (z:=z) (k:=3) x3 x4;omega
theorem dA:∀ {l:List m1},(∀t,t∈l->t.data.toList.length<=25)->l≠[]->(ZJ l).length<=26*l.length
 |[],_,h=>absurd rfl h
 |[t],h,_=>by
  simp_all[ZJ,Hw,zj,Lib.join_one]
 |t::u::r,h,_=>by
  have h1:=h t x6;have h2:=dA (l:=u::r) (λx a=>h x (by simp at a ⊢;exact .inr a)) x6;unfold ZJ at h2 ⊢;rw[PZ];simp only[La,Li,S9]at h2 ⊢;omega
theorem gu:∀ {L:List (List m1)},(∀l,l∈L->l≠[]/\∀t,t∈l->t.data.toList.length<=25)->(L.flatMap ZJ).length<=26*(L.map List.length).sum
 |[],_=>L4 _
 |l::L,h=>by
  let⟨h1,h2⟩:=h l x6;have h3:=dA h2 h1;have b:=gu (L:=L) λx a=>h x (by simp[a])
  grind
theorem aE(s:List UInt8)(a:Int):∀k,2*(Qd s a k).1.length+(match (Qd s a k).2 with|none=>0|some _=>1)<=k
 |0=>L4 _
 |k+1=>by
  have h:=aE s a k
  grind[ZT,Qd,D3]
variable{s:List UInt8}
def wZ{a:Int}:2*(YI s a).length<=s.length+1:=by
 have h:=aE s a s.length;unfold YI D3;cases e:(Qd s a s.length).2 with
 |none=>rw[e]at h;dsimp only at h ⊢;omega
 |some i=>rw[e]at h;dsimp only at h ⊢;rw[La,Ro];omega
def fy:∀(ls:List (List UInt8)) (a:Int),2*((Qo ls a).map λn=>n.l.length).sum<=P4 ls
 |[],_=>L4 _
 |l::r,a=>by
  have b:=fy r (a+(l.length:Int)+1);have h:=wZ (s:=l) (a:=a);unfold Qo;show _<=l.length+1+P4 r;cases VE (YI l a)with
  |false=>rw[cond_false];omega
  |true=>rw[cond_true,Tf,List.sum_cons];dsimp only;omega
def ma(s:List UInt8):2*tw (J2 s)<=s.length+1:=by
 have:=fy (Qi s) 0;rw[FC]at this;show 2*(0+((Qo (Qi s) 0).map λn=>n.l.length).sum)<=_;omega
variable{p:Py}
theorem pQ{n:Nat}(d:lk n p)(e:ZQ p=true):∀t,t∈EM p->t.data.toList.length<=25:=λt a=>by
 unfold EM eC at a;simp only[Sa,Lb,Lv]at a;obtain⟨y,c,rfl|⟨b,g,rfl⟩⟩:=a
 ·exact oN ⟨d.1.f y c,((Fs e).2 y c).1⟩
 grind[Fs,eV]
section
variable{x:PV}{v V:Nat}(h:PbG x v V)
include h
theorem eJ:∀l,l∈Dt x->l≠[]/\∀t,t∈l->t.data.toList.length<=25:=by
 have i:∀ {w:m1} {r:List m1},w.data.toList.length<=25->(∀t,t∈r->t.data.toList.length<=25)->(w::r)≠[]/\∀t,t∈w::r->t.data.toList.length<=25:=λh1 h3=>⟨List.cons_ne_nil _ _,λt d=>by
  grind⟩
 have j:∀y,y∈Qk x.ν x.ε x.box x.κ x.ι->(Yc y).data.toList.length<=25:=λy A=>oN (h.a y A)
 have h1:∀ {t u:m1},u.data.toList.length<=25->t∈[u]->t.data.toList.length<=25:=λB d=>Ly.1 d▸B
 have H:=h.q;have C:=h.v4;have D:=h.b;have E:∀p,p∈x.ps->ZQ p=true:=λp f=>h.g p (by unfold KK;simp[f])
 have F:∀p,p∈x.θ->ZQ p=true:=λp f=>h.g p (by unfold KK;simp[f])
 intro l hl;unfold Dt at hl;simp only[Lb,Lo,Lv]at hl;rcases hl with rfl|rfl|⟨p,f,rfl⟩|⟨p,f,rfl⟩|⟨n,m,rfl⟩|hl
 ·refine i ?_ λt d=>h1 (eV x3) d
  have key:∀n:Fin 7,(wKinds.getD n.val ⟨#[]⟩).data.toList.length<=25:=x4;have:=h.k;exact key ⟨x.δ.toNat,x3⟩
 ·unfold BE;refine i (by cases x.box.length==0<;>decide) λt d=>?_
  simp only[Lo,Sa,Lv,Lb,Ri,or_false]at d;rcases d with⟨s,v,rfl|rfl⟩|⟨p,f,a,G,rfl⟩
  ·exact j _ (VH v).1
  ·exact j _ (VH v).2
  ·exact j _ (It f G)
 ·exact i x4 (pQ (h.p p f) (E p f))
 ·exact i x4 (pQ (h.r p f) (F p f))
 ·unfold OL;cases e:n.split==0
  ·exact i x4 λt d=>nomatch d
  ·have o:(x.δ==6)=true:=by
    cases o:x.δ==6 with
    |true=>rfl
    |false=>rw[h.c6 o]at m;cases m
   refine i x4 λt d=>?_
   rcases Lb.1 d with rfl|d
   ·exact j _ (by unfold Qk;simp only[Lo,Sa];right;exact⟨n,m,x6⟩)
   ·exact pQ (((h.c o).2.2.2.2 n m).2 e).2.2 (h.g _ (by unfold KK;simp only[Lo,Lv];right;exact⟨n,m,rfl⟩)) t d
 ·unfold Gy at hl;cases e:x.δ==6 with
  |true=>rw[e]at hl;cases hl
  |false =>
   rw[e]at hl;have I:[Qy,Qz x.ζ]≠[]/\∀t,t∈[Qy,Qz x.ζ]->t.data.toList.length<=25:=i x4 λt d=>h1 (eV D) d
   have J:[Zh,Yc x.ν]≠[]/\∀t,t∈[Zh,Yc x.ν]->t.data.toList.length<=25:=i x4 λt d=>h1 (j _ (by unfold Qk;simp)) d
   have K:[Xh,Yc x.ε]≠[]/\∀t,t∈[Xh,Yc x.ε]->t.data.toList.length<=25:=i x4 λt d=>h1 (j _ (by unfold Qk;simp)) d
   cases z:x.δ==4 with
   |true =>
    rw[z]at hl;simp only[cond_false,cond_true,Lb,Lo,Ri,or_false]at hl;rcases hl with rfl|rfl|rfl<;>assumption
   |false =>
    rw[z]at hl;simp only[cond_false,Lb,Lo,Ri,or_false,false_or]at hl;rcases hl with rfl|rfl<;>assumption
theorem xo:((Dt x).map List.length).sum=sD x:=by
 have a:∀p:Py,(EM p).length=BM p.ts:=λp=>by
  unfold EM BM;rw[Tt];congr 1;simp[eC,T8]
 have b:∀(w:m1) (l:List Py),((l.map λp=>w::EM p).map List.length).sum=MS l:=λw l=>by
  grind[MS,S6]
 have c:((x.ι.map OL).map List.length).sum=kh x.ι:=by
  grind[kh,S6,OL]
 have f:((Gy x.δ x.ν x.ε x.ζ).map List.length).sum=FZ x.δ:=by
  unfold Gy FZ;cases x.δ==6<;>cases x.δ==4<;>rfl
 have g:(BE x.box x.κ).length=1+(2*x.box.length+x.vars.toNat*x.κ.length):=by
  have h1:(x.box.flatMap λs=>[Yc s.1,Yc s.2]).length=2*x.box.length:=by
   rw[Tt];show(x.box.map λ_=>2).sum=_;rw[List.map_const',List.sum_replicate_nat];omega
  have h2:(x.κ.flatMap λp=>p.map Yc).length=x.vars.toNat*x.κ.length:=by
   rw[Tt];have h3:x.κ.map (λp=>(p.map Yc).length)=x.κ.map λ_=>x.vars.toNat:=S6 λp a=>by
    rw[Rg];have j:=h.q;rcases h.d.2 with⟨_,e,_⟩|⟨_,_,_,i⟩
    ·rw[e]at a;cases a
    ·have:=(i p a).1;omega
   rw[h3,List.map_const',List.sum_replicate_nat];exact Ls _ _
  unfold BE;rw[Li,La,h1,h2];omega
 unfold Dt sD;simp only[Tf,Rv,List.sum_cons,List.sum_append,b,c,f,g,Li,S9];omega
end
def xm{x:PV}(h:chkN x=0):(VP x).length<=26*sD x:=by
 let⟨v,V,h⟩:=Pu h;rw[<- xo h];exact gu (eJ h)
theorem lF{z:PV}{m:Bool}{f:FD}(h:XD (J2 s)=.ok ((z,m),f))(a:chkN z=0)(b:s.length<=3000):(VP z).length<=65536:=by
 have h1:=xm a;have h2:=Qb8 rZ h;have h2:sD z+tw f<=0+tw (J2 s):=h2;have h3:=ma s;omega
def pF(_:Unit):o3:=[undef,undef]
def PC.P(k v:Int)(b s p r:y9):PC:=⟨k,v,b,s,p,r,nm0,nm0,0,.slice none 0 0⟩
def WW(δ vars:Int):Pz (PV×Bool):=bnd (Ko δ vars) λd=>bnd (KX vars (QY δ vars).toNat [] false) λp=>bnd (ZA δ vars 70000 [] p.2) λr=>DN δ ⟨δ,vars,d.1,d.2,p.1,r.1,nm0,nm0,0,[]⟩ r.2
section
variable{s t u:χ}{k v z:Int}(h:Qv wKinds s.fd=.ok (k,t.fd))
theorem Qbh(h:Qv wKinds s.fd=.error z):XD s.fd=.error z:=Xc h
include h
theorem Qbi(h2:QQ 99 t.fd=.error z):XD s.fd=.error z:=(QA h).trans (Xc (Xc h2))
variable(h2:QQ 99 t.fd=.ok (v,u.fd))
include h2
theorem Qbj(h3:decide (v>0)=false):XD s.fd=.error (Qg t.l 0).a:=(QA h).trans (Xc ((QA h2).trans (Xc (EA h3))))
theorem Qbk(h3:decide (v>0)=true):XD s.fd=WW k v u.fd:=(QA h).trans (QA ((QA h2).trans (QA (EB h3))))
end
structure Z1 where
 δ:Int
 v:Nat
 t:χ
structure Z1.Ok (z:Z1) (s:χ) (M:Res):Prop where
 k:XD s.fd=WW z.δ z.v z.t.fd
 i:z.t.In M
 v1:1<=z.v
 v2:z.v<=99
variable{s u:χ}{M:Res}
theorem QeJ{t:χ}{k v:Int}(h:Qv wKinds s.fd=.ok (k,t.fd))(h2:QQ 99 t.fd=.ok (v,u.fd))(h0:0<=v/\v<=99)(h3:decide (v>0)=true)(i:u.In M):Z1.Ok ⟨k,v.toNat,u⟩ s M:=by
 have a:=L0 h3;refine⟨?_,i,(by show 1<=v.toNat;omega),(by show v.toNat<=99;omega)⟩
 grind[Qbk]
variable{g:Nat}{b:y9}{S:Nat->Prop}{w:m0}
theorem vV{t:Nat}{k v:Int}{s p r:y9}{m:Bool}(h0:0<=v){X:y9}(h:(Qh g t (χ.cs u (PC.l (PC.P k v b s p r) m)) M).φ X S w):(Qh g t (χ.cs u (PC.l (PC.P k (v.toNat:Int) b s p r) m)) M).φ X S w:=by
 grind
theorem vM(k v:Int)(W:m0):RetAt prog W 42 #[.int .i64 k,.int .i64 v] (.int .i64 (((QY k v).toNat:Nat):Int)):=by
 grind[QY,ia]
def χ.pls(v:Nat):Nat->χ->χ
 |0,s=>s
 |k+1,s=>χ.trm v (χ.nx (χ.ln (χ.pls v k s)))
def E7(v:Nat)(s:χ)(j:Nat):Py:=QP v (χ.nx (χ.ln (χ.pls v j s)))
def VJ(v:Nat)(s:χ)(k:Nat):List Py:=(List.range k).map (E7 v s)
def ZZ(v:Nat)(s:χ)(m:Bool):Nat->Bool
 |0=>m
 |k+1=>ZZ v s m k||XX v (χ.nx (χ.ln (χ.pls v k s)))
def Jp(v:Nat)(s:χ):LP:=VU 56 4 QK (λi=>[.int .i64 (E7 v s i).vars]) (λi=>(E7 v s i).ts)
def WT(v:Nat)(s:χ)(k:Nat):VJ v s k++[E7 v s k]=VJ v s (k+1):=by simp[VJ,S7]
theorem A9(v:Nat)(s:χ)(k:Nat):(VJ v s k).length=k:=by simp[VJ]
variable{v:Nat}
def sy_pls{A:m3}{c:Nat}:Sy (Qx 52 2 k (Jp v s) A c) λw=>SlV 0 2 (dX 0) w (VJ v s k) (.slice A (VJ v s k).length c):=λ_ _ w h=>by
 rw[A9];exact bu Q4 Bp (A9 v s k).symm h (λ_ _=>L7 _) λj d a b=>by
  have e:(VJ v s k)[j]=E7 v s j:=by simp only[VJ,List.getElem_map,Tw]
  rw[e];exact⟨a,rfl,b⟩
structure PlI (N v:Nat) (s:χ) (M:Res) (k:Nat):Prop where
 e:KX v N [] false s.fd=KX v (N-k) (VJ v s k) (ZZ v s false k) (χ.pls v k s).fd
 i:(χ.pls v k s).In M
 le:k<=N
 b:v<=99
 o:∀j,j<k->okP (E7 v s j)
def po(b:v<=99)(i:(χ.nx (χ.ln (χ.pls v k s))).In M)(h:∀j,j<k->okP (E7 v s j)):∀j,j<k+1->okP (E7 v s j):=λj a=>by
 rcases Nat.lt_or_eq_of_le (U3 a)with a|rfl
 ·exact h j a
 ·exact iR i (L6 b x4)
theorem pm(h:∀j,j<k->okP (E7 v s j)):∀p,p∈VJ v s k->okP p:=λp a=>by
 obtain⟨j,b,rfl⟩:=Lv.1 a
 grind
section
variable{N v k:Nat}{s:χ}{M:Res}(h:PlI N v s M k)(hk:k<N)
include h hk
theorem PlI.go:KX v N [] false s.fd=bnd (Qv [ZC]) (λ_=>bnd (QC v) λp=>KX v (N-(k+1)) (VJ v s k++[p.1]) (ZZ v s false k||p.2)) (χ.pls v k s).fd:=by
 rw[h.e,show N-k=(N-(k+1))+1 by omega];rfl
theorem PlI.line_e(e:Qv [ZC] (χ.pls v k s).fd=.error z):KX v N [] false s.fd=.error z:=(h.go hk).trans (Xc e)
variable{a:Int}(e1:Qv [ZC] (χ.pls v k s).fd=.ok (a,(χ.nx (χ.ln (χ.pls v k s))).fd))
include e1
theorem PlI.trm_e{z:Int}(e:QC v (χ.nx (χ.ln (χ.pls v k s))).fd=.error z):KX v N [] false s.fd=.error z:=(h.go hk).trans ((QA e1).trans (Xc e))
theorem PlI.at(a:QC v (χ.nx (χ.ln (χ.pls v k s))).fd=.ok ((E7 v s k,XX v (χ.nx (χ.ln (χ.pls v k s)))),(χ.pls v (k+1) s).fd)):PlI N v s M (k+1):=by
 refine⟨?_,((h.i.ln (QZ e1)).nx.trm v),hk,h.b,po h.b (h.i.ln (QZ e1)).nx h.o⟩;rw[h.go hk,QA e1,QA a,<- WT];rfl
end
theorem JL(δ:Int)(h:v<=99):(QY δ v).toNat<=100:=by
 grind[QY]
structure Z2 where
 t:χ
 m:Bool
 A:Option Addr
 c:Nat
 l:List Py
 M':Res
structure Z2.Ok (z:Z2) (z1:Z1) (y:DmY) (s:χ):Prop where
 e:XD s.fd=bnd (ZA z1.δ z1.v 70000 [] z.m) (λr=>DN z1.δ ⟨z1.δ,z1.v,y.bx,y.κ,z.l,r.1,nm0,nm0,0,[]⟩ r.2) z.t.fd
 i:z.t.In z.M'
 u:Up y.M' z.M'
 p:Sy z.M' λw=>SlV 0 2 (dX 0) w z.l (.slice z.A z.l.length z.c)
 n:z.l.length<=4001
 o:∀p,p∈z.l->okP p
structure Z2.Ok3 (z:Z2) (z2:Z2) (z1:Z1) (y:DmY) (s:χ):Prop where
 e:XD s.fd=DN z1.δ ⟨z1.δ,z1.v,y.bx,y.κ,z2.l,z.l,nm0,nm0,0,[]⟩ z.m z.t.fd
 i:z.t.In z2.M'
 p:Sy z.M' λw=>SlV 0 2 (dX 0) w z.l (.slice z.A z.l.length z.c)
 f:Pe z.M'
 n:z.l.length<=4001
 o:∀p,p∈z.l->okP p
section
variable{z1:Z1}{y:DmY}{s:χ}{M:Res}(h1:z1.Ok s M)(h2:y.Ok z1.δ z1.v z1.t M)
include h1 in
theorem Qfy(h:Ko z1.δ z1.v z1.t.fd=.error z):XD s.fd=.error z:=by
 rw[h1.k];simp_all[WW,Xc]
include h1 h2
theorem ph:XD s.fd=bnd (KX z1.v (QY z1.δ z1.v).toNat [] false) (λp=>bnd (ZA z1.δ z1.v 70000 [] p.2) λr=>DN z1.δ ⟨z1.δ,z1.v,y.bx,y.κ,p.1,r.1,nm0,nm0,0,[]⟩ r.2) y.t.fd:=by
 rw[h1.k];unfold WW;rw[QA h2.e]
theorem QeK{a:Hp}(h:PlI (QY z1.δ z1.v).toNat z1.v y.t y.M' k)(hk:(QY z1.δ z1.v).toNat<=k):Z2.Ok ⟨χ.pls z1.v k y.t,ZZ z1.v y.t false k,a.1,a.2,VJ z1.v y.t k,Qj y.M' (Qx 52 2 k (Jp z1.v y.t) a.1 a.2)⟩ z1 y s:=by
 have e:=h.e;have hk:k=(QY z1.δ z1.v).toNat:=Ra h.le hk;rw[<- hk,Tp]at e;have b:KX z1.v k [] false y.t.fd=.ok ((VJ z1.v y.t k,ZZ z1.v y.t false k),(χ.pls z1.v k y.t).fd):=e;refine⟨?_,h.i.up (Up.pair _ _),Up.pair _ _,sy_pls.up (Up.snd _ _),?_,pm h.o⟩
 rotate_left
 ·show(VJ z1.v y.t k).length<=4001;rw[A9,hk];exact L6 (JL z1.δ h1.v2) x4
 rw[ph h1 h2,<- hk,QA b]
end
structure RuI (δ:Int) (v:Nat) (s:χ) (m:Bool) (M:Res) (k:Nat):Prop where
 e:ZA δ v 70000 [] m s.fd=ZA δ v (70000-k) (VJ v s k) (ZZ v s m k) (χ.pls v k s).fd
 i:(χ.pls v k s).In M
 n:k+(χ.pls v k s).ls.length=s.ls.length
 b:v<=99
 o:∀j,j<k->okP (E7 v s j)
def n7(δ:Int)(v f:Nat)(l:List Py)(m:Bool):ZA δ v (f+1) l m=bif δ==4 then(λs=>bif BP Xu s then(bnd (Qv [Xu]) λ_=>bnd (QC v) λp=>ZA δ v f (l++[p.1]) (m||p.2)) s else rtn (l,m) s)else rtn (l,m):=rfl
section
variable{δ:Int}{v k:Nat}{s:χ}{m:Bool}{M:Res}(h:RuI δ v s m M k)(hl:s.ls.length<=4001)
include h hl
theorem RuI.lt:k<=4001:=hA h.n
theorem RuI.fin(h0:(δ==4)=false\/(δ==4)=true/\BP Xu (χ.pls v k s).fd=false):ZA δ v 70000 [] m s.fd=.ok ((VJ v s k,ZZ v s m k),(χ.pls v k s).fd):=by
 have h1:=h.lt hl;rw[h.e,show 70000-k=(70000-(k+1))+1 by omega,n7];rcases h0 with h0|⟨h0,h2⟩
 ·rw[h0];rfl
 ·rw[h0];show(bif BP Xu (χ.pls v k s).fd then _ else _)=_;rw[h2];rfl
variable(h0:(δ==4)=true)(h2:BP Xu (χ.pls v k s).fd=true)
include h0 h2
theorem RuI.go:ZA δ v 70000 [] m s.fd=bnd (Qv [Xu]) (λ_=>bnd (QC v) λp=>ZA δ v (70000-(k+1)) (VJ v s k++[p.1]) (ZZ v s m k||p.2)) (χ.pls v k s).fd:=by
 have h1:=h.lt hl;rw[h.e,show 70000-k=(70000-(k+1))+1 by omega,n7,h0]
 grind
theorem RuI.line_e{z:Int}(e:Qv [Xu] (χ.pls v k s).fd=.error z):ZA δ v 70000 [] m s.fd=.error z:=(h.go hl h0 h2).trans (Xc e)
variable{a:Int}(e1:Qv [Xu] (χ.pls v k s).fd=.ok (a,(χ.nx (χ.ln (χ.pls v k s))).fd))
include e1
theorem RuI.trm_e{z:Int}(e:QC v (χ.nx (χ.ln (χ.pls v k s))).fd=.error z):ZA δ v 70000 [] m s.fd=.error z:=(h.go hl h0 h2).trans ((QA e1).trans (Xc e))
theorem RuI.at(c:QC v (χ.nx (χ.ln (χ.pls v k s))).fd=.ok ((E7 v s k,XX v (χ.nx (χ.ln (χ.pls v k s)))),(χ.pls v (k+1) s).fd)):RuI δ v s m M (k+1):=by
 have a:=QZ e1;refine⟨?_,((h.i.ln a).nx.trm v),?_,h.b,po h.b (h.i.ln a).nx h.o⟩
 ·rw[h.go hl h0 h2,QA e1,QA c,<- WT];rfl
 ·show k+1+(χ.trm v (χ.nx (χ.ln (χ.pls v k s)))).ls.length=_;unfold χ.trm;rw[RW];show k+1+((χ.pls v k s).ls.drop 1).length=_;rw[Lf];have:=h.n;omega
end
variable{a:Z2}{z1:Z1}{y:DmY}
def sw{b:Hp}(h2:a.Ok z1 y s)(h:RuI z1.δ z1.v a.t a.m a.M' k)(h0:(z1.δ==4)=false\/(z1.δ==4)=true/\BP Xu (χ.pls z1.v k a.t).fd=false):Z2.Ok3 ⟨χ.pls z1.v k a.t,ZZ z1.v a.t a.m k,b.1,b.2,VJ z1.v a.t k,Qx 52 2 k (Jp z1.v a.t) b.1 b.2⟩ a z1 y s :=
 ⟨by rw[h2.e,QA (h.fin h2.i.f.n h0)],h.i,sy_pls,AO,(show(VJ _ _ _).length<=4001 from(A9 _ _ _).symm▸h.lt h2.i.f.n),pm h.o⟩
section
variable{s:χ}
theorem Bt(h:decide ((s.ls.length:Int)>0)=true)(h2:decide ((Qg (Xv s.ls 0).l 0).s=Xu)=true):BP Xu s.fd=true:=by
 show(bif decide ((s.ls.length:Int)>0)then decide ((Qg (Xv s.ls 0).l 0).s=Xu)else false)=true
 grind
theorem QcG(h:decide ((s.ls.length:Int)>0)=true)(h2:decide ((Qg (Xv s.ls 0).l 0).s=Xu)=false):BP Xu s.fd=false:=by
 show(bif decide ((s.ls.length:Int)>0)then decide ((Qg (Xv s.ls 0).l 0).s=Xu)else false)=false
 grind
def QcF(h:decide ((s.ls.length:Int)>0)=false):BP Xu s.fd=false:=by
 show(bif decide ((s.ls.length:Int)>0)then decide ((Qg (Xv s.ls 0).l 0).s=Xu)else false)=false;rw[h];rfl
end
theorem vv{t:Nat}{K V:Int}{s r:y9}{A:m3}{c:Nat}{U:χ}{m:Bool}{X:y9}(h:(Qh g t (χ.cs u (PC.l (PC.P K V b s (.slice A k c) r) m)) M).φ X S w):(Qh g t (χ.cs u (PC.l (PC.P K V b s (.slice A (VJ v U k).length c) r) m)) M).φ X S w:=by
 grind[A9]
theorem RN{t:Nat}{K V:Int}{s p:y9}{A:m3}{c:Nat}{U:χ}{m:Bool}{X:y9}(h:(Qh g t (χ.cs u (PC.l (PC.P K V b s p (.slice A k c)) m)) M).φ X S w):(Qh g t (χ.cs u (PC.l (PC.P K V b s p (.slice A (VJ v U k).length c)) m)) M).φ X S w:=by
 grind[A9]
def wv(h2:a.Ok z1 y s)(h:ZA z1.δ z1.v 70000 [] a.m a.t.fd=.error z):XD s.fd=.error z:=h2.e.trans (Xc h)
section
variable{δ:Int}{x:PV}{m:Bool}{t:FD}{z:Int}
def RT(h:(δ==6)=true):DN δ x m t=bnd (XJ (Gp x.box.length x.κ.length) 70000 1 [] m) (λc=>bnd Ew λ_=>rtn ({ x with ι:=c.1 },c.2)) t:=by unfold DN;rw[h]<;>rfl
def RU(h:(δ==6)=false):DN δ x m t=bnd (K8 δ) (λt=>bnd Ew λ_=>rtn ({ x with ν:=t.1,ε:=t.2.1,ζ:=t.2.2 },m)) t:=by unfold DN;rw[h]<;>rfl
end
def nO(h:XF s.fd=.ok ((),s.fd))(h0:decide ((s.ls.length:Int)>0)=false):Ew s.fd=.ok ((),s.fd):=by
 let⟨_,_,ls,_,_,_,_,l,_,_⟩:=s;cases ls with
 |nil=>exact QA h
 |cons a b=>have:=L1 h0;simp at this
def nN(h:XF s.fd=.ok ((),s.fd))(h0:decide ((s.ls.length:Int)>0)=true)(e:0<(Xv s.ls 0).l.length):Ew s.fd=.error (Qg (Xv s.ls 0).l 0).a:=by
 let⟨_,_,ls,_,_,_,_,l,_,_⟩:=s;cases ls with
 |nil=>cases h0
 |cons a b =>
  refine(QA h).trans ?_
  let⟨f,g⟩:=a;cases f with
  |nil=>exact absurd e (T4 _)
  |cons c d=>rfl
def B1(a:s.In M)(h0:0<s.ls.length):0<(Xv s.ls 0).l.length:=Ta.2 (a.f.ls _ (Wn h0)).2
theorem ZK(h0:decide ((s.ls.length:Int)>0)=true):0<s.ls.length:=by grind
structure PrY where
 t:χ
 pv:PV
 m:Bool
 vb:Value
 vs:Value
 vp:Value
 vr:Value
 vc:Value
 M':Res
structure PrY.Ok (y:PrY) (s:χ) (M:Res):Prop where
 e:XD s.fd=.ok ((y.pv,y.m),y.t.fd)
 five:Sy y.M' λw=>Five 0 w y.pv y.vb y.vs y.vp y.vr y.vc
 x:okX y.pv
theorem oV(h1:z1.Ok s M)(h2:y.Ok z1.δ z1.v z1.t M){e a:List Py}{ν ε:Nm}{b:Int}{f:List Nd}(l:e.length<=4001)(c:∀p,p∈e->okP p)(m:a.length<=4001)(h:∀p,p∈a->okP p)(i:okN ν)(j:okN ε)(n:f.length<=4001)(k:∀p,p∈f->okP p.sum/\okN p.ο):okX ⟨z1.δ,z1.v,y.bx,y.κ,e,a,ν,ε,b,f⟩:=by
 have o:=h1.v2;have q:=h2.n1;have r:=h2.n2;refine⟨⟨⟨by show y.bx.length<=_;omega,by show y.κ.length<=_;omega,λp c=>L6 (h2.o2 p c).1 x3,by show f.length<=_;omega⟩,⟨by show _<=(z1.v:Int);omega,by show(z1.v:Int)<=_;omega⟩,by show e.length<=_;omega,by show a.length<=_;omega,c,h,λp c=>(k p c).1,λx d=>?_⟩⟩;unfold Qk at d;simp only[Lo,Sa,Lb,Ri,or_false]at d;rcases d with(((rfl|rfl)|⟨z,g,rfl|rfl⟩)|⟨p,c,d⟩)|⟨p,c,rfl⟩
 ·exact i
 ·exact j
 ·exact(h2.o1 z g).1
 ·exact(h2.o1 z g).2
 ·exact(h2.o2 p c).2 x d
 grind
def fO{b c e f a:Res}{x:PV}{g i j k l:y9}(n:Sy b λw=>SlV 0 6 yN w x.box g)(o:Sy b λw=>SlV 0 1 (kz 0) w x.κ i)(p:Sy c λw=>SlV 0 2 (dX 0) w x.ps j)(q:Sy e λw=>SlV 0 2 (dX 0) w x.θ k)(r:Sy f λw=>SlV 0 6 (lu 0) w x.ι l)(m:Up b c)(d:Up c a)(s:Up e a)(t:Up f a):Sy a λw=>Five 0 w x g i j k l:=λX S w h =>
 ⟨(n.up (m.trans d)) X S w h,(o.up (m.trans d)) X S w h,(p.up d) X S w h,(q.up s) X S w h,(r.up t) X S w h⟩
def QbS(M:Res):Sy M λw=>SlV 0 6 (lu 0) w ([]:List Nd) (.slice none 0 0):=λ_ _ _ _=>⟨none,0,rfl,L4 _,λ_=>⟨rfl,rfl⟩,λh=>absurd h (T4 _)⟩
def JH(q1:Nat×Hp)(a:DmY)(z1:Z1)(b:Z2):PC:=PC.P z1.δ (z1.v:Int) (.slice a.A1 a.bx.length a.c1) (.slice a.A2 a.κ.length a.c2) (.slice b.A b.l.length b.c) (.slice q1.2.1 q1.1 q1.2.2)
def aZ(q1:Nat×Hp)(a:DmY)(z1:Z1):o3:=χ.cs (χ.trm z1.v (χ.nx (χ.ln (χ.pls z1.v q1.1 a.t)))) (PC.l (PC.P z1.δ (z1.v:Int) (.slice a.A1 a.bx.length a.c1) (.slice a.A2 a.κ.length a.c2) (.slice q1.2.1 q1.1 q1.2.2) (.slice none 0 0)) ((ZZ z1.v a.t false q1.1)||XX z1.v (χ.nx (χ.ln (χ.pls z1.v q1.1 a.t)))))
def Yz(q1:Nat×Hp)(z1:Z1)(a:Z2):χ:=χ.nx (χ.ln (χ.pls z1.v q1.1 a.t))
def Yy(q1:Nat×Hp)(a:DmY)(z1:Z1):χ:=χ.nx (χ.ln (χ.pls z1.v q1.1 a.t))
def xP(a:DmY)(z1:Z1)(d:Z2)(b:Z2):o3:=χ.cs (Ya (z1.δ==4) b.t) (PC.l ⟨z1.δ,(z1.v:Int),.slice a.A1 a.bx.length a.c1,.slice a.A2 a.κ.length a.c2,.slice d.A d.l.length d.c,.slice b.A b.l.length b.c,(Ke b.t),(Kd (z1.δ==4) b.t),(DT (z1.δ==4) b.t),.slice none 0 0⟩ b.m)
def xA5(q1:Nat×Hp)(a:DmY)(z1:Z1):PC:=PC.P z1.δ (z1.v:Int) (.slice a.A1 a.bx.length a.c1) (.slice a.A2 a.κ.length a.c2) (.slice q1.2.1 q1.1 q1.2.2) (.slice none 0 0)
def ba(q1:Nat×Hp)(a:DmY)(z1:Z1)(b:Z2):o3:=χ.cs (χ.trm z1.v (Yz q1 z1 b)) (PC.l (JH q1 a z1 b) ((ZZ z1.v b.t b.m q1.1)||XX z1.v (Yz q1 z1 b)))
def Uv(s:χ):o3:=χ.cs (χ.nx (χ.nx (χ.ln s))) (PC.l (PC.P (Lib.idxOfS (List.take 7 wKinds) (Qg (χ.ln s).l 0).s) (Xs (Qg (χ.nx (χ.ln s)).l 0).s) (.slice none 0 0) (.slice none 0 0) (.slice none 0 0) (.slice none 0 0)) false)
def sr(q1:Nat×Hp)(a:DmY)(z1:Z1)(b:Z2):o3:=χ.cs (χ.pls z1.v q1.1 b.t) (PC.l (JH q1 a z1 b) (ZZ z1.v b.t b.m q1.1))
def Uz(s:χ):o3:=PC.l (PC.P (Lib.idxOfS (List.take 7 wKinds) (Qg (χ.ln s).l 0).s) 0 (.slice none 0 0) (.slice none 0 0) (.slice none 0 0) (.slice none 0 0)) false
def xM(a:DmY)(z1:Z1)(d:Z2)(b:Z2):o3:=χ.cs b.t (PC.l (PC.P z1.δ (z1.v:Int) (.slice a.A1 a.bx.length a.c1) (.slice a.A2 a.κ.length a.c2) (.slice d.A d.l.length d.c) (.slice b.A b.l.length b.c)) b.m)
def xN(a:DmY)(z1:Z1):o3:=χ.cs a.t (PC.l (PC.P z1.δ (z1.v:Int) (.slice a.A1 a.bx.length a.c1) (.slice a.A2 a.κ.length a.c2) (.slice none 0 0) (.slice none 0 0)) false)
def NV(q1:Nat×Hp)(a:DmY)(z1:Z1):o3:=PC.l (xA5 q1 a z1) (ZZ z1.v a.t false q1.1)
def xO  :o3:=PC.l (PC.P 0 0 (.slice none 0 0) (.slice none 0 0) (.slice none 0 0) (.slice none 0 0)) false
def sq(q1:Nat×Hp)(a:DmY)(z1:Z1)(b:Z2):o3:=χ.cs (Yz q1 z1 b) (PC.l (JH q1 a z1 b) (ZZ z1.v b.t b.m q1.1))
abbrev HBa(z1:Z1)(d:DmY)(j:Z2)(r:Z2)(B:NdY):=PC.l ⟨z1.δ,(z1.v:Int),.slice d.A1 d.bx.length d.c1,.slice d.A2 d.κ.length d.c2,.slice j.A j.l.length j.c,.slice r.A r.l.length r.c,nm0,nm0,0,.slice B.A B.l.length B.c⟩ B.m
abbrev HBb(g:Nat)(z1:Z1)(q1:Nat×Hp)(j:Z2)(d:DmY):=Qh g 69 (χ.cs ((⟨(χ.pls z1.v q1.1 j.t),(ZZ z1.v j.t j.m q1.1),q1.2.1,q1.2.2,VJ z1.v j.t q1.1,Qx 52 2 q1.1 (Jp z1.v j.t) q1.2.1 q1.2.2⟩:Z2).t) (PC.l (PC.P z1.δ (z1.v:Int) (.slice d.A1 d.bx.length d.c1) (.slice d.A2 d.κ.length d.c2) (.slice j.A j.l.length j.c) (.slice (⟨(χ.pls z1.v q1.1 j.t),(ZZ z1.v j.t j.m q1.1),q1.2.1,q1.2.2,VJ z1.v j.t q1.1,Qx 52 2 q1.1 (Jp z1.v j.t) q1.2.1 q1.2.2⟩:Z2).A (⟨(χ.pls z1.v q1.1 j.t),(ZZ z1.v j.t j.m q1.1),q1.2.1,q1.2.2,VJ z1.v j.t q1.1,Qx 52 2 q1.1 (Jp z1.v j.t) q1.2.1 q1.2.2⟩:Z2).l.length (⟨(χ.pls z1.v q1.1 j.t),(ZZ z1.v j.t j.m q1.1),q1.2.1,q1.2.2,VJ z1.v j.t q1.1,Qx 52 2 q1.1 (Jp z1.v j.t) q1.2.1 q1.2.2⟩:Z2).c)) ((⟨(χ.pls z1.v q1.1 j.t),(ZZ z1.v j.t j.m q1.1),q1.2.1,q1.2.2,VJ z1.v j.t q1.1,Qx 52 2 q1.1 (Jp z1.v j.t) q1.2.1 q1.2.2⟩:Z2).m))) j.M'
abbrev HBc(z1:Z1)(q1:Nat×Hp)(d:DmY)(q:Hp):=χ.cs (χ.trm z1.v (Yy q1 d z1)) (PC.l (PC.P z1.δ (z1.v:Int) (.slice d.A1 d.bx.length d.c1) (.slice d.A2 d.κ.length d.c2) (.slice q.1 (q1.1+1) q.2) (.slice none 0 0)) ((ZZ z1.v d.t false q1.1)||XX z1.v (Yy q1 d z1)))
abbrev HBd(z1:Z1)(q1:Nat×Hp)(j:Z2)(d:DmY)(q:Hp):=χ.cs (χ.trm z1.v (Yz q1 z1 j)) (PC.l (PC.P z1.δ (z1.v:Int) (.slice d.A1 d.bx.length d.c1) (.slice d.A2 d.κ.length d.c2) (.slice j.A j.l.length j.c) (.slice q.1 (q1.1+1) q.2)) ((ZZ z1.v j.t j.m q1.1)||XX z1.v (Yz q1 z1 j)))
abbrev HBe(g:Nat)(z1:Z1)(q1:Nat×Hp)(d:DmY):=λ(q:Hp)=>([.pur 15,.pur 16,x03 9 16 (.pointer (some ⟨g,4,none⟩)),.pur 17,x03 9 17 (.pointer (some ⟨g,8,none⟩)),x08 9 18 0 (λ(L:Unit)=>(undef,Qh g 69 (HBc z1 q1 d q) d.M',[.join 10 0 0 16,x05 10 0 (iV ((q1.1+1:Nat):Int)),.nxt [q]]))]:List Dir)
abbrev HBf(g:Nat)(z1:Z1)(q1:Nat×Hp)(d:DmY)(q:Hp):=Qj (Qh g 69 (χ.cs (χ.pls z1.v (q1.1+1) d.t) (PC.l (PC.P z1.δ (z1.v:Int) (.slice d.A1 d.bx.length d.c1) (.slice d.A2 d.κ.length d.c2) (.slice q.1 (q1.1+1) q.2) (.slice none 0 0)) (ZZ z1.v d.t false (q1.1+1)))) d.M') (Qx 52 2 (q1.1+1) (Jp z1.v d.t) q.1 q.2)
abbrev HBg(z1:Z1)(q1:Nat×Hp)(d:DmY):=((QP z1.v (Yy q1 d z1),XX z1.v (Yy q1 d z1)),(χ.trm z1.v (Yy q1 d z1)).fd)
abbrev HBh(z1:Z1)(q1:Nat×Hp)(j:Z2):=((QP z1.v (Yz q1 z1 j),XX z1.v (Yz q1 z1 j)),(χ.trm z1.v (Yz q1 z1 j)).fd)
abbrev HBi(g:Nat)(z1:Z1)(q1:Nat×Hp)(j:Z2)(d:DmY):=λ(q:Hp)=>([.pur 15,.pur 16,x03 13 16 (.pointer (some ⟨g,4,none⟩)),.pur 17,x03 13 17 (.pointer (some ⟨g,9,none⟩)),x08 13 18 0 (λ(L:Unit)=>(undef,Qh g 69 (HBd z1 q1 j d q) j.M',[.nxt [q]]))]:List Dir)
abbrev HBj(g:Nat)(z1:Z1)(q1:Nat×Hp)(j:Z2)(d:DmY)(q:Hp):=Qh g 69 (χ.cs (χ.pls z1.v (q1.1+1) j.t) (PC.l (PC.P z1.δ (z1.v:Int) (.slice d.A1 d.bx.length d.c1) (.slice d.A2 d.κ.length d.c2) (.slice j.A j.l.length j.c) (.slice q.1 (q1.1+1) q.2)) (ZZ z1.v j.t j.m (q1.1+1)))) j.M'
abbrev HBk(s:χ):=Lib.idxOfS (List.take 7 wKinds) (Qg (χ.ln s).l 0).s
abbrev HBl(z1:Z1)(r:Z2)(j:Z2):=K8 z1.δ r.t.fd=.ok ((Ke r.t,Kd (z1.δ==4) r.t,DT (z1.δ==4) r.t),(Ya (z1.δ==4) r.t).fd)/\(Ya (z1.δ==4) r.t).In (Qj j.M' r.M')/\okN (Ke r.t)/\okN (Kd (z1.δ==4) r.t)
abbrev HBm(q:Hp)(q1:Nat×Hp):=Lg.1 (rfl:([.slice q.1 (q1.1+1) q.2]:o3).all (λu=>u.oneCell')=true)
abbrev HBn(g:Nat):y9:=.pointer (some ⟨g,0,none⟩)
abbrev HBo(z1:Z1)(q1:Nat×Hp)(d:DmY):=(Qv (List.take 1 [ZC])) (χ.pls z1.v q1.1 d.t).fd=.ok ((Lib.idxOfS (List.take 1 [ZC]) (Qg (χ.ln (χ.pls z1.v q1.1 d.t)).l 0).s),(Yy q1 d z1).fd)
abbrev HBp(z1:Z1)(q1:Nat×Hp)(j:Z2):=(Qv (List.take 1 [Xu])) (χ.pls z1.v q1.1 j.t).fd=.ok ((Lib.idxOfS (List.take 1 [Xu]) (Qg (χ.ln (χ.pls z1.v q1.1 j.t)).l 0).s),(Yz q1 z1 j).fd)
abbrev HBq:y9:=.slice none 0 0
abbrev HBr:Nat×Hp:=(0,(none,0))
abbrev HBs(z1:Z1)(q1:Nat×Hp)(j:Z2)(C:Hp):=Qc 56 4 QK (QP z1.v (Yz q1 z1 j)).ts C.1 C.2
abbrev HBt(z1:Z1)(q1:Nat×Hp)(d:DmY)(C:Hp):=Qc 56 4 QK (QP z1.v (Yy q1 d z1)).ts C.1 C.2
abbrev HBu(s:χ):=Xs (Qg (χ.nx (χ.ln s)).l 0).s
abbrev HBv(z1:Z1)(r:Z2):=Ya (z1.δ==4) r.t
abbrev HBw(z1:Z1)(q1:Nat×Hp)(d:DmY):=λ(C:{y:Hp // (QC z1.v) (Yy q1 d z1).fd=.ok (HBg z1 q1 d)})=>Value.agg #[.int .i64 ((QP z1.v (Yy q1 d z1)).vars),.slice C.1.1 (QP z1.v (Yy q1 d z1)).ts.length C.1.2]
abbrev HBx(z1:Z1)(q1:Nat×Hp)(j:Z2):=λ(C:{y:Hp // (QC z1.v) (Yz q1 z1 j).fd=.ok (HBh z1 q1 j)})=>Value.agg #[.int .i64 ((QP z1.v (Yz q1 z1 j)).vars),.slice C.1.1 (QP z1.v (Yz q1 z1 j)).ts.length C.1.2]
abbrev HBy(q1:Nat×Hp)(z1:Z1)(d:DmY):=Qx 52 2 q1.1 (Jp z1.v d.t) q1.2.1 q1.2.2
abbrev HBz(q1:Nat×Hp):=λ(q:Hp)=>Value.slice q.1 (q1.1+1) q.2
abbrev HBA(z1:Z1)(q1:Nat×Hp)(j:Z2):=(⟨(χ.pls z1.v q1.1 j.t),(ZZ z1.v j.t j.m q1.1),q1.2.1,q1.2.2,VJ z1.v j.t q1.1,Qx 52 2 q1.1 (Jp z1.v j.t) q1.2.1 q1.2.2⟩:Z2).M'
abbrev HBB(s:χ):=(QQ 99) (χ.nx (χ.ln s)).fd=.ok ((HBu s),(χ.nx (χ.nx (χ.ln s))).fd)
abbrev HBC(z1:Z1)(q1:Nat×Hp)(d:DmY)(g:Nat):=λ(C:{y:Hp // (QC z1.v) (Yy q1 d z1).fd=.ok (HBg z1 q1 d)})=>([.spl 9 13 0 (Qh g 69 (aZ q1 d z1) d.M') (HBt z1 q1 d C.1),.join 9 14 16 17,.eff 9 14 16 (HBz q1) (λ(q:Hp)=>Qx 52 2 (q1.1+1) (Jp z1.v d.t) q.1 q.2) (HBe g z1 q1 d)]:List Dir)
abbrev HBD(z1:Z1)(q1:Nat×Hp)(d:DmY)(C:Hp):o3:=[.int .i64 ((QP z1.v (Yy q1 d z1)).vars),.slice C.1 (QP z1.v (Yy q1 d z1)).ts.length C.2]
abbrev HBE(z1:Z1)(q1:Nat×Hp)(j:Z2)(C:Hp):o3:=[.int .i64 ((QP z1.v (Yz q1 z1 j)).vars),.slice C.1 (QP z1.v (Yz q1 z1 j)).ts.length C.2]
abbrev HBF(s:χ):=(Qv (List.take 7 wKinds)) s.fd=.ok ((HBk s),(χ.nx (χ.ln s)).fd)
abbrev HBG(z1:Z1)(q1:Nat×Hp)(j:Z2)(g:Nat)(d:DmY):=λ(C:{y:Hp // (QC z1.v) (Yz q1 z1 j).fd=.ok (HBh z1 q1 j)})=>([.spl 13 13 0 (Qh g 69 (ba q1 d z1 j) j.M') (HBs z1 q1 j C.1),.join 13 14 2 3,.eff 13 14 2 (HBz q1) (λ(q:Hp)=>Qx 52 2 (q1.1+1) (Jp z1.v j.t) q.1 q.2) (HBi g z1 q1 j d)]:List Dir)
abbrev HBH(z1:Z1)(q1:Nat×Hp)(d:DmY)(g:Nat):=λ(C:{y:Hp // (QC z1.v) (Yy q1 d z1).fd=.ok (HBg z1 q1 d)})=>Qh g 69 (aZ q1 d z1) (Qj d.M' (HBt z1 q1 d C.1))
abbrev HBI:=Qc 52 2 pF ([]:List Unit) none 0
abbrev HBJ(z1:Z1):Int:=((QY z1.δ z1.v).toNat:Nat)
abbrev HBK(z1:Z1)(q1:Nat×Hp)(j:Z2):=χ.pls z1.v q1.1 j.t
abbrev HBL(j:Z2):y9:=.slice j.A j.l.length j.c
abbrev HBM(z1:Z1)(q1:Nat×Hp)(j:Z2)(g:Nat)(d:DmY):=λ(C:{y:Hp // (QC z1.v) (Yz q1 z1 j).fd=.ok (HBh z1 q1 j)})=>Qh g 69 (ba q1 d z1 j) (Qj j.M' (HBs z1 q1 j C.1))
abbrev HBN(g:Nat)(z1:Z1)(q1:Nat×Hp)(d:DmY)(q:Hp):=Qj (Qh g 69 (HBc z1 q1 d q) d.M') (Qx 52 2 (q1.1+1) (Jp z1.v d.t) q.1 q.2)
abbrev HBO(q1:Nat×Hp)(z1:Z1)(j:Z2)(q:Hp):=Qx 52 2 (q1.1+1) (Jp z1.v j.t) q.1 q.2
abbrev HBP(d:DmY):y9:=.slice d.A2 d.κ.length d.c2
abbrev HBQ(d:DmY):y9:=.slice d.A1 d.bx.length d.c1
abbrev HBR(q1:Nat×Hp):y9:=.slice q1.2.1 q1.1 q1.2.2
abbrev HBS(z1:Z1)(q1:Nat×Hp)(d:DmY):=χ.pls z1.v q1.1 d.t
abbrev HBT(s:χ):y9:=.int .i64 ((Qg (χ.nx (χ.ln s)).l 0).a)
abbrev HBU(g:Nat):y9:=.pointer (some ⟨g,4,none⟩)
abbrev HBV(r:Z2):y9:=.slice r.A r.l.length r.c
abbrev HBW(z1:Z1)(r:Z2):y9:=.int .i64 ((Qg (Xv (HBv z1 r).ls 0).l 0).a)
abbrev HBX(B:NdY):y9:=.int .i64 ((Qg (Xv B.t.ls 0).l 0).a)
abbrev HBY(z1:Z1)(r:Z2):=XF (HBv z1 r).fd=.ok ((),(HBv z1 r).fd)
abbrev HBZ(q:Hp)(q1:Nat×Hp):o3:=[.slice q.1 (q1.1+1) q.2]
abbrev HB0(B:NdY)(z1:Z1)(d:DmY)(j:Z2)(r:Z2):=χ.cs B.t (HBa z1 d j r B)
abbrev HB1(z1:Z1)(d:DmY)(q1:Nat×Hp):=ZZ z1.v d.t false q1.1
abbrev HB2(B:NdY):=XF B.t.fd=.ok ((),B.t.fd)
abbrev HB3(q1:Nat×Hp)(z1:Z1)(j:Z2):=Qx 52 2 q1.1 (Jp z1.v j.t) q1.2.1 q1.2.2
abbrev HB4:=λ(q1:Nat×Hp) (u:List Hp)=>(q1.1+1,u.headD (none,0))
abbrev HB5(q1:Nat×Hp)(d:DmY)(z1:Z1):=χ.cs (Yy q1 d z1) (NV q1 d z1)
abbrev HB6(z1:Z1)(q1:Nat×Hp)(d:DmY):=(⟨(HBS z1 q1 d),(HB1 z1 d q1),q1.2.1,q1.2.2,VJ z1.v d.t q1.1,Qj d.M' (HBy q1 z1 d)⟩:Z2).t
abbrev HB7(g:Nat)(j:Z2)(z1:Z1)(d:DmY):=Qh g 69 (χ.cs j.t (PC.l (PC.P z1.δ (z1.v:Int) (HBQ d) (HBP d) (HBL j) HBq) j.m)) j.M'
abbrev HB8(z1:Z1):y9:=.int .i64 (z1.v:Int)
abbrev HB9:=λa w=>call73 a w
abbrev HBaa(z1:Z1)(q1:Nat×Hp)(d:DmY):=χ.cs (HBS z1 q1 d) (NV q1 d z1)
abbrev HBab:=List.take 1 [Xu]
abbrev HBac:=List.take 1 [ZC]
def ku(hM:s.In M)(W:m0)(Z:QV W):FxF prog W (Qh g 69 (χ.cs s xO) M) 40 #[x02 g] (λ_:{y:PrY // y.Ok s M}=>Value.tuple #[]) (λy:{y:PrY // y.Ok s M}=>Qh g 69 (χ.cs y.1.t (PC.l ⟨y.1.pv.δ,y.1.pv.vars,y.1.vb,y.1.vs,y.1.vp,y.1.vr,y.1.pv.ν,y.1.pv.ε,y.1.pv.ζ,y.1.vc⟩ y.1.m)) y.1.M') (Xy XD s) :=
 VC Qm QU (λa w=>call40 a w) func40 ntmps40 results40 _ rfl _ _ _ _ [.inl 0 0 f31,.ord,.pur 0,.pur 1,.pur 2,.pur 3,x03 1 3 (HBn g),x07 1 5 0 (Xy (Qv (List.take 7 wKinds)) s) (λ(Y:PLift (HBF s))=>(Θ (HBk s),Qh g 69 (χ.cs (χ.nx (χ.ln s)) xO) M,[.pur 6,.pur 7,x03 1 7 (HBU g),.pur 8,x03 1 8 (HBU g),x08 1 9 0 (λ(u1:Unit)=>(undef,Qh g 69 (χ.cs (χ.nx (χ.ln s)) (Uz s)) M,[x06 2 5 [0] (Ω (χ.nx (χ.ln s)).A (χ.nx (χ.ln s)).l.length (χ.nx (χ.ln s)).c),x07 3 4 0 (Xy (QQ 99) (χ.nx (χ.ln s))) (λ(y2:PLift (HBB s))=>(Θ (HBu s),Qh g 69 (χ.cs (χ.nx (χ.nx (χ.ln s))) (Uz s)) M,[x08 3 8 0 (λ(u2:Unit)=>(undef,Qh g 69 (Uv s) M,[.cut 5 (λ(z1:Z1)=>(⟨146,[(0,.val (HBn g))],[some (0,[]),some (0,[])],[some (Qh g 69 (χ.cs z1.t (PC.l (PC.P z1.δ (z1.v:Int) HBq HBq HBq HBq) false)) M),none]⟩:St)) (λ(z1:Z1)=>z1.Ok s M) (λk u=>(⟨(HBk s),(HBu s).toNat,(χ.nx (χ.nx (χ.ln s)))⟩:Z1)) (λ(z1:Z1)=>[x07 5 1 0 (Xy (Ko z1.δ z1.v) z1.t) (λ(d:{y:DmY // y.Ok z1.δ z1.v z1.t M})=>(Value.tuple #[],Qh g 69 (xN d.1 z1) d.1.M',[.nil 6 99999 52 2 pF,.cut 11 (λ(j:Z2)=>(⟨146,[(0,.val (HBn g))],[some (0,[]),some (0,[])],[some (HB7 g j z1 d.1),none,some (Qx 52 2 0 (Jp z1.v j.t) none 0)]⟩:St)) (λ(j:Z2)=>j.Ok z1 d.1 s) (λk u=>(⟨(χ.pls z1.v k d.1.t),(ZZ z1.v d.1.t false k),(u.headD (none,0)).1,(u.headD (none,0)).2,VJ z1.v d.1.t k,Qj d.1.M' (Qx 52 2 k (Jp z1.v d.1.t) (u.headD (none,0)).1 (u.headD (none,0)).2)⟩:Z2)) (λ(j:Z2)=>[.cut 14 (λ(r:Z2)=>(⟨146,[(0,.val (HBn g))],[some (0,[]),some (0,[])],[some (Qh g 69 (xM d.1 z1 j r) j.M'),none,some r.M']⟩:St)) (λ(r:Z2)=>r.Ok3 j z1 d.1 s) (λk u=>(⟨(χ.pls z1.v k j.t),(ZZ z1.v j.t j.m k),(u.headD (none,0)).1,(u.headD (none,0)).2,VJ z1.v j.t k,Qx 52 2 k (Jp z1.v j.t) (u.headD (none,0)).1 (u.headD (none,0)).2⟩:Z2)) (λ(r:Z2)=>[.join 14 0 0 2,.cnv 14 0 0 (Qh g 69 (xM d.1 z1 j r) (Qj j.M' r.M')),x06 14 4 [0] (Θ z1.δ),.both [x07 15 1 0 (Xy (XJ (Gp d.1.bx.length d.1.κ.length) 70000 1 [] r.m) r.t) (λ(B:{y:NdY // y.Ok (⟨PC.P z1.δ z1.v HBq HBq (HBL j) (HBV r),d.1.A1,d.1.bx.length,d.1.c1,d.1.A2,d.1.κ.length,d.1.c2⟩:NX) r.m r.t (Qj j.M' r.M')})=>(Value.tuple #[],Qh g 69 (HB0 B.1 z1 d.1 j r) B.1.M',[x07 17 3 0 (Xy XF B.1.t) (λ(C:PLift (HB2 B.1))=>(.tuple #[],Qh g 69 (HB0 B.1 z1 d.1 j r) B.1.M',[x06 18 4 [0] (Ω B.1.t.A0 B.1.t.ls.length B.1.t.c0),.both [x06 19 4 [0] (Ω B.1.t.A0 B.1.t.ls.length B.1.t.c0),x06 19 5 [0] (.pointer (some (Q5 B.1.t.A0 (0*2+0)))),x06 19 7 [0] (Ω (B.1.t.Al 0) (Xv B.1.t.ls 0).l.length (B.1.t.cl 0)),x06 19 8 [0] (.pointer (some (Q5 (B.1.t.Al 0) (0*2+0)))),x06 19 10 [0] (HBX B.1),.inl 19 11 f73,x03 1 1 (.iface 103 (HBX B.1))] []]))]))] [x07 16 1 0 (Xy (K8 z1.δ) r.t) (λ(B:PLift (HBl z1 r j))=>(Value.tuple #[],Qh g 69 (xP d.1 z1 j r) (Qj j.M' r.M'),[x07 17 3 0 (Xy XF (HBv z1 r)) (λ(C:PLift (HBY z1 r))=>(.tuple #[],Qh g 69 (xP d.1 z1 j r) (Qj j.M' r.M'),[x06 18 4 [0] (Ω (HBv z1 r).A0 (HBv z1 r).ls.length (HBv z1 r).c0),.both [x06 19 4 [0] (Ω (HBv z1 r).A0 (HBv z1 r).ls.length (HBv z1 r).c0),x06 19 5 [0] (.pointer (some (Q5 (HBv z1 r).A0 (0*2+0)))),x06 19 7 [0] (Ω ((HBv z1 r).Al 0) (Xv (HBv z1 r).ls 0).l.length ((HBv z1 r).cl 0)),x06 19 8 [0] (.pointer (some (Q5 ((HBv z1 r).Al 0) (0*2+0)))),x06 19 10 [0] (HBW z1 r),.inl 19 11 f73,x03 1 1 (.iface 103 (HBW z1 r))] []]))]))]]),x0a (HBr:Nat×Hp) HB4 (λ(q1:Nat×Hp)=>((⟨146,[(0,.val (HBn g))],[some (0,[]),some (0,[])],[some (Qh g 69 (sr q1 d.1 z1 j) j.M'),none,some (HB3 q1 z1 j)]⟩:St),RuI z1.δ z1.v j.t j.m j.M' q1.1,(HBK z1 q1 j).ls.length,[x06 11 4 [0] (Θ z1.δ),.gb 11 7 [.inl 11 10 f76,x06 1 3 [0] (Ω (HBK z1 q1 j).A0 (HBK z1 q1 j).ls.length (HBK z1 q1 j).c0),.gb 1 7 [x06 1 10 [0] (Ω (HBK z1 q1 j).A0 (HBK z1 q1 j).ls.length (HBK z1 q1 j).c0),x06 1 11 [0] (.pointer (some (Q5 (HBK z1 q1 j).A0 (0*2+0)))),x06 1 13 [0] (Ω ((HBK z1 q1 j).Al 0) (Xv (HBK z1 q1 j).ls 0).l.length ((HBK z1 q1 j).cl 0)),x06 1 14 [0] (.pointer (some (Q5 ((HBK z1 q1 j).Al 0) (0*2+0)))),x06 1 16 [0] (Ψ ((Qg (Xv (HBK z1 q1 j).ls 0).l 0).s)),x03 1 18 (Ξ (decide (((Qg (Xv (HBK z1 q1 j).ls 0).l 0).s)=⟨#[114,117,108,101]⟩))),.both [x07 12 4 0 (Xy (Qv HBab) (HBK z1 q1 j)) (λ(B:PLift (HBp z1 q1 j))=>(Θ (Lib.idxOfS HBab (Qg (χ.ln (HBK z1 q1 j)).l 0).s),Qh g 69 (sq q1 d.1 z1 j) j.M',[.ord,.pur 0,.pur 1,.pur 2,.pur 3,x03 13 3 (HBU g),.pur 4,x03 13 4 (.pointer (some ⟨g,9,none⟩)),.pur 6,.pur 7,.pur 8,.pur 9,x03 13 9 (HBU g),.pur 10,x03 13 10 (.pointer (some ⟨g,5,none⟩)),.both [x06 13 5 [0] (HBR q1),x06 13 11 [0] (HB8 z1),.fx 13 12 0 (HBx z1 q1 j) (HBM z1 q1 j g d.1) (Xy (QC z1.v) (Yz q1 z1 j)) (HBG z1 q1 j g d.1)] [x06 13 11 [0] (HB8 z1),.both [x06 13 5 [0] (HBR q1),.fx 13 12 0 (HBx z1 q1 j) (HBM z1 q1 j g d.1) (Xy (QC z1.v) (Yz q1 z1 j)) (HBG z1 q1 j g d.1)] [.fx 13 12 0 (HBx z1 q1 j) (HBM z1 q1 j g d.1) (Xy (QC z1.v) (Yz q1 z1 j)) (λ(C:{y:Hp // (QC z1.v) (Yz q1 z1 j).fd=.ok (HBh z1 q1 j)})=>[.both [x06 13 5 [0] (HBR q1),.spl 13 13 0 (Qh g 69 (ba q1 d.1 z1 j) j.M') (HBs z1 q1 j C.1),.join 13 14 2 3,.eff 13 14 2 (HBz q1) (λ(q:Hp)=>Qx 52 2 (q1.1+1) (Jp z1.v j.t) q.1 q.2) (HBi g z1 q1 j d.1)] [.spl 13 13 0 (Qh g 69 (ba q1 d.1 z1 j) j.M') (HBs z1 q1 j C.1),x06 13 5 [0] (HBR q1),.join 13 14 2 3,.eff 13 14 2 (HBz q1) (λ(q:Hp)=>Qx 52 2 (q1.1+1) (Jp z1.v j.t) q.1 q.2) (HBi g z1 q1 j d.1)]])]]]))] [.nxc q1.1 [q1.2]]] [.nxc q1.1 [q1.2]]] [.nxc q1.1 [q1.2]]]))]),.reg 12 [],x06 6 4 [0] (Θ z1.δ),x06 6 9 [0] (HB8 z1),x04 6 10 (iV (HBJ z1)),.nil 7 99999 52 2 pF,.join 7 99999 0 15,x0a (HBr:Nat×Hp) HB4 (λ(q1:Nat×Hp)=>((⟨146,[(0,.val (HBn g)),(51,iV (HBJ z1)),(52,iV (q1.1:Int))],[some (0,[]),some (0,[]),some (0,[]),some (0,[]),some (0,[]),some (0,[]),some (0,[]),some (0,[]),some (0,[]),some (0,[]),some (0,[]),some (0,[]),some (0,[]),some (0,[])],[some (Qj (Qh g 69 (HBaa z1 q1 d.1) d.1.M') (HBy q1 z1 d.1)),none,none,none,none,none,none,none,none,none,none,none,none,none,none,none]⟩:St),PlI (QY z1.δ z1.v).toNat z1.v d.1.t d.1.M' q1.1,((QY z1.δ z1.v).toNat-q1.1),[.both [.spl 8 0 0 (Qh g 69 (HBaa z1 q1 d.1) d.1.M') (HBy q1 z1 d.1),x07 8 4 0 (Xy (Qv HBac) (HBS z1 q1 d.1)) (λ(B:PLift (HBo z1 q1 d.1))=>(Θ (Lib.idxOfS HBac (Qg (χ.ln (HBS z1 q1 d.1)).l 0).s),Qh g 69 (HB5 q1 d.1 z1) d.1.M',[.ord,.pur 0,.pur 1,.pur 2,.pur 3,x03 9 3 (HBU g),.pur 4,x03 9 4 (.pointer (some ⟨g,8,none⟩)),.pur 6,.pur 7,.pur 8,.pur 9,x03 9 9 (HBU g),.pur 10,x03 9 10 (.pointer (some ⟨g,5,none⟩)),.both [x06 9 5 [0] (HBR q1),x06 9 11 [0] (HB8 z1),.fx 9 12 0 (HBw z1 q1 d.1) (HBH z1 q1 d.1 g) (Xy (QC z1.v) (Yy q1 d.1 z1)) (HBC z1 q1 d.1 g)] [x06 9 11 [0] (HB8 z1),.both [x06 9 5 [0] (HBR q1),.fx 9 12 0 (HBw z1 q1 d.1) (HBH z1 q1 d.1 g) (Xy (QC z1.v) (Yy q1 d.1 z1)) (HBC z1 q1 d.1 g)] [.fx 9 12 0 (HBw z1 q1 d.1) (HBH z1 q1 d.1 g) (Xy (QC z1.v) (Yy q1 d.1 z1)) (λ(C:{y:Hp // (QC z1.v) (Yy q1 d.1 z1).fd=.ok (HBg z1 q1 d.1)})=>[.both [x06 9 5 [0] (HBR q1),.spl 9 13 0 (Qh g 69 (aZ q1 d.1 z1) d.1.M') (HBt z1 q1 d.1 C.1),.join 9 14 16 17,.eff 9 14 16 (HBz q1) (λ(q:Hp)=>Qx 52 2 (q1.1+1) (Jp z1.v d.1.t) q.1 q.2) (HBe g z1 q1 d.1)] [.spl 9 13 0 (Qh g 69 (aZ q1 d.1 z1) d.1.M') (HBt z1 q1 d.1 C.1),x06 9 5 [0] (HBR q1),.join 9 14 16 17,.eff 9 14 16 (HBz q1) (λ(q:Hp)=>Qx 52 2 (q1.1+1) (Jp z1.v d.1.t) q.1 q.2) (HBe g z1 q1 d.1)]])]]]))] [.nxc q1.1 [q1.2]]]))]))]),.reg 10 [],x06 4 4 [0] (Θ (HBu s)),x06 4 7 [0] (.pointer (some (Q5 (χ.nx (χ.ln s)).A (0*2+0)))),x06 4 9 [0] (HBT s),.inl 4 10 f73,.both [x03 1 1 (.iface 103 (HBT s))] [.nxc 0 []]]))]))]))]))] (λF=>Ky func31 (λa w=>call31 a w) (λw=>Qs g 0 w (p5 _ _)) (Bb g M s xO hM 89 wKinds 7 7 x4 x4 W)<|ai (λ(Y:PLift (HBF s))=>X0 (λw=>Qf g 0 w (p5 _ _)) (λw=>ZV (g:=g) (o:=4) w (p5 _ _))<|ai (YN W prog g 69 (χ.cs (χ.nx (χ.ln s)) xO) M 3 ([Θ (HBk s)]) 4 (Θ (HBk s)) (Qm 3 _ rfl) rfl rfl (L8 rfl) (Lg.1 (rfl:([Θ (HBk s)]:o3).all (λu=>u.oneCell')=true))) λ(u1:Unit)=>X0 (Q2 (w0:=W) (g:=g) (t:=69) (cs:=(χ.cs (χ.nx (χ.ln s)) (Uz s))) (M:=M) (λD H=>Y5 D 1 H rfl)) (Ia g M (χ.nx (χ.ln s)) (Uz s) (hM.ln (QZ Y.down)).nx 99 W)<|ai (λ(y2:PLift (HBB s))=>ai (YN W prog g 69 (χ.cs (χ.nx (χ.nx (χ.ln s))) (Uz s)) M 3 ([Θ (HBu s)]) 5 (Θ (HBu s)) (Qm 3 _ rfl) rfl rfl (L8 rfl) (Lg.1 (rfl:([Θ (HBu s)]:o3).all (λu=>u.oneCell')=true))) λ(u2:Unit)=>p0 (KJ (Q2 (w0:=W) (g:=g) (t:=69) (cs:=(Uv s)) (M:=M) (λD H=>Ze D 5 H rfl)) (YB W g 69 (Uv s) M (λD x S Q=>have T:=((hM.ln (QZ Y.down)).nx).ok x S D Q;Y4 D ((χ.nx (χ.ln s)).c) T.rd 0 (show 0<_ from hA ((Dz y2.down).1)))) (YB W g 69 (Uv s) M (λD x S Q=>have T:=((hM.ln (QZ Y.down)).nx).ok x S D Q;BZ D T.rd 0 1 (show 0<_ from hA ((Dz y2.down).1)) x4 rfl)) func73 HB9<|Xi (!(decide ((Xs (Qg (χ.nx (χ.ln s)).l 0).s)>0))) (λhv=>ai (KT W (HBT s))<|(KP F (.iface 103 (HBT s)) (Xy XD s) (show Xy XD s (.iface 103 (Θ ((Qg (χ.nx (χ.ln s)).l 0).a)))from⟨_,Qbj Y.down y2.down (nt hv),rfl⟩))) λhv=>Ja (qV (HBn g)) (Yq (Qh g 69 (Uv s) M) (Qh g 69 (χ.cs ((⟨(HBk s),(HBu s).toNat,(χ.nx (χ.nx (χ.ln s)))⟩:Z1).t) (PC.l (PC.P ((⟨(HBk s),(HBu s).toNat,(χ.nx (χ.nx (χ.ln s)))⟩:Z1).δ) (((⟨(HBk s),(HBu s).toNat,(χ.nx (χ.nx (χ.ln s)))⟩:Z1).v:Nat):Int) HBq HBq HBq HBq) false)) M) λ_ _ _ h=>(vV (Dz y2.down).2.1 h)) (XR F)<|(show Z1.Ok (⟨(Lib.idxOfS (List.take 7 wKinds) (Qg (χ.ln s).l 0).s),(Xs (Qg (χ.nx (χ.ln s)).l 0).s).toNat,(χ.nx (χ.nx (χ.ln s)))⟩:Z1) s M from QeJ Y.down y2.down (Dz y2.down).2 (nf hv) ((hM.ln (QZ Y.down)).nx).nx)) λ(z1:Z1) (G:z1.Ok s M)=>ai (mH g M z1.t G.i (PC.P z1.δ 0 HBq HBq HBq HBq) z1.v false (L6 G.v2 x4) W Z)<|ai (λ(d:{y:DmY // y.Ok z1.δ z1.v z1.t M})=>p0 (Yx (Q2 (w0:=W) (g:=g) (t:=69) (cs:=(xN d.1 z1)) (M:=d.1.M') (λD H=>Ze D 4 H rfl)) (Q2 (w0:=W) (g:=g) (t:=69) (cs:=(xN d.1 z1)) (M:=d.1.M') (λD H=>Ze D 5 H rfl)) (vM z1.δ z1.v W) (qV (HBn g)) (qI (HBJ z1)) (qI ((HBr.1:Nat):Int)) (Yq (Qj (Qh g 69 (xN d.1 z1) d.1.M') HBI) (Qj (Qh g 69 (χ.cs (χ.pls z1.v HBr.1 d.1.t) (PC.l (PC.P z1.δ (z1.v:Int) (HBQ d.1) (HBP d.1) (Ω HBr.2.1 HBr.1 HBr.2.2) HBq) (ZZ z1.v d.1.t false HBr.1))) d.1.M') (Qx 52 2 HBr.1 (Jp z1.v d.1.t) HBr.2.1 HBr.2.2)) λ_ _ _ h=>(by exact A8 (λ_ _ _ h=>AP _ _ _ pF _ _ _ _ h) h)) (XR F)<|ai (XR HBI)<|ai (show PlI (QY z1.δ z1.v).toNat z1.v d.1.t d.1.M' 0 from⟨rfl,d.2.i,L7 _,G.v2,λ_ h=>absurd h (R4 _)⟩) λ(q1:Nat×Hp) (I:PlI (QY z1.δ z1.v).toNat z1.v d.1.t d.1.M' q1.1)=>Xi (decide ((q1.1:Int)<(((QY z1.δ z1.v).toNat:Nat):Int))) (λhl=>X0 (VI (Qh g 69 (HBaa z1 q1 d.1) d.1.M') (Qx 52 2 q1.1 (Jp z1.v d.1.t) q1.2.1 q1.2.2) We) (Bb g d.1.M' (HBS z1 q1 d.1) (NV q1 d.1 z1) I.i 9 ([ZC]) 1 1 x4 x4 W)<|ai (λ(B:PLift (HBo z1 q1 d.1))=>Ky (λw=>Qf g 0 w (p5 _ _)) (λw=>JF g 4 w (p5 _ _)) (λw=>Qf g 0 w (p5 _ _)) (λw=>ZW g 4 w (p5 _ _))<|have N:=λ(C:{y:Hp // (QC z1.v) (Yy q1 d.1 z1).fd=.ok (HBg z1 q1 d.1)})=>ai (JJ W 28 52 56 4 q1.1 (q1.1+1) 1 QK (λi=>[Θ (E7 z1.v d.1.t i).vars]) (λi=>(E7 z1.v d.1.t i).ts) q1.2.1 C.1.1 q1.2.2 C.1.2 (HBD z1 q1 d.1 C.1) (HBt z1 q1 d.1 C.1) (λ_ _ _ h=>.inl h) Xg (by intro u O;simp only[Lb,Ri,or_false]at O;first|exact O.elim|(rcases O with rfl<;>rfl)) rfl (k0 (QR hl) (JL z1.δ G.v2)) rfl rfl) λ(q:Hp)=>X0 (λw=>Qf g 0 w (p5 _ _)) (λw=>JF g 4 w (p5 _ _))<|ai (YN W prog g 69 (aZ q1 d.1 z1) d.1.M' 28 (HBZ q q1) 8 (Ω q.1 (q1.1+1) q.2) (Qm 28 _ rfl) rfl rfl (L8 rfl) (HBm q q1)) λ(L:Unit)=>GL (QD q1.1 (k0 (QR hl) (JL z1.δ G.v2))) (qV (HBn g)) (qI (HBJ z1)) (qI (((q1.1+1):Nat):Int)) (Yq (HBN g z1 q1 d.1 q) (HBf g z1 q1 d.1 q) λ_ _ _ h=>h) (XR F) (XR HBI)<|ai (show PlI (QY z1.δ z1.v).toNat z1.v d.1.t d.1.M' (q1.1+1)from I.at (QR hl) B.down C.2) (show(QY z1.δ z1.v).toNat-(q1.1+1)<(QY z1.δ z1.v).toNat-q1.1 from hA (QR hl));have z:=ai (λ(C:{y:Hp // (QC z1.v) (Yy q1 d.1 z1).fd=.ok (HBg z1 q1 d.1)})=>ai (JE g 69 (aZ q1 d.1 z1) d.1.M' (Qc 56 4 QK (QP z1.v (Yy q1 d.1 z1)).ts C.1.1 C.1.2) Ga)<|N C) (Yf F (Xy (QC z1.v) (Yy q1 d.1 z1)) (Xy XD s) λ_ h=>h.imp λ_ h=>⟨(ph G d.2).trans (Xc (I.trm_e (QR hl) B.down h.1)),h.2⟩);(p0 (Ja (Q2 (w0:=W) (g:=g) (t:=69) (cs:=(HB5 q1 d.1 z1)) (M:=d.1.M') (λD H=>J7 D 8 H rfl)) (Q2 (w0:=W) (g:=g) (t:=69) (cs:=(HB5 q1 d.1 z1)) (M:=d.1.M') (λD H=>Ze D 5 H rfl)) (Bo g d.1.M' (Yy q1 d.1 z1) (xA5 q1 d.1 z1) (HB1 z1 d.1 q1) ((I.i.ln (QZ B.down)).nx) z1.v (L6 G.v2 x4) W Z)<|z) (ai (Q2 (w0:=W) (g:=g) (t:=69) (cs:=(HB5 q1 d.1 z1)) (M:=d.1.M') (λD H=>Ze D 5 H rfl))<|(p0 (X0 (Q2 (w0:=W) (g:=g) (t:=69) (cs:=(HB5 q1 d.1 z1)) (M:=d.1.M') (λD H=>J7 D 8 H rfl)) (Bo g d.1.M' (Yy q1 d.1 z1) (xA5 q1 d.1 z1) (HB1 z1 d.1 q1) ((I.i.ln (QZ B.down)).nx) z1.v (L6 G.v2 x4) W Z)<|z) (ai (Bo g d.1.M' (Yy q1 d.1 z1) (xA5 q1 d.1 z1) (HB1 z1 d.1 q1) ((I.i.ln (QZ B.down)).nx) z1.v (L6 G.v2 x4) W Z)<|ai (λ(C:{y:Hp // (QC z1.v) (Yy q1 d.1 z1).fd=.ok (HBg z1 q1 d.1)})=>(p0 (X0 (Q2 (w0:=W) (g:=g) (t:=69) (cs:=(aZ q1 d.1 z1)) (M:=(Qj d.1.M' (HBt z1 q1 d.1 C.1))) (λD H=>J7 D 8 H rfl)) (JE g 69 (aZ q1 d.1 z1) d.1.M' (Qc 56 4 QK (QP z1.v (Yy q1 d.1 z1)).ts C.1.1 C.1.2) Ga)<|N C) (X0 (JE g 69 (aZ q1 d.1 z1) d.1.M' (Qc 56 4 QK (QP z1.v (Yy q1 d.1 z1)).ts C.1.1 C.1.2) Ga) (Q2 (w0:=W) (g:=g) (t:=69) (cs:=(aZ q1 d.1 z1)) (M:=d.1.M') (λD H=>J7 D 8 H rfl))<|N C))) (Yf F (Xy (QC z1.v) (Yy q1 d.1 z1)) (Xy XD s) λ_ h=>h.imp λ_ h=>⟨(ph G d.2).trans (Xc (I.trm_e (QR hl) B.down h.1)),h.2⟩)))))) (Yf F (Xy (Qv HBac) (HBS z1 q1 d.1)) (Xy XD s) λ_ h=>h.imp λ_ h=>⟨(ph G d.2).trans (Xc (I.line_e (QR hl) h.1)),h.2⟩)) λhl=>Ky (qV (HBn g)) (Yq (Qj (Qh g 69 (HBaa z1 q1 d.1) d.1.M') (HBy q1 z1 d.1)) (Qh g 69 (χ.cs (HB6 z1 q1 d.1) (PC.l (PC.P z1.δ (z1.v:Int) (HBQ d.1) (HBP d.1) (Ω (⟨(HBS z1 q1 d.1),(HB1 z1 d.1 q1),q1.2.1,q1.2.2,VJ z1.v d.1.t q1.1,Qj d.1.M' (HBy q1 z1 d.1)⟩:Z2).A (⟨(HBS z1 q1 d.1),(HB1 z1 d.1 q1),q1.2.1,q1.2.2,VJ z1.v d.1.t q1.1,Qj d.1.M' (HBy q1 z1 d.1)⟩:Z2).l.length (⟨(HBS z1 q1 d.1),(HB1 z1 d.1 q1),q1.2.1,q1.2.2,VJ z1.v d.1.t q1.1,Qj d.1.M' (HBy q1 z1 d.1)⟩:Z2).c) HBq) ((⟨(HBS z1 q1 d.1),(HB1 z1 d.1 q1),q1.2.1,q1.2.2,VJ z1.v d.1.t q1.1,Qj d.1.M' (HBy q1 z1 d.1)⟩:Z2).m))) ((⟨(HBS z1 q1 d.1),(HB1 z1 d.1 q1),q1.2.1,q1.2.2,VJ z1.v d.1.t q1.1,Qj d.1.M' (HBy q1 z1 d.1)⟩:Z2).M')) λ_ _ _ h=>(vv (Vw AO h))) (XR F) (Yq (Qc 52 2 pF ([]:List Unit) none 0) (Qx 52 2 0 (Jp z1.v (HB6 z1 q1 d.1)) none 0) λ_ _ _ h=>(by exact AP _ _ _ pF _ _ _ _ h))<|(show Z2.Ok (⟨(χ.pls z1.v q1.1 d.1.t),(ZZ z1.v d.1.t false q1.1),q1.2.1,q1.2.2,VJ z1.v d.1.t q1.1,Qj d.1.M' (Qx 52 2 q1.1 (Jp z1.v d.1.t) q1.2.1 q1.2.2)⟩:Z2) z1 d.1 s from QeK G d.2 I (VZ hl))) λ(j:Z2) (E:j.Ok z1 d.1 s)=>p0 (Ky (qV (HBn g)) (Yq (HB7 g j z1 d.1) (Qh g 69 (χ.cs (χ.pls z1.v HBr.1 j.t) (PC.l (PC.P z1.δ (z1.v:Int) (HBQ d.1) (HBP d.1) (HBL j) (Ω HBr.2.1 HBr.1 HBr.2.2)) (ZZ z1.v j.t j.m HBr.1))) j.M') λ_ _ _ h=>h) (XR F) (Yq (Qx 52 2 0 (Jp z1.v j.t) none 0) (Qx 52 2 HBr.1 (Jp z1.v j.t) HBr.2.1 HBr.2.2) λ_ _ _ h=>h)<|ai (show RuI z1.δ z1.v j.t j.m j.M' 0 from⟨rfl,E.i,Lm _,G.v2,λ_ h=>absurd h (R4 _)⟩) λ(q1:Nat×Hp) (I:RuI z1.δ z1.v j.t j.m j.M' q1.1)=>ai (Q2 (w0:=W) (g:=g) (t:=69) (cs:=(sr q1 d.1 z1 j)) (M:=j.M') (λD H=>Ze D 4 H rfl))<|ZD (z1.δ==4) true (λV=>Ja func76 (λa w=>call76 a w) (Q2 (w0:=W) (g:=g) (t:=69) (cs:=(sr q1 d.1 z1 j)) (M:=j.M') (λD H=>Ym D 0 H rfl))<|ZD (decide ((((χ.pls z1.v q1.1 j.t).ls.length:Nat):Int)>0)) true (λJ=>Vv (Q2 (w0:=W) (g:=g) (t:=69) (cs:=(sr q1 d.1 z1 j)) (M:=j.M') (λD H=>Ym D 0 H rfl)) (YB W g 69 (sr q1 d.1 z1 j) j.M' (λD x S Q=>have T:=I.i.ok x S D Q;KQ D ((HBK z1 q1 j).c0) T.r0 0 (ZK J))) (YB W g 69 (sr q1 d.1 z1 j) j.M' (λD x S Q=>have T:=I.i.ok x S D Q;GT D T.r0 0 0 (ZK J) x4 rfl)) (YB W g 69 (sr q1 d.1 z1 j) j.M' (λD x S Q=>have T:=I.i.ok x S D Q;Y4 D ((HBK z1 q1 j).cl 0) (T.rl 0 (ZK J)) 0 (B1 I.i (ZK J)))) (YB W g 69 (sr q1 d.1 z1 j) j.M' (λD x S Q=>have T:=I.i.ok x S D Q;AT D (T.rl 0 (ZK J)) 0 0 (B1 I.i (ZK J)) x4 rfl)) (IC W (.tmp 21) (.tmp 22) ((Qg (Xv (HBK z1 q1 j).ls 0).l 0).s) ⟨#[114,117,108,101]⟩)<|Xi (decide (((Qg (Xv (χ.pls z1.v q1.1 j.t).ls 0).l 0).s)=⟨#[114,117,108,101]⟩)) (λX=>ai (Bb g j.M' (HBK z1 q1 j) (PC.l (JH q1 d.1 z1 j) (ZZ z1.v j.t j.m q1.1)) I.i 9 ([Xu]) 1 1 x4 x4 W)<|ai (λ(B:PLift (HBp z1 q1 j))=>Ky (λw=>Qf g 0 w (p5 _ _)) (λw=>JG g 4 w (p5 _ _)) (λw=>Qf g 0 w (p5 _ _)) (λw=>ZW g 4 w (p5 _ _))<|have R:=λ(C:{y:Hp // (QC z1.v) (Yz q1 z1 j).fd=.ok (HBh z1 q1 j)})=>ai (JJ W 28 52 56 4 q1.1 (q1.1+1) 1 QK (λi=>[Θ (E7 z1.v j.t i).vars]) (λi=>(E7 z1.v j.t i).ts) q1.2.1 C.1.1 q1.2.2 C.1.2 (HBE z1 q1 j C.1) (HBs z1 q1 j C.1) (λ_ _ _ h=>.inl h) Xg (by intro u O;simp only[Lb,Ri,or_false]at O;first|exact O.elim|(rcases O with rfl<;>rfl)) rfl (hA (I.lt E.i.f.n)) rfl rfl) λ(q:Hp)=>X0 (λw=>Qf g 0 w (p5 _ _)) (λw=>JG g 4 w (p5 _ _))<|ai (YN W prog g 69 (ba q1 d.1 z1 j) j.M' 28 (HBZ q q1) 9 (Ω q.1 (q1.1+1) q.2) (Qm 28 _ rfl) rfl rfl (L8 rfl) (HBm q q1)) λ(L:Unit)=>Ky (qV (HBn g)) (Yq (Qh g 69 (HBd z1 q1 j d.1 q) j.M') (HBj g z1 q1 j d.1 q) λ_ _ _ h=>h) (XR F) (Yq (HBO q1 z1 j q) (HBO q1 z1 j q) λ_ _ _ h=>h)<|ai (show RuI z1.δ z1.v j.t j.m j.M' (q1.1+1)from I.at E.i.f.n V (Bt J X) B.down C.2) (show(χ.pls z1.v (q1.1+1) j.t).ls.length<(χ.pls z1.v q1.1 j.t).ls.length from by have h1:=I.n;have h2:=(I.at E.i.f.n V (Bt J X) B.down C.2).n;omega);(p0 (Ja (Q2 (w0:=W) (g:=g) (t:=69) (cs:=(sq q1 d.1 z1 j)) (M:=j.M') (λD H=>J7 D 9 H rfl)) (Q2 (w0:=W) (g:=g) (t:=69) (cs:=(sq q1 d.1 z1 j)) (M:=j.M') (λD H=>Ze D 5 H rfl)) (Bo g j.M' (Yz q1 z1 j) (JH q1 d.1 z1 j) (ZZ z1.v j.t j.m q1.1) ((I.i.ln (QZ B.down)).nx) z1.v (L6 G.v2 x4) W Z)<|ai (λ(C:{y:Hp // (QC z1.v) (Yz q1 z1 j).fd=.ok (HBh z1 q1 j)})=>ai (JE g 69 (ba q1 d.1 z1 j) j.M' (Qc 56 4 QK (QP z1.v (Yz q1 z1 j)).ts C.1.1 C.1.2) Ga)<|R C) (Yf F (Xy (QC z1.v) (Yz q1 z1 j)) (Xy XD s) λ_ h=>h.imp λ_ h=>⟨wv E (I.trm_e E.i.f.n V (Bt J X) B.down h.1),h.2⟩)) (ai (Q2 (w0:=W) (g:=g) (t:=69) (cs:=(sq q1 d.1 z1 j)) (M:=j.M') (λD H=>Ze D 5 H rfl))<|(p0 (X0 (Q2 (w0:=W) (g:=g) (t:=69) (cs:=(sq q1 d.1 z1 j)) (M:=j.M') (λD H=>J7 D 9 H rfl)) (Bo g j.M' (Yz q1 z1 j) (JH q1 d.1 z1 j) (ZZ z1.v j.t j.m q1.1) ((I.i.ln (QZ B.down)).nx) z1.v (L6 G.v2 x4) W Z)<|ai (λ(C:{y:Hp // (QC z1.v) (Yz q1 z1 j).fd=.ok (HBh z1 q1 j)})=>ai (JE g 69 (ba q1 d.1 z1 j) j.M' (Qc 56 4 QK (QP z1.v (Yz q1 z1 j)).ts C.1.1 C.1.2) Ga)<|R C) (Yf F (Xy (QC z1.v) (Yz q1 z1 j)) (Xy XD s) λ_ h=>h.imp λ_ h=>⟨wv E (I.trm_e E.i.f.n V (Bt J X) B.down h.1),h.2⟩)) (ai (Bo g j.M' (Yz q1 z1 j) (JH q1 d.1 z1 j) (ZZ z1.v j.t j.m q1.1) ((I.i.ln (QZ B.down)).nx) z1.v (L6 G.v2 x4) W Z)<|ai (λ(C:{y:Hp // (QC z1.v) (Yz q1 z1 j).fd=.ok (HBh z1 q1 j)})=>(p0 (X0 (Q2 (w0:=W) (g:=g) (t:=69) (cs:=(ba q1 d.1 z1 j)) (M:=(Qj j.M' (HBs z1 q1 j C.1))) (λD H=>J7 D 9 H rfl)) (JE g 69 (ba q1 d.1 z1 j) j.M' (Qc 56 4 QK (QP z1.v (Yz q1 z1 j)).ts C.1.1 C.1.2) Ga)<|R C) (X0 (JE g 69 (ba q1 d.1 z1 j) j.M' (Qc 56 4 QK (QP z1.v (Yz q1 z1 j)).ts C.1.1 C.1.2) Ga) (Q2 (w0:=W) (g:=g) (t:=69) (cs:=(ba q1 d.1 z1 j)) (M:=j.M') (λD H=>J7 D 9 H rfl))<|R C))) (Yf F (Xy (QC z1.v) (Yz q1 z1 j)) (Xy XD s) λ_ h=>h.imp λ_ h=>⟨wv E (I.trm_e E.i.f.n V (Bt J X) B.down h.1),h.2⟩)))))) (Yf F (Xy (Qv HBab) (HBK z1 q1 j)) (Xy XD s) λ_ h=>h.imp λ_ h=>⟨wv E (I.line_e E.i.f.n V (Bt J X) h.1),h.2⟩)) λX=>Ky (qV (HBn g)) (Yq (Qh g 69 (sr q1 d.1 z1 j) j.M') (HBb g z1 q1 j d.1) λ_ _ _ h=>(RN h)) (XR F) (Yq (HB3 q1 z1 j) (HBA z1 q1 j) λ_ _ _ h=>h)<|(show Z2.Ok3 (⟨(χ.pls z1.v q1.1 j.t),(ZZ z1.v j.t j.m q1.1),q1.2.1,q1.2.2,VJ z1.v j.t q1.1,Qx 52 2 q1.1 (Jp z1.v j.t) q1.2.1 q1.2.2⟩:Z2) j z1 d.1 s from sw E I (.inr ⟨V,QcG J X⟩))) λJ=>Ky (qV (HBn g)) (Yq (Qh g 69 (sr q1 d.1 z1 j) j.M') (HBb g z1 q1 j d.1) λ_ _ _ h=>(RN h)) (XR F) (Yq (HB3 q1 z1 j) (HBA z1 q1 j) λ_ _ _ h=>h)<|(show Z2.Ok3 (⟨(χ.pls z1.v q1.1 j.t),(ZZ z1.v j.t j.m q1.1),q1.2.1,q1.2.2,VJ z1.v j.t q1.1,Qx 52 2 q1.1 (Jp z1.v j.t) q1.2.1 q1.2.2⟩:Z2) j z1 d.1 s from sw E I (.inr ⟨V,QcF J⟩))) λV=>Ky (qV (HBn g)) (Yq (Qh g 69 (sr q1 d.1 z1 j) j.M') (HBb g z1 q1 j d.1) λ_ _ _ h=>(RN h)) (XR F) (Yq (HB3 q1 z1 j) (HBA z1 q1 j) λ_ _ _ h=>h)<|(show Z2.Ok3 (⟨(χ.pls z1.v q1.1 j.t),(ZZ z1.v j.t j.m q1.1),q1.2.1,q1.2.2,VJ z1.v j.t q1.1,Qx 52 2 q1.1 (Jp z1.v j.t) q1.2.1 q1.2.2⟩:Z2) j z1 d.1 s from sw E I (.inl V))) λ(r:Z2) (K:r.Ok3 j z1 d.1 s)=>X0 (λ(x:y9) (S:Nat->Prop) (w:m0) (h:(Qj (Qh g 69 (xM d.1 z1 j r) j.M') r.M').φ x S w)=>Vw K.f h) (Q2 (w0:=W) (g:=g) (t:=69) (cs:=(xM d.1 z1 j r)) (M:=(Qj j.M' r.M')) (λD H=>Ze D 4 H rfl))<|Xi (z1.δ==6) (λh6=>ai (uT g (Qj j.M' r.M') r.t (K.i.up (Up.pair j.M' r.M')) (⟨PC.P z1.δ z1.v HBq HBq (HBL j) (HBV r),d.1.A1,d.1.bx.length,d.1.c1,d.1.A2,d.1.κ.length,d.1.c2⟩:NX) r.m (L6 d.2.n1 (L6 G.v2 x4)) (L6 d.2.n2 (L6 (T3 G.v2) x4)) W Z)<|ai (λ(B:{y:NdY // y.Ok (⟨PC.P z1.δ z1.v HBq HBq (HBL j) (HBV r),d.1.A1,d.1.bx.length,d.1.c1,d.1.A2,d.1.κ.length,d.1.c2⟩:NX) r.m r.t (Qj j.M' r.M')})=>ai (Pv g B.1.M' B.1.t (HBa z1 d.1 j r B.1) B.2.i W)<|ai (λ(C:PLift (HB2 B.1))=>ai (Q2 (w0:=W) (g:=g) (t:=69) (cs:=(HB0 B.1 z1 d.1 j r)) (M:=B.1.M') (λD H=>Ym D 0 H rfl))<|Xi (decide ((B.1.t.ls.length:Int)>0)) (λU=>Yx (Q2 (w0:=W) (g:=g) (t:=69) (cs:=(HB0 B.1 z1 d.1 j r)) (M:=B.1.M') (λD H=>Ym D 0 H rfl)) (YB W g 69 (HB0 B.1 z1 d.1 j r) B.1.M' (λD x S Q=>have T:=B.2.i.ok x S D Q;KQ D B.1.t.c0 T.r0 0 (ZK U))) (YB W g 69 (HB0 B.1 z1 d.1 j r) B.1.M' (λD x S Q=>have T:=B.2.i.ok x S D Q;GT D T.r0 0 0 (ZK U) x4 rfl)) (YB W g 69 (HB0 B.1 z1 d.1 j r) B.1.M' (λD x S Q=>have T:=B.2.i.ok x S D Q;Y4 D (B.1.t.cl 0) (T.rl 0 (ZK U)) 0 (B1 B.2.i (ZK U)))) (YB W g 69 (HB0 B.1 z1 d.1 j r) B.1.M' (λD x S Q=>have T:=B.2.i.ok x S D Q;BZ D (T.rl 0 (ZK U)) 0 1 (B1 B.2.i (ZK U)) x4 rfl)) func73 HB9 (KT W (HBX B.1))<|(KP F (.iface 103 (HBX B.1)) (Xy XD s) (show Xy XD s (.iface 103 (Θ ((Qg (Xv B.1.t.ls 0).l 0).a)))from⟨_,(K.e.trans ((RT h6).trans ((QA B.2.e).trans (Xc (nN C.down U (B1 B.2.i (ZK U))))))),rfl⟩))) λU=>(YP F (.tuple #[]) (λ_:{y:PrY // y.Ok s M}=>Value.tuple #[]) (Qh g 69 (HB0 B.1 z1 d.1 j r) B.1.M') (λy:{y:PrY // y.Ok s M}=>Qh g 69 (χ.cs y.1.t (PC.l ⟨y.1.pv.δ,y.1.pv.vars,y.1.vb,y.1.vs,y.1.vp,y.1.vr,y.1.pv.ν,y.1.pv.ε,y.1.pv.ζ,y.1.vc⟩ y.1.m)) y.1.M') ⟨⟨B.1.t,⟨z1.δ,z1.v,d.1.bx,d.1.κ,j.l,r.l,nm0,nm0,0,B.1.l⟩,B.1.m,Ω d.1.A1 d.1.bx.length d.1.c1,Ω d.1.A2 d.1.κ.length d.1.c2,Ω j.A j.l.length j.c,Ω r.A r.l.length r.c,Ω B.1.A B.1.l.length B.1.c,B.1.M'⟩,⟨(K.e.trans ((RT h6).trans ((QA B.2.e).trans (QA (nO C.down U))))),(fO d.2.b d.2.s E.p K.p B.2.c E.u ((Up.pair _ _).trans B.2.u) ((Up.snd _ _).trans B.2.u) (Up.refl _)),oV G d.2 E.n E.o K.n K.o WL WL B.2.n B.2.o⟩⟩ rfl λ_ _ _ h=>h)) (Yf F (Xy XF B.1.t) (Xy XD s) λ_ h=>h.imp λ_ h=>⟨(K.e.trans ((RT h6).trans ((QA B.2.e).trans (Xc (Xc h.1))))),h.2⟩)) (Yf F (Xy (XJ (Gp d.1.bx.length d.1.κ.length) 70000 1 [] r.m) r.t) (Xy XD s) λ_ h=>h.imp λ_ h=>⟨K.e.trans ((RT h6).trans (Xc h.1)),h.2⟩)) λh6=>ai (Qev g (Qj j.M' r.M') r.t (K.i.up (Up.pair j.M' r.M')) (PC.P z1.δ z1.v (HBQ d.1) (HBP d.1) (HBL j) (HBV r)) r.m W Z)<|ai (λ(B:PLift (HBl z1 r j))=>ai (Pv g (Qj j.M' r.M') (HBv z1 r) (PC.l ⟨z1.δ,(z1.v:Int),Ω d.1.A1 d.1.bx.length d.1.c1,Ω d.1.A2 d.1.κ.length d.1.c2,Ω j.A j.l.length j.c,Ω r.A r.l.length r.c,(Ke r.t),(Kd (z1.δ==4) r.t),(DT (z1.δ==4) r.t),x01⟩ r.m) B.down.2.1 W)<|ai (λ(C:PLift (HBY z1 r))=>ai (Q2 (w0:=W) (g:=g) (t:=69) (cs:=(xP d.1 z1 j r)) (M:=(Qj j.M' r.M')) (λD H=>Ym D 0 H rfl))<|Xi (decide ((((Ya (z1.δ==4) r.t).ls.length:Nat):Int)>0)) (λU=>Yx (Q2 (w0:=W) (g:=g) (t:=69) (cs:=(xP d.1 z1 j r)) (M:=(Qj j.M' r.M')) (λD H=>Ym D 0 H rfl)) (YB W g 69 (xP d.1 z1 j r) (Qj j.M' r.M') (λD x S Q=>have T:=B.down.2.1.ok x S D Q;KQ D ((HBv z1 r).c0) T.r0 0 (ZK U))) (YB W g 69 (xP d.1 z1 j r) (Qj j.M' r.M') (λD x S Q=>have T:=B.down.2.1.ok x S D Q;GT D T.r0 0 0 (ZK U) x4 rfl)) (YB W g 69 (xP d.1 z1 j r) (Qj j.M' r.M') (λD x S Q=>have T:=B.down.2.1.ok x S D Q;Y4 D ((HBv z1 r).cl 0) (T.rl 0 (ZK U)) 0 (B1 B.down.2.1 (ZK U)))) (YB W g 69 (xP d.1 z1 j r) (Qj j.M' r.M') (λD x S Q=>have T:=B.down.2.1.ok x S D Q;BZ D (T.rl 0 (ZK U)) 0 1 (B1 B.down.2.1 (ZK U)) x4 rfl)) func73 HB9 (KT W (HBW z1 r))<|(KP F (.iface 103 (HBW z1 r)) (Xy XD s) (show Xy XD s (.iface 103 (Θ ((Qg (Xv (Ya (z1.δ==4) r.t).ls 0).l 0).a)))from⟨_,(K.e.trans ((RU h6).trans ((QA B.down.1).trans (Xc (nN C.down U (B1 B.down.2.1 (ZK U))))))),rfl⟩))) λU=>(YP F (.tuple #[]) (λ_:{y:PrY // y.Ok s M}=>Value.tuple #[]) (Qh g 69 (xP d.1 z1 j r) (Qj j.M' r.M')) (λy:{y:PrY // y.Ok s M}=>Qh g 69 (χ.cs y.1.t (PC.l ⟨y.1.pv.δ,y.1.pv.vars,y.1.vb,y.1.vs,y.1.vp,y.1.vr,y.1.pv.ν,y.1.pv.ε,y.1.pv.ζ,y.1.vc⟩ y.1.m)) y.1.M') ⟨⟨(HBv z1 r),⟨z1.δ,z1.v,d.1.bx,d.1.κ,j.l,r.l,Ke r.t,Kd (z1.δ==4) r.t,DT (z1.δ==4) r.t,[]⟩,r.m,Ω d.1.A1 d.1.bx.length d.1.c1,Ω d.1.A2 d.1.κ.length d.1.c2,Ω j.A j.l.length j.c,Ω r.A r.l.length r.c,x01,(Qj j.M' r.M')⟩,⟨(K.e.trans ((RU h6).trans ((QA B.down.1).trans (QA (nO C.down U))))),(fO d.2.b d.2.s E.p K.p (QbS _) E.u ((Up.pair _ _).trans (Up.refl _)) ((Up.snd _ _).trans (Up.refl _)) (Up.refl _)),oV G d.2 E.n E.o K.n K.o B.down.2.2.1 B.down.2.2.2 (L7 _) (λ_ h=>nomatch h)⟩⟩ rfl λ_ _ _ h=>h)) (Yf F (Xy XF (HBv z1 r)) (Xy XD s) λ_ h=>h.imp λ_ h=>⟨(K.e.trans ((RU h6).trans ((QA B.down.1).trans (Xc (Xc h.1))))),h.2⟩)) (Yf F (Xy (K8 z1.δ) r.t) (Xy XD s) λ_ h=>h.imp λ_ h=>⟨K.e.trans ((RU h6).trans (Xc h.1)),h.2⟩)) (Yf F (Xy (Ko z1.δ z1.v) z1.t) (Xy XD s) λ_ h=>h.imp λ_ h=>⟨Qfy G h.1,h.2⟩)) (Yf F (Xy (QQ 99) (χ.nx (χ.ln s))) (Xy XD s) λ_ h=>h.imp λ_ h=>⟨Qbi Y.down h.1,h.2⟩)) (Yf F (Xy (Qv (List.take 7 wKinds)) s) (Xy XD s) λ_ h=>h.imp λ_ h=>⟨Qbh h.1,h.2⟩)) λF=>x5
theorem wj(p:Addr)(w:World):CallsD prog 39 #[.pointer (some p)] .returning w λe b c=>e=.returned (.tuple #[])/\b=.returning/\c=w:=by
 have a:∀w,(binOp .neq 20 .nilIface .nilIface).run prog w=.ok (.bool false) w:=λ_=>x5
 refine callsD_of_wpS func39 rfl λd cs hu=>?_
 apply wpS_seq;apply wpS_region;simp[wpOpsS,go_sem,recoverD,hu,ntmps39,Exit.thenS];apply wpS_seq;apply wpS_region;simp[wpOpsS,go_sem,a,Exit.thenS];refine wpS_cond (t:=false) (by simp[Act.eval,Array.replicate]) ?_
 simp only[Tv,if_false];refine wpS_of_wp (wp_skip ?_);cases d;simp_all [bodyPostS,results,results39]
def pX(p:Addr)(x z:Int)(w:World)(c:w.cell? p=some (.int .i64 x))(d:w.frozen? p=false):
  CallsD prog 39 #[.pointer (some p)] (.panicking [{ v:=T6 z,recovered:=false }]) w λe f g=>e=.returned (.tuple #[])/\f=.panicking [{ v:=T6 z,recovered:=true }]/\g=w.setCell p (.int .i64 z):=by
 have a:∀w,(binOp .neq 20 (T6 z) .nilIface).run prog w=.ok (.bool true) w:=λ_=>x5
 have b:∀w,(Instr.typeAssert (T6 z) 20 103 true).run prog w=.ok (.tuple #[.int .i64 z,.bool true]) w:=λ_=>x5
 refine callsD_of_wpS func39 rfl λi cs hu=>?_
 apply wpS_seq;apply wpS_region;simp[wpOpsS,go_sem,recoverD,hu,ntmps39,Exit.thenS];apply wpS_seq;apply wpS_region;simp[wpOpsS,go_sem,a,Exit.thenS];refine wpS_cond (t:=true) (by simp[Act.eval,Act.put,Array.replicate]) ?_
 simp only[if_true];apply wpS_seq;apply wpS_region;simp[wpOpsS,go_sem,b,Exit.thenS];apply wpS_seq;apply wpS_seq;apply wpS_region;simp[wpOpsS,go_sem,Exit.thenS];refine wpS_cond (t:=false) (by simp[Act.eval,Act.put,Array.replicate]) ?_
 simp only[Tv,if_false];refine wpS_of_wp (wp_skip ?_);simp only[Exit.thenS];apply wpS_region;simp[wpOpsS,go_sem,c,d,bodyPostS,results,results39]
abbrev sA(s:χ)(M:Res):Type:={y:PrY // y.Ok s M} ⊕ {z:Int // XD s.fd=.error z}
def X8:sA s M->Int
 |.inl _=>-1
 |.inr z=>z.1
def Ej(g:Nat):sA s M->Res
 |.inl y=>Qh g 69 (χ.cs y.1.t (PC.l ⟨y.1.pv.δ,y.1.pv.vars,y.1.vb,y.1.vs,y.1.vp,y.1.vr,y.1.pv.ν,y.1.pv.ε,y.1.pv.ζ,y.1.vc⟩ y.1.m)) y.1.M'
 |.inr _=>anyR
def Qbs(D:s.In M)(w0:World)(E:QV w0):FxF prog w0 (Qh g 69 (χ.cs s (PC.l (PC.P 0 0 (.slice none 0 0) (.slice none 0 0) (.slice none 0 0) (.slice none 0 0)) false)) M) 16 #[.pointer (some ⟨g,0,none⟩)] (λy:sA s M=>.int .i64 (X8 y)) (λy=>Ej g y) (λ_=>False):=by
 refine⟨λa w=>call16 a w,λw r x S hS B=>?_⟩;have t:∀(fn:Fn) (first cap:Array Value) (w:World),(Instr.makeFunc fn first cap).run prog w=.ok (.func fn first cap) w:=λ_ _ _ _=>rfl
 go_enter_defers func16,ntmps16
 refine wp_seq (wp_region_list ?_);simp[wpList,Oper.wp,Oper.upon,go_sem,Exit.then];left;refine wp_seq (wp_region_list ?_);simp[wpList,Oper.wp,Oper.upon,go_sem,t,Exit.then];left;left;refine wp_seq (wp_region_list ?_);simp[wpList,Oper.wp,Oper.upon,go_sem,Exit.then];left;left;have C:Bx (w.alloc (.cells #[.int .i64 0] 3)) w.heap.size 3 #[.int .i64 0]:=Bx.new w _ _;have c:(w.alloc (.cells #[.int .i64 0] 3)).heap.size=w.heap.size+1:=World.size_alloc _ _;have u:=(Qh g 69 (χ.cs s (PC.l (PC.P 0 0 (.slice none 0 0) (.slice none 0 0) (.slice none 0 0) (.slice none 0 0)) false)) M).loc x S w (w.alloc (.cells #[.int .i64 0] 3)) (λb i=>U7 w _ b (hS b i).2) B;refine((ku D w0 E).2 _ (r.alloc r.size _) x S (λb i=>⟨(hS b i).1,by rw[c];have:=(hS b i).2;omega⟩) u).mono ?_
 have m:¬ S w.heap.size:=λh=>absurd (hS _ h).2 (T4 _)
 have trm:∀d v,Trm w0 S (w.alloc (.cells #[.int .i64 0] 3)) d->Trm w0 S w (d.setCell ⟨w.heap.size,0,none⟩ v):=λd v j=>by
  refine⟨j.low.setCell r.size _,λk hk F=>?_⟩;rw[Sr d ⟨w.heap.size,0,none⟩ v k (by show k≠w.heap.size;omega),j.block k (by rw[c];omega) F,U7 w _ k hk]
 rintro e d (⟨y,G,rfl,j,H,n⟩|⟨v,⟨z,I,rfl⟩,rfl,j⟩)
 ·have o:Bx d w.heap.size 3 #[.int .i64 0]:=(j.block _ (by rw[c];omega) m).trans C;have J:=o.cel 0;have K:=o.free 0;have p:Bx (d.setCell ⟨w.heap.size,0,none⟩ (.int .i64 (-1))) w.heap.size 3 #[.int .i64 (-1)]:=o.set 0 _;have q:=p.cel 0;refine wp_seq (wp_region_list ?_);simp[wpList,Oper.wp,Oper.upon,go_sem,Exit.then,J,K];left;refine wp_ret ?_
  simp only[bodyPostD];refine leaves_cons (f:=39) (args:=#[.pointer (some ⟨w.heap.size,0,none⟩)]) x6 (by simp[go_sem]) ?_
  refine(wj ⟨w.heap.size,0,none⟩ _).mono ?_
  rintro e L A ⟨rfl,rfl,rfl⟩;simp[Leaves,settle,results,results16,go_sem,q];refine .inl ⟨.inl y,G,rfl,trm _ _ j,?_,λb i=>?_⟩
  ·exact(Ej g (.inl y)).loc _ _ _ _ (λb i=>Sr d ⟨w.heap.size,0,none⟩ _ b λe=>(n b i).1.elim (λh=>m ((show b=w.heap.size from e)▸h)) λh=>by rw[c]at h;have N:b=w.heap.size:=e;omega) H
  ·refine⟨(n b i).1.imp id λh=>(by rw[c]at h;omega),?_⟩;have:=(n b i).2;simpa [World.setCell]using this
 ·have o:Bx d w.heap.size 3 #[.int .i64 0]:=(j.block _ (by rw[c];omega) m).trans C;have p:Bx (d.setCell ⟨w.heap.size,0,none⟩ (.int .i64 z)) w.heap.size 3 #[.int .i64 z]:=o.set 0 _;have q:=p.cel 0;simp only[bodyPostD];refine leaves_cons (f:=39) (args:=#[.pointer (some ⟨w.heap.size,0,none⟩)]) x6 (by simp[go_sem]) ?_
  refine(pX ⟨w.heap.size,0,none⟩ 0 z _ (o.cel 0) (o.free 0)).mono ?_
  rintro e L A ⟨rfl,rfl,rfl⟩;simp[Leaves,settle,results,results16,go_sem,q];exact .inl ⟨.inr ⟨z,I⟩,λ_=>False,rfl,trm _ _ j,(Qh g 69 _ M).one _ _ _ B,λ_ h=>h.elim⟩
def Iw{a:m0}{A:m3}{n:Nat}{f:Nat->o3}(h:RdK w A n k f)(c:0<n->∀b o,A=some ⟨b,o,none⟩->a.heap[b]?=w.heap[b]?):RdK a A n k f:=λh0=>by
 let⟨b,o,e,d⟩:=h h0;exact⟨b,o,e,λj g i l=>by rw[<- d j g i l];unfold World.cell?;rw[show a.heap[b]?=w.heap[b]? from c h0 b o e]⟩
structure LnA where
 A0:Option Addr
 c0:Nat
 Al:Nat->Option Addr
 cl:Nat->Nat
def BG(l:List UInt8)(y:LnA):χ:=⟨y.A0,y.c0,Qo (Qi l) 0,y.Al,y.cl,none,0,[],0,(l.length:Int)⟩
def oa(s:χ):Res where
 φ x S w:=x.oneCell'=true/\s.ok w/\(∀b o,s.A0=some ⟨b,o,none⟩->0<s.ls.length->S b)/\(∀j b o,j<s.ls.length->0<(Xv s.ls j).l.length->s.Al j=some ⟨b,o,none⟩->S b)/\s.l=[]
 one _ _ _ h:=h.1
 loc x S w w' h hφ:=by
  let⟨h1,h2,h3,a,c⟩:=hφ;exact⟨h1,⟨h2.h0,Iw h2.r0 λh0 b o e=>h b (h3 b o e h0),h2.hl,λj d=>Iw (h2.rl j d) λh0 b o e=>h b (a j b o d h0 e),h2.hc,Iw h2.rd λh0=>by rw[c]at h0;exact absurd h0 (T4 _)⟩,h3,a,c⟩
def RJ{e n a:Nat}{A:m3}{c:o3}(h:w.ownsRow 0 e k (.slice A n a) n c):n<=a/\(0<n->∃b,A=some ⟨b,0,none⟩/\(Value.slice A n a).ownBlock=some b):=by
 rcases h.2 with⟨e1,d⟩|⟨g,cap,f,e1,_,_,i,_⟩
 ·exact⟨x3,λh=>x3⟩
 ·injection e1 with e1 d j
  subst e1 j;exact⟨i,λ_=>⟨g,rfl,rfl⟩⟩
def Qat{L:List Ln}{A:m3}{c:Nat}{x:y9}(r:(Qx 65 2 L.length (VF L) A c).φ x S w):∃(Al:Nat->m3) (cl:Nat->Nat),(L.length<=c/\(0<L.length->∃b o,A=some ⟨b,o,none⟩))/\∀s,(oa ⟨A,c,L,Al,cl,none,0,[],0,s⟩).φ x S w:=by
 let⟨f,I,h0,y,h3,z⟩:=PP r;let⟨h1,J,K,_,m,_,_,B⟩:=(show _/\_ from r)
 let⟨t,u⟩:=RJ m;have key:∀i,∃p:m3×Nat,i<L.length->f i=[.slice p.1 (Xv L i).l.length p.2,.int .i64 (Xv L i).e]/\(Xv L i).l.length<=p.2/\RdK w p.1 (Xv L i).l.length 2 (λj=>G5 (Qg (Xv L i).l j))/\∀b o,0<(Xv L i).l.length->p.1=some ⟨b,o,none⟩->S b:=λi=>by
  by_cases v:i<L.length
  ·let⟨C,D,M,k1,E,d⟩:=h3 i v;refine⟨(C,D),λ_=>⟨E,?_,l6 Cj Ub d,λb o h0 e=>?_⟩⟩
   ·rcases(show _\/_ from d)with d|⟨_,g,N,_⟩
    ·exact(RJ (show _/\_/\_ from d).2.1).1
    ·have g:(Xv L i).l=[]:=g;rw[g];exact L7 _
   ·rcases(show _\/_ from d)with d|⟨_,g,_⟩
    ·let⟨_,F,G⟩:=(show _/\_/\_ from d)
     let⟨H,n,q⟩:=(RJ F).2 h0;have a:=n.symm.trans e;injection a with a
     injection a with a
     subst a;exact(z _ (k1 _ ((G _).2 q))).1
    ·have g:(Xv L i).l=[]:=g;rw[g]at h0;exact absurd h0 (T4 _)
  ·exact⟨(none,0),λh=>absurd h v⟩
 refine⟨λi=>(Classical.choose (key i)).1,λi=>(Classical.choose (key i)).2,⟨t,λh=>(u h).imp λb h=>⟨0,h.1⟩⟩,λs=>⟨h1,⟨t,y.congr λj k=>(Lq (key j) k).1,λj k=>(Lq (key j) k).2.1,λj k=>(Lq (key j) k).2.2.1,L4 _,λh=>absurd h (T4 _)⟩,λb o e h=>?_,λj b o k h0 e=>(Lq (key j) k).2.2.2 b o h0 e,rfl⟩⟩;let⟨H,n,q⟩:=u h;have a:=n.symm.trans e;injection a with a
 injection a with a
 subst a;exact(B _).2 (.inl q)
abbrev xQ(l:List UInt8):Type:={y:LnA // (Qo (Qi l) 0).length<=y.c0/\(0<(Qo (Qi l) 0).length->∃b o,y.A0=some ⟨b,o,none⟩)}
variable{t0:m1}
def uw(a:t0.size<=65536)(w:m0):NewIn prog w [] 15 #[.string t0] (λy:xQ t0.data.toList=>.slice y.1.A0 (Qo (Qi t0.data.toList) 0).length y.1.c0) (λy=>oa (BG t0.data.toList y.1)):=by
 let⟨b,h⟩:=ux a w;refine⟨b,λW c=>(show Calls _ _ _ _ _ from h W c).mono λe g d=>?_⟩;obtain⟨y,x,S,rfl,h1,h2,h3⟩:=d;let⟨Al,cl,k1,f⟩:=Qat h1;exact⟨⟨⟨y.1,y.2,Al,cl⟩,k1⟩,x,S,rfl,f _,h2,h3⟩
def Qc7{l:List UInt8}(a:okF (J2 l))(y:xQ l):(BG l y.1).In (oa (BG l y.1)):=⟨λ_ _ _ h=>h.2.1,a,y.2.1,y.2.2⟩
noncomputable def outP(l:List UInt8):PV×Int×Int:=match XD (J2 l)with
 |.error z=>(pv0,z,2)
 |.ok (r,_)=>bif r.2 then(pv0,0,3)else bif chkN r.1 != 0 then(pv0,0,chkN r.1)else(r.1,0,0)
def Ei(x:PV)(a c d f g:y9):SV:=.agg [iV x.δ,iV x.vars,.val a,.val c,.val d,.val f,bV x.ν.b,sV x.ν.s,iV x.ν.e,bV x.ε.b,sV x.ε.s,iV x.ε.e,iV x.ζ,.val g]
def sF(x:PV)(a b c d e:y9):y9:=yA x a b c d e
def PrE(l:List UInt8)(s:SV)(R:Res):Prop:=∃(pv:PV) (a b c d f:y9) (z e:Int),s=.tup [Ei pv a b c d f,iV z,iV e]/\outP l=(pv,z,e)/\okX pv/\∀x S w,R.φ x S w->Five 0 w pv a b c d f
def CP(w:m0):Five 0 w pv0 (.slice none 0 0) (.slice none 0 0) (.slice none 0 0) (.slice none 0 0) (.slice none 0 0) :=
 have h:∀ {α:Type} {k:Nat} {p:Rdg α},SlV 0 k p w ([]:List α) (.slice none 0 0):=⟨none,0,rfl,L4 _,λ_=>⟨rfl,rfl⟩,λh=>absurd h (T4 _)⟩
 ⟨h,h,h,h,h⟩
def Qft:okX pv0:=⟨⟨⟨x4,x4,λp a=>(by cases a),x4⟩,x4,x4,x4,λp a=>(by cases a),λp a=>(by cases a),λp a=>(by cases a),λx b=>by
 obtain rfl|rfl:x=pv0.ν\/x=pv0.ε:=by simpa [Qk,pv0]using b
 all_goals exact⟨x4,x4,x4⟩⟩⟩
variable{R:Res}
def dU{l:List UInt8}{e:Int}(h:outP l=(pv0,z,e)):PrE l (.tup [Ei pv0 (.slice none 0 0) (.slice none 0 0) (.slice none 0 0) (.slice none 0 0) (.slice none 0 0),iV z,iV e]) R:=⟨_,_,_,_,_,_,_,_,rfl,h,Qft,λ_ _ w _=>CP w⟩
section
variable{l:List UInt8}{p:PV×Bool}{f:FD}(h:XD (J2 l)=.ok (p,f))
theorem pb(h:XD (J2 l)=.error z):outP l=(pv0,z,2):=by unfold outP;rw[h]
include h
theorem pc(h2:p.2=true):outP l=(pv0,0,3):=by grind[outP]
theorem o9(h2:p.2=false)(h3:(chkN p.1 != 0)=true):outP l=(pv0,0,chkN p.1):=by grind[outP]
theorem gQ(h2:p.2=false)(h3:(chkN p.1 != 0)=false):outP l=(p.1,0,0):=by grind[outP]
end
def shp(v:y9):m3×Nat×Nat:=match v with
 |.slice A n c=>(A,n,c)
 |_=>(none,0,0)
def Ye(v:y9):y9:=.slice (shp v).1 (shp v).2.1 (shp v).2.2
variable{α:Type}{lo:Nat}
def Nf{p:Rdg α}{l:List α}{v:y9}(h:SlV lo k p w l v):Ye v=v:=by
 obtain⟨A,c,rfl,_⟩:=h;rfl
variable{f:y9}
def Five.sl{x:PV}{a d e g:y9}(h:Five 0 w x a d e f g):Ye a=a/\Ye d=d/\Ye e=e/\Ye f=f/\Ye g=g:=⟨Nf h.b,Nf h.s,Nf h.p,Nf h.r,Nf h.c⟩
variable{β:Type}
section
variable{P:z4}{w0:m0}
theorem QaL{tt:List (Nat×TI)}(g:YF P tt)(i:P.follows .mixedOrders=true){f:FuncId}{fn:Func}(j:Xt P f)(k:P.funcs[f]?=some fn){N:Nat}(l:fn.ntmps=N){rs:Array ResultVar}(m:fn.results=rs)(args:o3)(hl:Nat.ble args.length N=true)(val:β->y9)(ρ:β->Res)(E:SV->St->Prop)(d:List Dir){T:m0->Prop}(h:∀W,Below w0.heap.size w0 W->T W)(hk:∀W,T W=C6 P tt W fn (SH N args) d λe σ _=>VV tt rs.toList e σ λs=>E s σ)(n:∀W s σ,E s σ->∀r a c,Sat W σ r a c->∃y x S,s.den r=val y/\(ρ y).φ x S c/\∀b,S b->W.heap.size<=b/\b<c.heap.size):NewIn P w0 [] f args.toArray val ρ:=by
 refine⟨j,λW o=>?_⟩;have h2:=dE (w0:=W) (Z:=λv c=>∃y x S,v=val y/\(ρ y).φ x S c/\∀b,S b->W.heap.size<=b/\b<c.heap.size) g i k l m args hl d (h W o) (hk W) (n W);refine h2.mono λe c p=>?_
 grind
end
structure PrC (z:PV) where
 vb:Value
 vs:Value
 vp:Value
 vr:Value
 vc:Value
 R:Res
 x:okX z
 f:∀x S w,R.φ x S w->Five 0 w z (Ye vb) (Ye vs) (Ye vp) (Ye vr) (Ye vc)
abbrev TE(l:List UInt8):Type:=PrC (outP l).1
noncomputable def prV(l:List UInt8)(y:TE l):y9:=.tuple #[sF (outP l).1 (Ye y.vb) (Ye y.vs) (Ye y.vp) (Ye y.vr) (Ye y.vc),.int .i64 (outP l).2.1,.int .i64 (outP l).2.2]
def GW:sA s M->PrY
 |.inl y=>y.1
 |.inr _=>⟨s,pv0,false,undef,undef,undef,undef,undef,M⟩
def PrY.cs(y:PrY):o3:=χ.cs y.t (PC.l ⟨y.pv.δ,y.pv.vars,Ye y.vb,Ye y.vs,Ye y.vp,Ye y.vr,y.pv.ν,y.pv.ε,y.pv.ζ,Ye y.vc⟩ y.m)
def PrE.use{l:List UInt8}{s:SV}(h:PrE l s R){r:Env}{x:y9}(m:R.φ x S w):∃y:TE l,s.den r=prV l y/\y.R=R:=by
 obtain⟨pv,a,b,c,d,f,z,e,rfl,h2,n,h3⟩:=h;let⟨e1,g,i,j,k⟩:=(h3 _ _ _ m).sl;refine⟨⟨a,b,c,d,f,R,by rw[h2];exact n,λx S w h=>by rw[h2,e1,g,i,j,k];exact h3 x S w h⟩,?_,rfl⟩;show _=Value.tuple #[sF (outP l).1 (Ye a) (Ye b) (Ye c) (Ye d) (Ye f),.int .i64 (outP l).2.1,.int .i64 (outP l).2.2];rw[h2,e1,g,i,j,k];rfl
def Qdk(y:PrY)(g:Nat)(M:Res)(W:m0):GJ prog W [Qh g 69 y.cs M] (Instr.loadAt 35 (.pointer (some ⟨g,4,none⟩))) (sF y.pv (Ye y.vb) (Ye y.vs) (Ye y.vp) (Ye y.vr) (Ye y.vc)):=Q2 λ_ a=>dh (o:=4) a (show 4+14<=19 by decide)
def Qbr{l:List UInt8}{a:xQ l}{y:sA (BG l a.1) (oa (BG l a.1))}(h:decide (X8 y>=0)=true):XD (J2 l)=.error (X8 y):=by
 cases y with
 |inl y=>exact absurd (L0 h) (show ¬(-1:Int)>=0 by decide)
 |inr z=>exact z.2
def Hl{l:List UInt8}{a:xQ l}{y:sA (BG l a.1) (oa (BG l a.1))}(h:decide (X8 y>=0)=false):(GW y).Ok (BG l a.1) (oa (BG l a.1))/\∀ {g:Nat} {x:y9} {S:Nat->Prop} {w:m0},(Ej g y).φ x S w->(Qh g 69 (GW y).cs (GW y).M').φ x S w:=by
 cases y with
 |inl y =>
  refine⟨y.2,λ{g x S w} h=>?_⟩;let⟨_,_,b,c,h2,_⟩:=(show _/\_/\∃b c,_ from h)
  let⟨e1,d,e,f,i⟩:=(y.2.five _ _ _ h2).sl;show(Qh g _ y.1.cs y.1.M').φ x S w;unfold PrY.cs;rw[e1,d,e,f,i];exact h
 |inr z=>exact absurd (py z.2) (L1 h)
def TL{t:Nat}{cs:o3}{y:PrY}{x:y9}(a:Sy y.M' λw=>Five 0 w y.pv y.vb y.vs y.vp y.vr y.vc)(h:(Qh g t cs y.M').φ x S w):Five 0 w y.pv (Ye y.vb) (Ye y.vs) (Ye y.vp) (Ye y.vr) (Ye y.vc):=by
 let⟨_,_,b,c,h2,_⟩:=(show _/\_/\∃b c,_ from h)
 let⟨e1,d,e,f,i⟩:=(a _ _ _ h2).sl;rw[e1,d,e,f,i];exact a _ _ _ h2
def gS{d:m1}(u:okF (J2 d.data.toList))(C:d.size<=65536)(w:m0)(k:QV w):NewIn prog w [] 8 #[.string d] (prV d.data.toList) (λy:TE d.data.toList=>y.R) :=
 QaL Qm QU (λa w=>call8 a w) func8 ntmps8 results8 [.string d] rfl (prV d.data.toList) (λy:TE d.data.toList=>y.R) (λs σ=>ZO (Xq σ.rs 1) (PrE d.data.toList s)) [.br false,x09 3 1 [] (λ(f:xQ d.data.toList)=>(.slice f.1.A0 (Qo (Qi d.data.toList) 0).length f.1.c0,oa (BG d.data.toList f.1),[.giv 4 0 1 0 [5] (λ(i:Nat)=>[x07 4 1 1 (λ_=>False) (λ(c:sA (BG d.data.toList f.1) (oa (BG d.data.toList f.1)))=>(.int .i64 (X8 c),Ej i c,[.both [] [.cnv 7 0 1 (Qh i 69 (GW c).cs ((GW c).M')),x06 7 3 [1] (.bool ((GW c).m)),.both [] [x06 9 3 [1] (yA ((GW c).pv) (Ye (GW c).vb) (Ye (GW c).vs) (Ye (GW c).vp) (Ye (GW c).vr) (Ye (GW c).vc)),.o 9 4 (.retr [1] (.int .i64 (chkN (GW c).pv))),.both [] [x06 12 3 [1] (yA ((GW c).pv) (Ye (GW c).vb) (Ye (GW c).vs) (Ye (GW c).vp) (Ye (GW c).vr) (Ye (GW c).vc))]]]]))])]))] (λW v=>have k:=Ql k v;ai (show decide ((d.size:Int)>65536)=false from Lc x3)<|ai (uw (t0:=d) x3 W) λ(f:xQ d.data.toList)=>λ(i:Nat)=>ai (Qbs (g:=i) (Qc7 u f) W (Ql k (p5 _ _)))<|ai (λ(c:sA (BG d.data.toList f.1) (oa (BG d.data.toList f.1)))=>Xi (decide ((X8 c)>=0)) (λh1=>(show PrE d.data.toList (.tup [Ei pv0 (.slice none 0 0) (.slice none 0 0) (.slice none 0 0) (.slice none 0 0) (.slice none 0 0),iV (X8 c),iV 2]) (Ej i c)from dU (pb (Qbr h1)))) λh1=>X0 (λ(x:y9) (S:Nat->Prop) (w:m0) (h:(Ej i c).φ x S w)=>(Hl h1).2 h) (Q2 (w0:=W) (g:=i) (t:=69) (cs:=(GW c).cs) (M:=(GW c).M') (λj z=>gl j 18 z rfl))<|Xi ((GW c).m) (λh2=>(show PrE d.data.toList (.tup [Ei pv0 (.slice none 0 0) (.slice none 0 0) (.slice none 0 0) (.slice none 0 0) (.slice none 0 0),iV 0,iV 3]) (Qh i 69 (GW c).cs ((GW c).M'))from dU (pc (Hl h1).1.e h2))) λh2=>X0 (Qdk (GW c) i ((GW c).M') W) (p0 (λa w=>call10 a w) (λ(j:m0) (l:Below W.heap.size W j) (x:y9) (S:Nat->Prop) (h:(Qh i 69 (GW c).cs ((GW c).M')).φ x S j)=>(Ea (GW c).pv (Hl h1).1.x j (Ql k l) (TL (Hl h1).1.five h)).at))<|Xi ((chkN (GW c).pv) != 0) (λh3=>(show PrE d.data.toList (.tup [Ei pv0 (.slice none 0 0) (.slice none 0 0) (.slice none 0 0) (.slice none 0 0) (.slice none 0 0),iV 0,iV (chkN (GW c).pv)]) (Qh i 69 (GW c).cs ((GW c).M'))from dU (o9 (p:=((GW c).pv,(GW c).m)) (Hl h1).1.e h2 h3))) λh3=>ai (Qdk (GW c) i ((GW c).M') W)<|(show PrE d.data.toList (.tup [Ei (GW c).pv (Ye (GW c).vb) (Ye (GW c).vs) (Ye (GW c).vp) (Ye (GW c).vr) (Ye (GW c).vc),iV 0,iV 0]) (Qh i 69 (GW c).cs ((GW c).M'))from⟨_,_,_,_,_,_,_,_,rfl,gQ (p:=((GW c).pv,(GW c).m)) (Hl h1).1.e h2 h3,(Hl h1).1.x,λ_ _ _ h=>TL (Hl h1).1.five h⟩)) (λ(_:y9) (h:False)=>h)) (λW=>x5) λW s σ A r a D n=>by
  let⟨R,h1,h⟩:=QH A;let⟨k1,B⟩:=n.see.rs 1 R h1;obtain⟨y,h2,rfl⟩:=h.use k1;exact⟨y,_,_,h2,k1,λb q=>⟨n.sep.ownS 1 _ h1 b q,B b q⟩⟩
def RK{o:PV×Int×Int}(a:outP t0.data.toList=o)(b:okF (J2 t0.data.toList))(c:t0.size<=65536)(w:m0)(d:QV w):NewIn prog w [] 8 #[.string t0] (λy:PrC o.1=>.tuple #[sF o.1 (Ye y.vb) (Ye y.vs) (Ye y.vp) (Ye y.vr) (Ye y.vc),.int .i64 o.2.1,.int .i64 o.2.2]) (λy=>y.R):=by
 subst a;exact gS b c w d
def RL(t0:m1)(a:t0.size<=3999)(w:m0)(b:QV w):NewIn prog w [] 8 #[.string t0] (prV t0.data.toList) (λy:TE t0.data.toList=>y.R):=gS (PM (show t0.data.toList.length<=3999 from a)) x3 w b
noncomputable def prnP(x:PV):m1×Int:=bif chkN x != 0 then(⟨#[]⟩,chkN x)else bif decide (((VP x).length:Int)>65536)then(⟨#[]⟩,3)else(⟨(VP x).toArray⟩,0)
theorem yw{x:PV}(h:(prnP x).2=0):chkN x=0/\(VP x).length<=65536/\(prnP x).1=⟨(VP x).toArray⟩:=by
 unfold prnP at h ⊢;cases e:chkN x != 0 with
 |true =>
  grind
 |false =>
  rw[e]at h;rw[bne_eq_false_iff_eq]at e;cases a:decide (((VP x).length:Int)>65536)with
  |true=>rw[a]at h;cases h
  |false=>exact⟨e,hA (L1 a),rfl⟩
theorem RI{x:PV}(h:(prnP x).2=0):outP (prnP x).1.data.toList=(x,0,0):=by
 let⟨h1,h2,h3⟩:=yw h
 grind[pB,outP]
variable{y:PV}
theorem vU{x:PV}(a:(prnP x).2=0)(b:(prnP y).2=0):(prnP x).1=(prnP y).1↔x=y:=by
 grind[RI]
def Qa3{l:List UInt8}(h:(outP l).2.2≠0):(outP l).1=pv0/\(0<=(outP l).2.1/\(outP l).2.1<=l.length)/\((outP l).2.1=0\/(outP l).2.2=2):=by
 have h0:(0:Int)<=0/\(0:Int)<=l.length:=⟨Sd _,Int.natCast_nonneg _⟩
 cases e:XD (J2 l)with
 |error z=>rw[pb e];exact⟨rfl,vW e,.inr rfl⟩
 |ok r =>
  let⟨p,f⟩:=r;cases a:p.2 with
  |true=>rw[pc e a];exact⟨rfl,h0,.inl rfl⟩
  |false =>
   cases b:chkN p.1 != 0 with
   |true=>rw[o9 e a b];exact⟨rfl,h0,.inl rfl⟩
   |false=>rw[gQ e a b]at h;exact absurd rfl h
theorem vn{l:List UInt8}(h:(outP l).2.2=0)(hl:l.length<=3000):chkN (outP l).1=0/\(prnP (outP l).1).2=0:=by
 cases e:XD (J2 l)with
 |error z=>rw[pb e]at h;cases h
 |ok r =>
  let⟨p,f⟩:=r;cases b:p.2 with
  |true=>rw[pc e b]at h;cases h
  |false =>
   cases a:chkN p.1 != 0 with
   |true=>rw[o9 e b a]at h;rw[bne_iff_ne]at a;exact absurd h a
   |false =>
    grind[gQ,lF,prnP]
section
variable{x:PV}{v V:Nat}(h:PbG x v V)
include h
theorem yY:(Dt x).length<=4001/\∀l,l∈Dt x->l.length<=522:=by
 have C:=h.q;have o:=h.v4;have i:∀ {p:Py} {n:Nat},lk n p->ZQ p=true->(EM p).length<=520:=λ{p n} h1 h2=>by
  have h3:=(Fs h2).1;have key:∀l:List Tm,(∀t,t∈l->(eC t).length<=13)->(l.flatMap eC).length<=13*l.length:=by
   intro l;induction l with
   |nil=>intro _;exact L4 _
   |cons t l j =>
    grind
  have D:=key p.ts λt A=>by
   have E:=(om (h1.1.m t A)).1;have F:=h1.1.n;unfold eC;rw[Li,Rg];omega
  unfold EM;omega
 have G:x.ps.length<=4:=by
  have h1:=h.n;have h2:=h.k;unfold QY at h1;split at h1
  ·omega
  ·split at h1
   ·omega
   ·split at h1<;>omega
 have H:=h.rn;have I:=h.cn;have u:∀p,p∈x.ps->ZQ p=true:=λp i=>h.g p (by unfold KK;simp[i])
 have w:∀p,p∈x.θ->ZQ p=true:=λp i=>h.g p (by unfold KK;simp[i])
 constructor
 ·unfold Dt;simp only[Li,La,Rg];have:(Gy x.δ x.ν x.ε x.ζ).length<=3:=by unfold Gy;cases x.δ==6<;>cases x.δ==4<;>exact L8 rfl
  omega
 ·intro l hl;unfold Dt at hl;simp only[Lb,Lo,Lv]at hl;rcases hl with rfl|rfl|⟨p,f,rfl⟩|⟨p,f,rfl⟩|⟨n,f,rfl⟩|hl
  ·exact L8 rfl
  ·have key:∀L:List (List Nm),(∀p,p∈L->p.length=v)->(L.flatMap λp=>p.map Yc).length=v*L.length:=by
    intro L;induction L with
    |nil=>intro _;rfl
    |cons p L j =>
     intro h;rw[Sn,La,j λq u=>h q (by simp[u]),Rg,h p x6,Li,Rp];omega
   have B:∀L:List (Nm×Nm),(L.flatMap λs=>[Yc s.1,Yc s.2]).length=2*L.length:=by
    intro L;induction L with
    |nil=>rfl
    |cons s L j =>
     rw[Sn,La,j,Li];simp only[Li,S9];omega
   unfold BE;rw[Li,La,B];rcases h.d.2 with⟨a,b,_⟩|⟨a,b,_,c⟩
   ·rw[b];simp only[List.flatMap_nil,S9];omega
   ·rw[key _ λp i=>(c p i).1,a,b];have:v*(v+1)<=4*5:=Nat.mul_le_mul o.2 x3;simp only[S9];omega
  ·have:=i (h.p p f) (u p f);rw[Li];omega
  ·have:=i (h.r p f) (w p f);rw[Li];omega
  ·unfold OL;cases e:n.split==0 with
   |false=>exact L8 rfl
   |true =>
    have y:(x.δ==6)=true:=by
     cases y:x.δ==6 with
     |true=>rfl
     |false=>rw[h.c6 y]at f;cases f
    have:=i (((h.c y).2.2.2.2 n f).2 e).2.2 (h.g _ (by unfold KK;simp only[Lo,Lv];right;exact⟨n,f,rfl⟩));rw[cond_true,Li,Li];omega
  ·unfold Gy at hl;cases e:x.δ==6 with
   |true=>rw[e]at hl;cases hl
   |false =>
    rw[e]at hl;cases z:x.δ==4 with
    |true =>
     rw[z]at hl;simp only[cond_false,cond_true,Lb,Lo,Ri,or_false]at hl;rcases hl with rfl|rfl|rfl<;>exact L8 rfl
    |false =>
     rw[z]at hl;simp only[cond_false,Lb,Lo,Ri,or_false,false_or]at hl;rcases hl with rfl|rfl<;>exact L8 rfl
theorem F3:∀l,l∈Dt x->(ZJ l).length<=65536/\0<l.length/\l.length<=1000:=λl hl=>by
 let⟨h1,h2⟩:=eJ h l hl
 grind[dA,yY]
theorem xn:okF (J2 (VP x)):=by
 let⟨h1,h2⟩:=UX (eK h);let⟨h3,f⟩:=yY h;have c:=eJ h;have g:=eK h;refine⟨⟨L7 _,λt a=>nomatch a⟩,?_,λn i=>?_⟩
 ·have:=Lu List.length h2;rw[Rg]at this;exact this▸h3
 ·have b:n.l.map (·.s)∈Dt x:=h2▸List.mem_map_of_mem i;have d:=f _ b;rw[Rg]at d;refine⟨⟨L6 d x4,λt a=>?_⟩,λe=>?_⟩
  ·have b1:=(c _ b).2 t.s (List.mem_map_of_mem a);have b2:=((g _ b).1 t.s (List.mem_map_of_mem a)).1;have b3:=Ta.2 b2;have j:t.s.data.toList.length=t.s.size:=rfl;omega
  ·exact(c _ b).1 (by rw[e];rfl)
end
def stC(s:m1):o3:=[.string s]
def ZF(s:m1):(stC s).length=1:=rfl
def Gw(s:m1):∀u,u∈stC s->u.oneCell'=true:=λu h=>by
 obtain rfl:=Ly.1 h;rfl
def sepB1:m1:=⟨#[32]⟩
def VR(l:List ByteArray):ByteArray:=⟨(Lib.join (l.map (·.data.toList)) sepB1.data.toList).toArray⟩
theorem nJ{l:List ByteArray}{A:Option Addr}{n c:Nat}{W:World}(a:RdK W A l.length 1 λj=>stC (l.getD j sepB1))(d:0<l.length)(f:l.length=n)(k:n<=c)(h2:n<=1000)(h3:(VR l).data.size<=65536)(g:∀b o,A=some ⟨b,o,none⟩->b<W.heap.size):o4 prog 65 #[.slice A n c,.string sepB1] W (.string (VR l)):=by
 subst f;obtain⟨b,o,rfl,h⟩:=a d
 grind[Tryz.strings_Join,stC,VR]
def Fx(l:List m1){t:m1}(h:VR l=t)(k:0<l.length)(h2:l.length<=1000)(h3:t.data.size<=65536)(W:m0):Xt prog 65/\∀c,Below W.heap.size W c->∀g,Bx c g 9 (l.map Value.string).toArray->o4 prog 65 #[.slice (some ⟨g,0,none⟩) l.length l.length,.string sepB1] c (.string t) :=
 ⟨λa w=>call65 a w,λc _ g d=>h▸nJ (λ_=>⟨g,0,rfl,λj f i n=>by
  obtain rfl:i=0:=x3;rw[d.cel,Sz,T9,Lm];show _=(stC (l.getD j sepB1))[0]?;rw[Yi f];simp[f,stC]⟩) k rfl (L4 _) h2 (h▸h3) λb o e=>by
   injection e with e
   injection e with e
   subst e;exact d.lt⟩
def Mt(l:List m1){t:m1}{A:m3}{c:Nat}(h:VR l=t)(f:0<l.length)(h2:l.length<=1000)(h3:t.data.size<=65536)(W:m0):Cv prog W [Qc 9 1 stC l A c] 65 #[.slice A l.length c,.string sepB1] (.string t) :=
 ⟨λa w=>call65 a w,λg _ x S d=>h▸nJ (JN ZF sepB1 d) f rfl (EO d) h2 (h▸h3) λb o e=>((show _/\_/\_ from d).2.1.lt b (by rw[e];rfl)).2⟩
theorem wl{e:o0}{a:Nat}{c:α->o3}{l:List α}{A:m3}{x:y9}(h:(Qc e k c l A a).φ x S w)(b:A=none):l.length=0/\a=0:=by
 subst b;let⟨_,h1,_⟩:=(show _/\_/\_ from h)
 rcases h1.2 with⟨e1,f⟩|⟨g,cap,d,e1,_⟩
 all_goals grind
def Ef{P:z4}(w0:m0){t i:Nat}(ty:Nat){e bytes:Nat}(c:α->o3)(l l2 l':List α)(A A2:m3)(cp c2:Nat)(o:RowT P t i e k bytes)(hk:0<k)(g:∀x,(c x).length=k)(h1:∀x u,u∈c x->u.oneCell'=true)(d:α)(hl:l++l2=l')(a:l'.length*bytes<=140737488355328):∀W,Below w0.heap.size w0 W->∀x S,(Qj (Qc e k c l A cp) (Qc e k c l2 A2 c2)).φ x S W->Gc P W (λy:Hp=>.slice y.1 l'.length y.2) (λy:Hp=>Qc e k c l' y.1 y.2) x S (Vf .append #[t,i] ty [.slice A l.length cp,.slice A2 l2.length c2]):=λW _ x S p=>by
 obtain⟨q,r,s,v,j,D,m⟩:=(show ∃q r s,_ from p)
 obtain⟨y,w,z,r1,f,B,n⟩:=Ih o g h1 hl a (GM g hk (d:=d) (JN g d j) (wl j)) v;exact⟨y,w,z,r1,⟨f.os,f.tape,f.output,f.size,λb a C=>f.block b a λh=>C ((m b).2 (.inl h))⟩,B,λb a=>⟨(n b a).1.imp (λh=>(m b).2 (.inl h)) id,(n b a).2⟩⟩
def sS{t:o0}{x:y9}(h:(Qh g t [.pointer none,.slice none 0 0] (Qc 5 1 (λb:UInt8=>[.int .u8 b.toNat]) [] none 0)).φ x S w):(YY t g []).φ x S w:=by
 let⟨h1,h2,a,c,h3,f,i,d⟩:=(show _/\_/\∃a c,_ from h)
 let⟨_,_,e⟩:=(show _/\_/\_ from h3)
 exact⟨by rw[h1];rfl,_,_,.inl rfl,h2,⟨rfl,.inl ⟨rfl,rfl⟩⟩,(λh=>nomatch h),λk=>(d k).trans (or_congr Iff.rfl (e k))⟩
def ik(f:Nat->α)(k:Nat):(List.range k).map f++[f k]=(List.range (k+1)).map f:=by
 simp[S7]
theorem Dh(l:List α)(d:α)(f:α->β):(List.range l.length).map (λj=>f (l.getD j d))=l.map f:=by
 refine List.ext_getElem x6 λi h1 h2=>?_
 grind
def C1(l:List Nm)(j:Nat):m1:=Yc (Xm l j)
def XO:RowT prog 93 93 9 1 16:=⟨x5,⟨9,x5⟩,x5,x4,x4⟩
abbrev HBad:Nat×Hp:=(0,none,0)
abbrev HBae(q1:Nat×Hp)(l:List Nm):=(List.range (q1.1+1)).map (C1 l)
def oQ(A:m3)(c:Nat)(l:List Nm)(s:l.length<=4000)(d:∀x,x∈l->gI x)(w:m0)(f:QV w)(e:Tab10 w)(q:RdK w A l.length 3 (λk=>Xk (Xm l k))):NewIn prog w [] 67 #[Ω A l.length c] (λ(y:Hp)=>Ω y.1 ((List.range l.length).map (C1 l)).length y.2) (λ(y:Hp)=>Qc 9 1 stC ((List.range l.length).map (C1 l)) y.1 y.2) :=
 Bf Hp Qm QU (λa w=>call67 a w) func67 ntmps67 results67 _ rfl 0 _ _ [.nil 3 99999 9 1 stC,B2 (λ(q1:Nat×Hp)=>(⟨19,[(0,lV A l.length c),(3,lV q1.2.1 (((List.range q1.1).map (C1 l))).length q1.2.2),(6,lV A l.length c),(7,iV (l.length:Int)),(8,iV (q1.1:Int))],[],[some (Qc 9 1 stC ((List.range q1.1).map (C1 l)) q1.2.1 q1.2.2)]⟩:St)) l.length HBad (λ(q1:Nat×Hp)=>[.both [x03 4 0 (.pointer (some (Q5 A (q1.1*3+0)))),x03 4 1 (nA (Xm l q1.1)),x04 5 2 (sV (C1 l q1.1)),x08 5 4 0 (λ(b:Hp)=>(Ω b.1 ((HBae q1 l)).length b.2,Qc 9 1 stC (HBae q1 l) b.1 b.2,[x05 6 0 (iV ((q1.1+1:Nat):Int)),.nxt [b]]))] []])] (λW g=>have r:=Ql f g;have j:=e.later g;have p:=q.up g (λ_=>rfl);Vv (qV (Ω A l.length c)) (qV (Ω HBad.2.1 (((List.range (HBad.1)).map (C1 l))).length HBad.2.2)) (qV (Ω A l.length c)) (qI (l.length:Int)) (qI ((HBad.1:Nat):Int)) (Yq (Qc 9 1 stC ([]:List m1) none 0) (Qc 9 1 stC ((List.range (HBad.1)).map (C1 l)) (HBad.2.1) (HBad.2.2)) λ_ _ _ h=>h)<|ai (show 0<=l.length from L7 _) λ(q1:Nat×Hp) (hk:(q1.1<=l.length))=>Xi (decide ((q1.1:Int)<(l.length:Int))) (λhl=>Ja (Gi c _ p q1.1 (Qt hl)) (JW p q1.1 0 (Qt hl) x4 rfl rfl) (show RetAt prog W 35 #[nA (Xm l q1.1)] (Ψ (C1 l q1.1))from B3 (L6 (d _ (KU (Qt hl))).2.1 x4) ⟨T7 x4 (d _ (KU (Qt hl))).2.2.1,T7 (d _ (KU (Qt hl))).2.2.2 x4⟩ W r j)<|ai (YJ W 93 9 1 1 stC ((List.range q1.1).map (C1 l)) ([C1 l q1.1]) (HBae q1 l) q1.2.1 q1.2.2 ([Ψ (C1 l q1.1)]) XO ZF Gw (ik (C1 l) q1.1) (show(((List.range (q1.1+1)).map (C1 l))).length*16<=140737488355328 from by rw[Rg,Sb];have:=L0 hl;omega) rfl rfl) λ(b:Hp)=>GL (QD q1.1 x3) (qV (Ω A l.length c)) (qV (Ω b.1 ((HBae q1 l)).length b.2)) (qV (Ω A l.length c)) (qI (l.length:Int)) (qI (((q1.1+1):Nat):Int)) (Yq (Qc 9 1 stC (HBae q1 l) b.1 b.2) (Qc 9 1 stC (HBae q1 l) b.1 b.2) λ_ _ _ h=>h)<|ai (show q1.1+1<=l.length from(Qt hl)) (show l.length-(q1.1+1)<l.length-q1.1 from hA (L0 hl))) λhl=>(show ∃y:Hp,SV.val (Ω q1.2.1 (((List.range q1.1).map (C1 l))).length q1.2.2)=SV.val ((λ(y:Hp)=>Ω y.1 ((List.range l.length).map (C1 l)).length y.2) y)/\∀(x:y9) (S:Nat->Prop) (w:m0),(Qc 9 1 stC ((List.range q1.1).map (C1 l)) q1.2.1 q1.2.2).φ x S w->((λ(y:Hp)=>Qc 9 1 stC ((List.range l.length).map (C1 l)) y.1 y.2) y).φ x S w from⟨q1.2,(by rw[(show q1.1=l.length from hA (L1 hl))]),λx S w h=>(by rw[(show q1.1=l.length from hA (L1 hl))]at h;exact h)⟩)) λW=>x5
theorem lK(m:m1)(j:Nat):bt m j<=255:=by
 unfold bt;have:=(m.data.toList.getD j 0).toNat_lt;omega
theorem wbt(m:m1)(j:Nat):IntKind.i64.wrap ((bt m j:Nat):Int)=((bt m j:Nat):Int):=by grind[Le,lK]
def JI(m:m1)(j:Nat):m1:=Qz ((bt m j:Nat):Int)
def tmJ(l:List Tm)(j:Nat):List m1:=eC (Qb l j)
def Bj(l:List Tm)(k:Nat):List m1:=(List.range k).flatMap (tmJ l)
def Hk(l:List Tm)(k j:Nat):List m1:=Bj l k++(Yc (Qb l k).c::(List.range j).map (JI (Qb l k).m))
def QfB(l:List Tm)(k:Nat):Bj l k++[Yc (Qb l k).c]=Hk l k 0:=rfl
def QfF(l:List Tm)(k j:Nat):Hk l k j++[JI (Qb l k).m j]=Hk l k (j+1):=by
 simp[Hk,ik]
theorem Qbn(l:List Tm)(k:Nat):Hk l k (Qb l k).m.size=Bj l (k+1):=by
 unfold Hk Bj;rw[S7,Sj];congr 1;have e:(List.range (Qb l k).m.size).map (JI (Qb l k).m)=(Qb l k).m.data.toList.map λb:UInt8=>Qz (b.toNat:Int):=Dh (Qb l k).m.data.toList 0 λb:UInt8=>Qz (b.toNat:Int)
 grind[tmJ,eC,Yc]
def dW(l:List Tm):Bj l l.length=l.flatMap eC:=by
 unfold Bj;rw[U8,U8];exact Lu List.flatten (Dh l Bp eC)
def dV(l:List Tm):Prop:=l.length<=40/\∀t,t∈l->gI t.c/\t.m.size<=12
theorem pN{l:List Tm}(h:dV l):∀k,k<=l.length->(Bj l k).length<=13*k
 |0,_=>L4 _
 |k+1,hk=>by
  have a:=pN h k x3;have h2:=(h.2 _ (Yh (show k<l.length by omega))).2
  grind[Qbn,Hk]
theorem pM{l:List Tm}(h:dV l){j:Nat}(hk:k<l.length)(a:j<=(Qb l k).m.size):(Hk l k j).length*16<=140737488355328:=by
 have b:=pN h k x3;have h2:=(h.2 _ (Yh hk)).2;have h3:=h.1
 grind[Hk]
abbrev HBaf:Nat×Hp:=(0,none,0)
abbrev HBag(l:List Tm)(q1:Nat×Hp):m1:=(Qb l q1.1).m
def MV(v:Int)(A:m3)(c:Nat)(l:List Tm)(p:dV l)(w:m0)(C:QV w)(u:Tab10 w)(F:RdK w A l.length 4 (λk=>QK (Qb l k))):NewIn prog w [] 34 #[.agg #[Θ v,Ω A l.length c]] (λ(y:Hp)=>Ω y.1 (Bj l l.length).length y.2) (λ(y:Hp)=>Qc 9 1 stC (Bj l l.length) y.1 y.2) :=
 Bf Hp Qm QU (λa w=>call34 a w) func34 ntmps34 results34 _ rfl 0 _ _ [.nil 3 99999 9 1 stC,B2 (λ(q1:Nat×Hp)=>(⟨38,[(3,lV q1.2.1 ((Bj l q1.1)).length q1.2.2),(9,lV A l.length c),(10,iV (l.length:Int)),(11,iV (q1.1:Int))],[some (0,[])],[some (Qc 9 1 stC (Bj l q1.1) q1.2.1 q1.2.2)]⟩:St)) l.length HBaf (λ(q1:Nat×Hp)=>[.both [x03 4 0 (.pointer (some (Q5 A (q1.1*4+0)))),x03 4 1 (.agg #[Ψ ((Qb l q1.1).m),Ξ ((Qb l q1.1).c.b),Ψ ((Qb l q1.1).c.s),Θ ((Qb l q1.1).c.e)]),x04 5 3 (sV (Yc (Qb l q1.1).c)),x08 5 5 0 (λ(q:Hp)=>(Ω q.1 ((Hk l q1.1 0)).length q.2,Qc 9 1 stC (Hk l q1.1 0) q.1 q.2,[x09 6 2 [] (λ(g:Hp)=>(Ω g.1 (HBag l q1).size g.2,IR (Qb l q1.1).m g.1,[B2 (λ(d:Nat×Hp)=>(⟨38,[(3,lV d.2.1 ((Hk l q1.1 d.1)).length d.2.2),(9,lV A l.length c),(10,iV (l.length:Int)),(11,iV (q1.1:Int)),(23,lV g.1 (HBag l q1).size g.2),(24,iV (((HBag l q1).size:Nat):Int)),(25,iV (d.1:Int))],[some (0,[]),some (0,[]),some (0,[])],[some (Qc 9 1 stC (Hk l q1.1 d.1) d.2.1 d.2.2),none]⟩:St)) ((Qb l q1.1).m.size) (0,q) (λ(d:Nat×Hp)=>[.both [x06 8 0 [1] (.pointer (some (Q5 g.1 (d.1*1+0)))),x06 8 1 [1] (.int .u8 ((bt (Qb l q1.1).m d.1:Nat):Int)),x05 9 2 (iV ((bt (Qb l q1.1).m d.1:Nat):Int)),x04 9 3 (sV (JI (Qb l q1.1).m d.1)),x08 9 5 0 (λ(r:Hp)=>(Ω r.1 ((Hk l q1.1 (d.1+1))).length r.2,Qc 9 1 stC (Hk l q1.1 (d.1+1)) r.1 r.2,[x05 10 0 (iV ((d.1+1:Nat):Int)),.nxt [r]]))] [x05 11 0 (iV ((q1.1+1:Nat):Int)),.nxt [d.2]]])]))]))] []])] (λW D=>have G:=Ql C D;have z:=u.later D;have t:=F.up D (λ_=>rfl);KJ (qV (Ω HBaf.2.1 ((Bj l (HBaf.1))).length HBaf.2.2)) (qV (Ω A l.length c)) (qI (l.length:Int)) (qI ((HBaf.1:Nat):Int)) (Yq (Qc 9 1 stC ([]:List m1) none 0) (Qc 9 1 stC (Bj l (HBaf.1)) (HBaf.2.1) (HBaf.2.2)) λ_ _ _ h=>h)<|ai (show 0<=l.length from L7 _) λ(q1:Nat×Hp) (H:(q1.1<=l.length))=>Xi (decide ((q1.1:Int)<(l.length:Int))) (λf=>Ja (Y0 c t q1.1 (Qt f)) (ZE t q1.1 0 (Qt f) x4 rfl rfl) (show RetAt prog W 35 #[nA ((Qb l q1.1).c)] (Ψ (Yc (Qb l q1.1).c))from B3 (L6 ((p.2 _ (Yh (Qt f))).1).2.1 x4) ⟨T7 x4 ((p.2 _ (Yh (Qt f))).1).2.2.1,T7 ((p.2 _ (Yh (Qt f))).1).2.2.2 x4⟩ W G z)<|ai (YJ W 93 9 1 1 stC (Bj l q1.1) ([Yc (Qb l q1.1).c]) (Hk l q1.1 0) q1.2.1 q1.2.2 ([Ψ (Yc (Qb l q1.1).c)]) XO ZF Gw (QfB l q1.1) (pM p (Qt f) (L7 _)) rfl rfl) λ(q:Hp)=>ai (ME prog W 9 82 5 x5 x5 x5 (Qb l q1.1).m) λ(g:Hp)=>Yx (qV (Ω q.1 ((Hk l q1.1 0)).length q.2)) (qV (Ω A l.length c)) (qI (l.length:Int)) (qI (q1.1:Int)) (qV (Ω g.1 (HBag l q1).size g.2)) (qI (((HBag l q1).size:Nat):Int)) (qI ((0:Nat):Int)) (Yq (Qc 9 1 stC (Hk l q1.1 0) q.1 q.2) (Qc 9 1 stC (Hk l q1.1 0) q.1 q.2) λ_ _ _ h=>h)<|ai (XR (IR (Qb l q1.1).m g.1))<|ai (show 0<=(Qb l q1.1).m.size from L7 _) λ(d:Nat×Hp) (I:(d.1<=(Qb l q1.1).m.size))=>Xi (decide ((d.1:Int)<((((Qb l q1.1).m:m1).size:Nat):Int))) (λj=>Ky (Pp ((Qb l q1.1).m) g.1 W (λB t=>Fw g.2 B t d.1 (show d.1<(Qb l q1.1).m.size from Qt j))) (Pp ((Qb l q1.1).m) g.1 W (λB t=>Oz B t d.1 0 (show d.1<(Qb l q1.1).m.size from Qt j) x4 rfl)) (wbt (Qb l q1.1).m d.1) (show RetAt prog W 32 #[Θ ((bt (Qb l q1.1).m d.1:Nat):Int)] (Ψ (JI (Qb l q1.1).m d.1))from⟨λa w=>call32 a w,λB E=>DI _ B (hA (lK (Qb l q1.1).m d.1)) (z.later E)⟩)<|ai (YJ W 93 9 1 1 stC (Hk l q1.1 d.1) ([JI (Qb l q1.1).m d.1]) (Hk l q1.1 (d.1+1)) d.2.1 d.2.2 ([Ψ (JI (Qb l q1.1).m d.1)]) XO ZF Gw (QfF l q1.1 d.1) (pM p (Qt f) (show d.1<(Qb l q1.1).m.size from Qt j)) rfl rfl) λ(r:Hp)=>Yx (QD d.1 (hA ((p.2 _ (Yh (Qt f))).2))) (qV (Ω r.1 ((Hk l q1.1 (d.1+1))).length r.2)) (qV (Ω A l.length c)) (qI (l.length:Int)) (qI (q1.1:Int)) (qV (Ω g.1 (HBag l q1).size g.2)) (qI (((HBag l q1).size:Nat):Int)) (qI (((d.1+1):Nat):Int))<|X0 (Yq (Qc 9 1 stC (Hk l q1.1 (d.1+1)) r.1 r.2) (Qc 9 1 stC (Hk l q1.1 (d.1+1)) r.1 r.2) λ_ _ _ h=>h) (XR (IR (Qb l q1.1).m g.1))<|ai (show d.1+1<=(Qb l q1.1).m.size from Qt j) (show(Qb l q1.1).m.size-(d.1+1)<(Qb l q1.1).m.size-d.1 from hA (L0 j))) λj=>Vv (QD q1.1 (hA p.1)) (show(Ω d.2.1 ((Hk l q1.1 d.1)).length d.2.2:y9)=(Ω d.2.1 ((Bj l (q1.1+1))).length d.2.2)from(by rw[(show d.1=(Qb l q1.1).m.size from hA (L1 j)),Qbn])) (qV (Ω A l.length c)) (qI (l.length:Int)) (qI (((q1.1+1):Nat):Int)) (Yq (Qc 9 1 stC (Hk l q1.1 d.1) d.2.1 d.2.2) (Qc 9 1 stC (Bj l (q1.1+1)) d.2.1 d.2.2) λ_ _ _ h=>(by rw[(show d.1=(Qb l q1.1).m.size from hA (L1 j)),Qbn]at h;exact h))<|ai (show q1.1+1<=l.length from Qt f) (show l.length-(q1.1+1)<l.length-q1.1 from hA (L0 f))) λf=>(show ∃y:Hp,SV.val (Ω q1.2.1 ((Bj l q1.1)).length q1.2.2)=SV.val ((λ(y:Hp)=>Ω y.1 (Bj l l.length).length y.2) y)/\∀(x:y9) (S:Nat->Prop) (w:m0),(Qc 9 1 stC (Bj l q1.1) q1.2.1 q1.2.2).φ x S w->((λ(y:Hp)=>Qc 9 1 stC (Bj l l.length) y.1 y.2) y).φ x S w from⟨q1.2,(by rw[(show q1.1=l.length from hA (L1 f))]),λx S w h=>(by rw[(show q1.1=l.length from hA (L1 f))]at h;exact h)⟩)) λW=>x5
def QaV{A:m3}{c:Nat}{l:List Nm}(f:l.length<=4000)(b:∀x,x∈l->gI x)(w:m0)(g:QV w)(d:Tab10 w):NewIn prog w [Qc 32 3 Xk l A c] 67 #[.slice A l.length c] (λy:Hp=>Value.slice y.1 ((List.range l.length).map (C1 l)).length y.2) (λy:Hp=>Qc 9 1 stC ((List.range l.length).map (C1 l)) y.1 y.2):=⟨λa w=>call67 a w,λW e x S h=>(oQ _ c _ f b W (Ql g e) (d.later e) (JN Xx nm0 h)).2 W (p5 _ _)⟩
def QaT{A:m3}{c:Nat}{a b:Nm}(f:gI a)(g:gI b)(w:m0)(h:QV w)(d:Tab10 w):NewIn prog w [Qc 32 3 Xk [a,b] A c] 67 #[.slice A 2 c] (λy:Hp=>Value.slice y.1 2 y.2) (λy:Hp=>Qc 9 1 stC [Yc a,Yc b] y.1 y.2):=QaV (l:=[a,b]) (L8 rfl) (λx e=>by
 rcases Lb.1 e with rfl|e
 ·exact f
 ·rw[Ly.1 e];exact g) w h d
def VG(l:List m1):m1:=⟨(ZJ l).toArray⟩
def BY(l:List m1):VR l++(⟨#[10]⟩:m1)=VG l:=Dx (Hw l) [10]
def ym(l:List m1):(VG l).data.toList=ZJ l:=by
 rfl
theorem JQ{l:List m1}{n:Nat}(h:(ZJ l).length<=n):(VR l).data.size<=n:=by
 have h2:(VR l).data.size=(Hw l).length:=Rs
 grind[ZJ]
def spJ(l:List (Nm×Nm))(j:Nat):List m1:=[Yc (QN l j).1,Yc (QN l j).2]
def Cy(l:List (Nm×Nm))(k:Nat):List m1:=Jh::(List.range k).flatMap (spJ l)
def QcM(l:List (Nm×Nm))(k:Nat):Cy l k++[Yc (QN l k).1,Yc (QN l k).2]=Cy l (k+1):=by
 simp[Cy,S7,spJ]
def Po(l:List (Nm×Nm)):∀k,(Cy l k).length=2*k+1
 |0=>rfl
 |k+1=>by rw[<- QcM,La,Po l k];show 2*k+1+2=_;omega
def Pn(l:List (Nm×Nm)):Cy l l.length=Jh::l.flatMap λs=>[Yc s.1,Yc s.2]:=by
 unfold Cy;rw[U8,U8];exact Lu (λr=>Jh::List.flatten r) (Dh l (nm0,nm0) λs=>[Yc s.1,Yc s.2])
def Qe4(l:List (Nm×Nm)):Prop:=0<l.length/\l.length<=4/\∀s,s∈l->gI s.1/\gI s.2
def Ay{l:List UInt8}{t:List m1}(h:l.length<=8000000)(h2:(ZJ t).length<=65536):l.length+(VG t).size<=8388608:=by
 have:(VG t).size=(ZJ t).length:=Rs;omega
variable{Ab As:m3}{cb:Nat}
def Qa6{j:List UInt8}{cs:Nat}{bx:List (Nm×Nm)}(f:Qe4 bx)(h0:j.length<=8000000)(q:(ZJ (Jh::bx.flatMap λs=>[Yc s.1,Yc s.2])).length<=65536)(W:m0)(z:QV W)(r:Tab10 W)(y:RdK W Ab bx.length 6 (λk=>JR (QN bx k))):FxF prog W (YY 87 g j) 33 #[x02 g,.agg #[Ω Ab bx.length cb,Ω As 0 cs]] (λ_:Unit=>.tuple #[]) (λ_:Unit=>YY 87 g (j++ZJ (Jh::bx.flatMap λs=>[Yc s.1,Yc s.2]))) (λ_=>False) :=
 VC (β:=Unit) Qm QU (λa w=>call33 a w) func33 ntmps33 results33 _ rfl _ _ _ _ [.row 2 99999 1 [4,9] 9 1 stC ([Jh]) (λ(p:Hp)=>[B2 (λ(q1:Nat×Hp)=>(⟨47,[(0,.val (x02 g)),(3,.ptr 0 0),(4,lV q1.2.1 ((Cy bx q1.1)).length q1.2.2),(11,lV Ab bx.length cb),(12,iV (bx.length:Int)),(13,iV (q1.1:Int))],[none,some (0,[])],[none,none,some (Qc 9 1 stC (Cy bx q1.1) q1.2.1 q1.2.2)]⟩:St)) bx.length (0,p) (λ(q1:Nat×Hp)=>[.both [x03 4 0 (.pointer (some (Q5 Ab (q1.1*6+0)))),x03 4 1 (.agg #[Ξ ((QN bx q1.1).1.b),Ψ ((QN bx q1.1).1.s),Θ ((QN bx q1.1).1.e),Ξ ((QN bx q1.1).2.b),Ψ ((QN bx q1.1).2.s),Θ ((QN bx q1.1).2.e)]),.row 5 6 3 [22] 32 3 Xk ([(QN bx q1.1).1,(QN bx q1.1).2]) (λ(u:Hp)=>[x09 5 6 [3] (λ(m:Hp)=>(Ω m.1 2 m.2,Qc 9 1 stC ([Yc (QN bx q1.1).1,Yc (QN bx q1.1).2]) m.1 m.2,[.join 5 7 2 4,x08 5 7 2 (λ(d:Hp)=>(Ω d.1 ((Cy bx (q1.1+1))).length d.2,Qc 9 1 stC (Cy bx (q1.1+1)) d.1 d.2,[x05 6 0 (iV ((q1.1+1:Nat):Int)),.nxt [d]]))]))])] [.br false,.unr 1,.br false,.inl 14 2 f30,.reg 6 [],.o 0 4 (.retr [2] (Ψ (VR (Cy bx q1.1)))),x03 0 5 (Ψ (VG (Cy bx q1.1))),x07 0 6 0 (λ_=>False) (λ(x:Unit)=>(.tuple #[Θ (VG (Cy bx q1.1)).size,.nilIface],YY 87 g (j++(VG (Cy bx q1.1)).data.toList),[]))]])])] (λF=>ai (show([Ψ ⟨#[98,111,120]⟩]:o3)=List.flatMap stC ([Jh])from rfl)<|ai (p0 ZF (show([Jh]).length<=maxLen from(L8 rfl))) λ(p:Hp)=>have Z:=qk (some (27,[lV Ab bx.length cb,lV As 0 cs]));Yx (qV (x02 g)) (qV (Ω p.1 ((Cy bx 0)).length p.2)) (qV (Ω Ab bx.length cb)) (qI (bx.length:Int)) (qI ((0:Nat):Int)) Z (XR (YY 87 g j)) (XR F)<|ai (Yq (Qc 9 1 stC ([Jh]) p.1 p.2) (Qc 9 1 stC (Cy bx 0) p.1 p.2) λ_ _ _ h=>h)<|ai (show 0<=bx.length from L7 _) λ(q1:Nat×Hp) (hk:(q1.1<=bx.length))=>Xi (decide ((q1.1:Int)<(bx.length:Int))) (λhl=>Ja (CR cb y q1.1 (Qt hl)) (Eu y q1.1 0 (Qt hl) x4 rfl rfl) (show([Ξ ((QN bx q1.1).1.b),Ψ ((QN bx q1.1).1.s),Θ ((QN bx q1.1).1.e),Ξ ((QN bx q1.1).2.b),Ψ ((QN bx q1.1).2.s),Θ ((QN bx q1.1).2.e)]:o3)=List.flatMap Xk ([(QN bx q1.1).1,(QN bx q1.1).2])from rfl)<|ai (p0 Xx (show([(QN bx q1.1).1,(QN bx q1.1).2]).length<=maxLen from(L8 rfl))) λ(u:Hp)=>ai (QaT (A:=u.1) (c:=u.2) (f.2.2 _ (ET (Qt hl))).1 (f.2.2 _ (ET (Qt hl))).2 W z r) λ(m:Hp)=>ai (Ef W 93 stC (Cy bx q1.1) ([Yc (QN bx q1.1).1,Yc (QN bx q1.1).2]) (Cy bx (q1.1+1)) q1.2.1 m.1 q1.2.2 m.2 XO x4 ZF Gw sepB1 (QcM bx q1.1) (by rw[Po];have:=f.2.1;have:=(Qt hl);omega)) λ(d:Hp)=>Yx (QD q1.1 (hA f.2.1)) (qV (x02 g)) (qV (Ω d.1 ((Cy bx (q1.1+1))).length d.2)) (qV (Ω Ab bx.length cb)) (qI (bx.length:Int)) (qI (((q1.1+1):Nat):Int)) Z (XR (YY 87 g j))<|X0 (XR F) (Yq (Qc 9 1 stC (Cy bx (q1.1+1)) d.1 d.2) (Qc 9 1 stC (Cy bx (q1.1+1)) d.1 d.2) λ_ _ _ h=>h)<|ai (show q1.1+1<=bx.length from(Qt hl)) (show bx.length-(q1.1+1)<bx.length-q1.1 from hA (L0 hl))) λhl=>GL (show((bx.length:Int)==0)=false from Lp.2 (hA f.1)) (show(decide (0<((0:Nat):Int)))=false from rfl) func30 (λa w=>call30 a w) (Mt (Cy bx q1.1) (t:=VR (Cy bx q1.1)) (A:=q1.2.1) (c:=q1.2.2) rfl (by rw[Po];omega) (by rw[Po];have:=f.2.1;omega) (JQ (show(ZJ (Cy bx q1.1)).length<=65536 from by rw[(show q1.1=bx.length from hA (L1 hl)),Pn];exact q)) W) (Z9 W (.tmp 8) (.const (Ψ ⟨#[10]⟩)) (VR (Cy bx q1.1)) ⟨#[10]⟩ (VG (Cy bx q1.1)) (by have:=JQ (show(ZJ (Cy bx q1.1)).length<=65536 from by rw[(show q1.1=bx.length from hA (L1 hl)),Pn];exact q);show(VR (Cy bx q1.1)).data.size+1<=_;omega) (BY (Cy bx q1.1))) (JB 87 ⟨KR,x4⟩ g j (VG (Cy bx q1.1)) (Ay h0 (show(ZJ (Cy bx q1.1)).length<=65536 from by rw[(show q1.1=bx.length from hA (L1 hl)),Pn];exact q)) W)<|ai (λ(x:Unit)=>(YP F (.tuple #[]) (λ_:Unit=>.tuple #[]) (YY 87 g (j++(VG (Cy bx q1.1)).data.toList)) (λ_:Unit=>YY 87 g (j++ZJ (Jh::bx.flatMap λs=>[Yc s.1,Yc s.2]))) () rfl λ_ _ _ h=>by rw[ym,(show q1.1=bx.length from hA (L1 hl)),Pn]at h;exact h)) (Yf F (λ_=>False) (λ_=>False) λ_ h=>h)) λF=>x5
def ptJ(l:List (List Nm))(j:Nat):List m1:=(Qu l j).map Yc
def Ct(l:List (List Nm))(k:Nat):List m1:=Q6::(List.range k).flatMap (ptJ l)
def Qei(l:List (List Nm))(k:Nat):Ct l k++(List.range (Qu l k).length).map (C1 (Qu l k))=Ct l (k+1):=by
 unfold Ct;rw[S7,Sj,show(List.range (Qu l k).length).map (C1 (Qu l k))=ptJ l k from Dh (Qu l k) nm0 Yc];simp
def SE(l:List (List Nm)):Ct l l.length=Q6::l.flatMap λp=>p.map Yc:=by
 unfold Ct;rw[U8,U8];exact Lu (λr=>Q6::List.flatten r) (Dh l [] λp=>p.map Yc)
def Qd1(l:List (List Nm)):Prop:=0<l.length/\l.length<=5/\∀p,p∈l->(0<p.length/\p.length<=4)/\∀x,x∈p->gI x
def SF{l:List (List Nm)}(h:Qd1 l):∀k,k<=l.length->0<(Ct l k).length/\(Ct l k).length<=4*k+1
 |0,_=>⟨L4 _,L4 _⟩
 |k+1,hk=>by
  have a:=SF h k x3;have h2:=(h.2.2 _ (Ka (show k<l.length by omega))).1;rw[<- Qei,La,Rg,Sb];omega
abbrev HBah(d:List (List Nm))(q1:Nat×Hp):=(List.range (Qu d q1.1).length).map (C1 (Qu d q1.1))
def Qa8{r:List UInt8}{cs:Nat}{z:Nat->m3}{B:Nat->Nat}{d:List (List Nm)}(f:Qd1 d)(h0:r.length<=8000000)(x:(ZJ (Q6::d.flatMap λp=>p.map Yc)).length<=65536)(W:m0)(H:QV W)(C:Tab10 W)(G:RdK W As d.length 1 (λk=>yx d z B k))(I:∀j,j<d.length->RdK W (z j) (Qu d j).length 3 (λk=>Xk (Xm (Qu d j) k))):FxF prog W (YY 87 g r) 33 #[x02 g,.agg #[Ω Ab 0 cb,Ω As d.length cs]] (λ_:Unit=>.tuple #[]) (λ_:Unit=>YY 87 g (r++ZJ (Q6::d.flatMap λp=>p.map Yc))) (λ_=>False) :=
 VC (β:=Unit) Qm QU (λa w=>call33 a w) func33 ntmps33 results33 _ rfl _ _ _ _ [.row 2 99999 1 [4,9] 9 1 stC ([Jh]) (λ(m:Hp)=>[.unr 1,.br false,.br true,x06 8 1 [2] (.pointer (some (Q5 m.1 (0*1+0)))),x08 8 2 2 (λ(D:Unit)=>(undef,Qc 9 1 stC ([Q6]) m.1 m.2,[B2 (λ(q1:Nat×Hp)=>(⟨47,[(0,.val (x02 g)),(3,.ptr 0 0),(4,lV q1.2.1 ((Ct d q1.1)).length q1.2.2),(33,lV As d.length cs),(34,iV (d.length:Int)),(35,iV (q1.1:Int))],[none,some (0,[])],[none,none,some (Qc 9 1 stC (Ct d q1.1) q1.2.1 q1.2.2)]⟩:St)) d.length (0,m) (λ(q1:Nat×Hp)=>[.both [x03 11 0 (.pointer (some (Q5 As (q1.1*1+0)))),x03 11 1 (Ω (z q1.1) (Qu d q1.1).length (B q1.1)),x09 12 2 [] (λ(u:Hp)=>(Ω u.1 (HBah d q1).length u.2,Qc 9 1 stC (HBah d q1) u.1 u.2,[.join 12 3 2 3,x08 12 3 2 (λ(q:Hp)=>(Ω q.1 ((Ct d (q1.1+1))).length q.2,Qc 9 1 stC (Ct d (q1.1+1)) q.1 q.2,[x05 13 0 (iV ((q1.1+1:Nat):Int)),.nxt [q]]))]))] [.inl 14 2 f30,.reg 6 [],.o 0 4 (.retr [2] (Ψ (VR (Ct d q1.1)))),x03 0 5 (Ψ (VG (Ct d q1.1))),x07 0 6 0 (λ_=>False) (λ(E:Unit)=>(.tuple #[Θ (VG (Ct d q1.1)).size,.nilIface],YY 87 g (r++(VG (Ct d q1.1)).data.toList),[]))]])]))])] (λF=>ai (show([Ψ ⟨#[98,111,120]⟩]:o3)=List.flatMap stC ([Jh])from rfl)<|ai (p0 ZF (show([Jh]).length<=maxLen from(L8 rfl))) λ(m:Hp)=>Ja (show(decide (0<((0:Nat):Int)))=false from rfl) (show(((0:Nat):Int)==0)=true from rfl) (Jl W 9 1 stC ([Jh]) m.1 m.2 ZF sepB1 (λJ K=>cX (w0:=J) (c:=m.2) (i:=0) K x4))<|ai (Iz prog W 9 1 m.2 stC m.1 9 0 0 ([Jh]) ([Q6]) (Ψ Q6) Q6 ZF sepB1 (Qm 9 _ rfl) rfl rfl x4 x4 (Gw _) rfl) λ(D:Unit)=>have Z:=qk (some (27,[lV Ab 0 cb,lV As d.length cs]));Yx (qV (x02 g)) (qV (Ω m.1 ((Ct d 0)).length m.2)) (qV (Ω As d.length cs)) (qI (d.length:Int)) (qI ((0:Nat):Int)) Z (XR (YY 87 g r)) (XR F)<|ai (Yq (Qc 9 1 stC ([Q6]) m.1 m.2) (Qc 9 1 stC (Ct d 0) m.1 m.2) λ_ _ _ h=>h)<|ai (show 0<=d.length from L7 _) λ(q1:Nat×Hp) (hk:(q1.1<=d.length))=>Xi (decide ((q1.1:Int)<(d.length:Int))) (λhl=>X0 (Zy cs G q1.1 (Qt hl)) (J6 G q1.1 0 (Qt hl) x4 rfl)<|ai (oQ (z q1.1) (B q1.1) (Qu d q1.1) (L6 (f.2.2 _ (Ka (Qt hl))).1.2 x4) (f.2.2 _ (Ka (Qt hl))).2 W H C (I q1.1 (Qt hl))) λ(u:Hp)=>ai (Ef W 93 stC (Ct d q1.1) (HBah d q1) (Ct d (q1.1+1)) q1.2.1 u.1 q1.2.2 u.2 XO x4 ZF Gw sepB1 (Qei d q1.1) (by have:=(SF f (q1.1+1) (Qt hl)).2;have:=f.2.1;have:=(Qt hl);omega)) λ(q:Hp)=>Yx (QD q1.1 (hA f.2.1)) (qV (x02 g)) (qV (Ω q.1 ((Ct d (q1.1+1))).length q.2)) (qV (Ω As d.length cs)) (qI (d.length:Int)) (qI (((q1.1+1):Nat):Int)) Z (XR (YY 87 g r))<|X0 (XR F) (Yq (Qc 9 1 stC (Ct d (q1.1+1)) q.1 q.2) (Qc 9 1 stC (Ct d (q1.1+1)) q.1 q.2) λ_ _ _ h=>h)<|ai (show q1.1+1<=d.length from(Qt hl)) (show d.length-(q1.1+1)<d.length-q1.1 from hA (L0 hl))) λhl=>KJ func30 (λa w=>call30 a w) (Mt (Ct d q1.1) (t:=VR (Ct d q1.1)) (A:=q1.2.1) (c:=q1.2.2) rfl (SF f q1.1 hk).1 (k0 ((SF f q1.1 hk).2) f.2.1) (JQ (show(ZJ (Ct d q1.1)).length<=65536 from by rw[(show q1.1=d.length from hA (L1 hl)),SE];exact x)) W) (Z9 W (.tmp 8) (.const (Ψ ⟨#[10]⟩)) (VR (Ct d q1.1)) ⟨#[10]⟩ (VG (Ct d q1.1)) (by have:=JQ (show(ZJ (Ct d q1.1)).length<=65536 from by rw[(show q1.1=d.length from hA (L1 hl)),SE];exact x);show(VR (Ct d q1.1)).data.size+1<=_;omega) (BY (Ct d q1.1))) (JB 87 ⟨KR,x4⟩ g r (VG (Ct d q1.1)) (Ay h0 (show(ZJ (Ct d q1.1)).length<=65536 from by rw[(show q1.1=d.length from hA (L1 hl)),SE];exact x)) W)<|ai (λ(E:Unit)=>(YP F (.tuple #[]) (λ_:Unit=>.tuple #[]) (YY 87 g (r++(VG (Ct d q1.1)).data.toList)) (λ_:Unit=>YY 87 g (r++ZJ (Q6::d.flatMap λp=>p.map Yc))) () rfl λ_ _ _ h=>by rw[ym,(show q1.1=d.length from hA (L1 hl)),SE]at h;exact h)) (Yf F (λ_=>False) (λ_=>False) λ_ h=>h)) λF=>x5
def KF(a:List UInt8)(f:Nat->List m1)(k:Nat):List UInt8:=a++((List.range k).map f).flatMap ZJ
theorem aK(a:List UInt8)(f:Nat->List m1)(k:Nat):KF a f k++ZJ (f k)=KF a f (k+1):=by
 simp[KF,S7]
theorem IE(hd:List UInt8){f:Nat->List m1}{n:Nat}(h:∀j,j<n->(ZJ (f j)).length<=65536):∀k,k<=n->(KF hd f k).length<=hd.length+65536*k
 |0,_=>by unfold KF;simp
 |k+1,hk=>by
  have a:=IE hd h k x3
  grind[aK]
variable{V:Nat}
theorem Qa7{x:PV}(g:Nat)(l0:List UInt8)(cb cs:Nat){m:Nat->m3}{r:Nat->Nat}(i:PbG x v V)(h0:l0.length<=8000000)(f:(ZJ (BE x.box x.κ)).length<=65536)(W:m0)(n:QV W)(h:Tab10 W)(t:RdK W Ab x.box.length 6 (λk=>JR (QN x.box k)))(u:RdK W As x.κ.length 1 (λk=>yx x.κ m r k))(w:∀j,j<x.κ.length->RdK W (m j) (Qu x.κ j).length 3 (λk=>Xk (Xm (Qu x.κ j) k))):FxF prog W (YY 87 g l0) 33 #[.pointer (some ⟨g,0,none⟩),.agg #[.slice Ab x.box.length cb,.slice As x.κ.length cs]] (λ_:Unit=>.tuple #[]) (λ_:Unit=>YY 87 g (l0++ZJ (BE x.box x.κ))) (λ_=>False):=by
 have A:=i.v4;have l:=i.a;rcases i.d.2 with⟨a,b,_⟩|⟨a,b,_,c⟩
 ·have e:BE x.box x.κ=Jh::x.box.flatMap λs=>[Yc s.1,Yc s.2]:=by
   grind[BE]
  rw[e]at f ⊢;rw[b];exact Qa6 ⟨x3,x3,λs o=>⟨l _ (VH o).1,l _ (VH o).2⟩⟩ h0 f W n h t
 ·have e:BE x.box x.κ=Q6::x.κ.flatMap λp=>p.map Yc:=by
   unfold BE;rw[a];rfl
  rw[e]at f ⊢;rw[a];exact Qa8 ⟨x3,x3,λp q=>⟨hA ((c p q).1),λy z=>l _ (It q z)⟩⟩ h0 f W n h u w
def xJ  (w:m0):RetAt prog w 31 #[] (.agg #[x00,Ψ ⟨#[114,97,110,103,101]⟩,Ψ ⟨#[114,97,116,105,111]⟩,Ψ ⟨#[112,111,115,105,116,105,118,101]⟩,Ψ ⟨#[109,105,110,105,109,117,109]⟩,Ψ ⟨#[122,101,114,111,115]⟩,Ψ ⟨#[99,104,101,99,107]⟩]) :=
 rk [] λW a b=>(show(.agg #[x00,Ψ ⟨#[114,97,110,103,101]⟩,Ψ ⟨#[114,97,116,105,111]⟩,Ψ ⟨#[112,111,115,105,116,105,118,101]⟩,Ψ ⟨#[109,105,110,105,109,117,109]⟩,Ψ ⟨#[122,101,114,111,115]⟩,Ψ ⟨#[99,104,101,99,107]⟩]:y9)=.agg #[x00,Ψ ⟨#[114,97,110,103,101]⟩,Ψ ⟨#[114,97,116,105,111]⟩,Ψ ⟨#[112,111,115,105,116,105,118,101]⟩,Ψ ⟨#[109,105,110,105,109,117,109]⟩,Ψ ⟨#[122,101,114,111,115]⟩,Ψ ⟨#[99,104,101,99,107]⟩]from rfl)
def xI{k:Int}(h1:1<=k)(h2:k<=6)(W:m0):Qp prog W (Instr.index 89 (.agg #[.string ⟨#[]⟩,.string ⟨#[114,97,110,103,101]⟩,.string ⟨#[114,97,116,105,111]⟩,.string ⟨#[112,111,115,105,116,105,118,101]⟩,.string ⟨#[109,105,110,105,109,117,109]⟩,.string ⟨#[122,101,114,111,115]⟩,.string ⟨#[99,104,101,99,107]⟩]) (.int .i64 k)) (.string (wKinds.getD k.toNat ⟨#[]⟩)):=λa _=>by
 rcases(show k=1\/k=2\/k=3\/k=4\/k=5\/k=6 by omega)with rfl|rfl|rfl|rfl|rfl|rfl<;>rfl
def aJ(x:PV):List UInt8:=ZJ [wKinds.getD x.δ.toNat ⟨#[]⟩,Qz x.vars]++ZJ (BE x.box x.κ)
def fP(x:PV)(j:Nat):List m1:=ZC::EM (QM x.ps j)
def fR(x:PV)(j:Nat):List m1:=Xu::EM (QM x.θ j)
def fC(x:PV)(j:Nat):List m1:=OL (Qn x.ι j)
def lc(x:PV):List UInt8:=KF (aJ x) (fP x) x.ps.length
def BN(x:PV):List UInt8:=KF (lc x) (fR x) x.θ.length
def Uf(x:PV):List UInt8:=KF (BN x) (fC x) x.ι.length
theorem eG(x:PV):VP x=Uf x++(Gy x.δ x.ν x.ε x.ζ).flatMap ZJ:=by
 have e1:(List.range x.ps.length).map (fP x)=x.ps.map λp=>ZC::EM p:=Dh x.ps NU λp=>ZC::EM p
 have a:(List.range x.θ.length).map (fR x)=x.θ.map λp=>Xu::EM p:=Dh x.θ NU λp=>Xu::EM p
 have b:(List.range x.ι.length).map (fC x)=x.ι.map OL:=Dh x.ι Eh OL;unfold VP Dt Uf BN lc aJ KF
 grind
def rQ(a:List UInt8)(f:Nat->List m1):KF a f 0=a:=Rq a
section
variable{x:PV}{v V:Nat}(h:PbG x v V)
include h
abbrev eX(l:List m1):Prop:=(ZJ l).length<=65536/\0<l.length/\l.length<=1000
theorem dv:eX [wKinds.getD x.δ.toNat ⟨#[]⟩,Qz x.vars]:=by grind[F3,Dt]
theorem Qdy:eX (BE x.box x.κ):=by grind[F3,Dt]
theorem dw{j:Nat}(a:j<x.ps.length):eX (fP x j):=by grind[F3,Dt,fP,VK]
theorem dz{j:Nat}(a:j<x.θ.length):eX (fR x j):=by grind[F3,Dt,fR,VK]
theorem Hy{j:Nat}(a:j<x.ι.length):eX (fC x j):=by grind[F3,Dt,fC,DK]
theorem Gm(a:(x.δ==6)=false):eX [Zh,Yc x.ν]/\eX [Qy,Qz x.ζ]/\((x.δ==4)=true->eX [Xh,Yc x.ε]):=by
 have key:∀l,l∈Gy x.δ x.ν x.ε x.ζ->eX l:=λl hl=>F3 h l (by unfold Dt;simp only[Lb,Lo];exact .inr (.inr (.inr (.inr (.inr hl)))))
 grind[Gy]
theorem Av:(aJ x).length<=131072/\(∀k,k<=x.ps.length->(KF (aJ x) (fP x) k).length<=1000000)/\(∀k,k<=x.θ.length->(KF (lc x) (fR x) k).length<=2000000)/\∀k,k<=x.ι.length->(KF (BN x) (fC x) k).length<=7000000:=by
 have h1:=(dv h).1;have h2:=(Qdy h).1;have d:(aJ x).length<=131072:=by unfold aJ;rw[La];omega
 have f:x.ps.length<=4:=by
  have h1:=h.n;have h2:=h.k;have h3:=h.q;have g:=h.v4
  grind[QY]
 have i:=h.rn;have l:=h.cn;have b:∀k,k<=x.ps.length->(KF (aJ x) (fP x) k).length<=1000000:=λk hk=>by
  have:=IE (aJ x) (λj a=>(dw h a).1) k hk;omega
 have c:∀k,k<=x.θ.length->(KF (lc x) (fR x) k).length<=2000000:=λk hk=>by
  have:=IE (lc x) (λj a=>(dz h a).1) k hk;have e:(lc x).length<=1000000:=b _ (L4 _);omega
 refine⟨d,b,c,λk hk=>?_⟩;have:=IE (BN x) (λj a=>(Hy h a).1) k hk;have e:(BN x).length<=2000000:=c _ (L4 _);omega
omit h in
theorem pO{n:Nat}(h1:lk n p)(h2:ZQ p=true):dV p.ts:=⟨(Fs h2).1,λt a=>⟨⟨h1.1.f t a,((Fs h2).2 t a).1⟩,by have:=(om (h1.1.m t a)).1;have:=h1.1.n;have e:t.m.data.toList.length=t.m.size:=rfl;omega⟩⟩
theorem QfD{j:Nat}(a:j<x.ps.length):dV (QM x.ps j).ts:=pO (h.p _ (VK a)) (h.g _ (by unfold KK;simp[VK a]))
theorem QfE{j:Nat}(a:j<x.θ.length):dV (QM x.θ j).ts:=pO (h.r _ (VK a)) (h.g _ (by unfold KK;simp[VK a]))
theorem QcV{j:Nat}(a:j<x.ι.length):(x.δ==6)=true:=by
 cases e:x.δ==6 with
 |true=>rfl
 |false=>rw[h.c6 e]at a;exact absurd a (R4 _)
theorem QfC{j:Nat}(a:j<x.ι.length)(b:((Qn x.ι j).split==0)=true):dV (Qn x.ι j).sum.ts:=pO (((h.c (QcV h a)).2.2.2.2 _ (DK a)).2 b).2.2 (h.g _ (by unfold KK;simp only[Lo,Lv];exact .inr ⟨_,DK a,rfl⟩))
theorem QbC{j:Nat}(b:j<x.ι.length):gI (Qn x.ι j).ο:=h.a _ (by unfold Qk;simp only[Lo,Sa];exact .inr ⟨_,DK b,x6⟩)
theorem zL:gI x.ν:=h.a _ (by unfold Qk;simp)
theorem zz:gI x.ε:=h.a _ (by unfold Qk;simp)
end
def du(a:List UInt8)(l:List m1):a++ZJ l≠[]:=λe=>by
 have h:=(Uk.1 (Uk.1 e).2).2;cases h
def eH{a:List UInt8}(h:a≠[])(f:Nat->List m1)(k:Nat):KF a f k≠[]:=λe=>h (Uk.1 e).1
def Qez(x:PV)(k:Nat):KF (BN x) (fC x) k≠[]:=eH (eH (eH (du _ _) _ _) _ _) _ _
def Qff(x:PV)(j:Nat):[ZC]++Bj (QM x.ps j).ts (QM x.ps j).ts.length=fP x j:=by rw[dW];rfl
def Qfg(x:PV)(j:Nat):[Xu]++Bj (QM x.θ j).ts (QM x.θ j).ts.length=fR x j:=by rw[dW];rfl
section
variable{x:PV}{j:Nat}
theorem jK(h:((Qn x.ι j).split != 0)=true):fC x j=[Xo]:=by
 grind[fC,OL]
def Qfe(h:((Qn x.ι j).split != 0)=false):[Zq,Yc (Qn x.ι j).ο]++Bj (Qn x.ι j).sum.ts (Qn x.ι j).sum.ts.length=fC x j:=by
 unfold fC OL;rw[dW,show((Qn x.ι j).split==0)=true by simpa using h];rfl
theorem Qc3{v V:Nat}(_:PbG x v V)(h:(x.δ==6)=true):VP x=Uf x:=by
 rw[eG]
 grind[Gy]
theorem Qc2(h:(x.δ==6)=false)(a:(x.δ==4)=true):VP x=((Uf x++ZJ [Zh,Yc x.ν])++ZJ [Xh,Yc x.ε])++ZJ [Qy,Qz x.ζ]:=by
 rw[eG];simp_all[Gy]
def Qc4(h:(x.δ==6)=false)(a:(x.δ==4)=false):VP x=(Uf x++ZJ [Zh,Yc x.ν])++ZJ [Qy,Qz x.ζ]:=by
 rw[eG];unfold Gy;rw[h,a];simp
end
theorem PbG.c64{x:PV}(h:PbG x v V):x.ι.length<=64/\x.θ.length<=4/\x.ps.length<=4:=⟨h.cn,h.rn,by
 have h1:=h.n;have h2:=h.q;have h3:=h.v4
 grind[QY]⟩
abbrev HBai(r:Nat):y9:=.pointer (some ⟨r,0,none⟩)
abbrev HBaj:y9:=.string ⟨#[10]⟩
def wb{x:PV}{Ap Ar Ac:m3}{cs kp kr cc:Nat}{Us Up Z Uc:Nat->m3}{us up ur uc:Nat->Nat}(f:PbG x v V)(w:m0)(L:QV w)(F:Tab10 w)(HB:RdK w Ab x.box.length 6 (λk=>JR (QN x.box k)))(HS:RdK w As x.κ.length 1 (λk=>yx x.κ Us us k))(HP:∀j,j<x.κ.length->RdK w (Us j) (Qu x.κ j).length 3 (λk=>Xk (Xm (Qu x.κ j) k)))(HQ:RdK w Ap x.ps.length 2 (λk=>X7 x.ps Up up k))(O:∀j,j<x.ps.length->RdK w (Up j) (QM x.ps j).ts.length 4 (λk=>QK (Qb (QM x.ps j).ts k)))(HU:RdK w Ar x.θ.length 2 (λk=>X7 x.θ Z ur k))(P:∀j,j<x.θ.length->RdK w (Z j) (QM x.θ j).ts.length 4 (λk=>QK (Qb (QM x.θ j).ts k)))(HC:RdK w Ac x.ι.length 6 (λk=>be x.ι Uc uc k))(Q:∀j,j<x.ι.length->RdK w (Uc j) (Qn x.ι j).sum.ts.length 4 (λk=>QK (Qb (Qn x.ι j).sum.ts k))):RetAt prog w 14 #[xA x Ab cb As cs Ap kp Ar kr Ac cc] (Ψ ⟨(VP x).toArray⟩) :=
 let R:OB:=some (35,(xS x Ab cb As cs Ap kp Ar kr Ac cc));rk [.nil 2 99999 5 1 (λb:UInt8=>[.int .u8 b.toNat]),.giv 2 99999 1 0 [3] (λ(r:Nat)=>[.cnv 2 99999 1 (YY 87 r []),.reg 8 [],x04 2 0 (.agg [sV ⟨#[]⟩,sV ⟨#[114,97,110,103,101]⟩,sV ⟨#[114,97,116,105,111]⟩,sV ⟨#[112,111,115,105,116,105,118,101]⟩,sV ⟨#[109,105,110,105,109,117,109]⟩,sV ⟨#[122,101,114,111,115]⟩,sV ⟨#[99,104,101,99,107]⟩]),x03 2 3 (Ψ (wKinds.getD x.δ.toNat ⟨#[]⟩)),x04 2 6 (sV (Qz x.vars)),.inl 2 8 f30,.reg 6 [],x04 0 4 (sV (VR [(wKinds.getD x.δ.toNat ⟨#[]⟩),(Qz x.vars)])),x03 0 5 (Ψ (VG [(wKinds.getD x.δ.toNat ⟨#[]⟩),(Qz x.vars)])),x07 0 6 1 (λ_=>False) (λ(u1:Unit)=>(.tuple #[Θ (VG [(wKinds.getD x.δ.toNat ⟨#[]⟩),(Qz x.vars)]).size,.nilIface],YY 87 r (ZJ [(wKinds.getD x.δ.toNat ⟨#[]⟩),(Qz x.vars)]),[x07 3 2 1 (λ_=>False) (λ(u2:Unit)=>(.tuple #[],YY 87 r (aJ x),[x0a (0:Nat) (λ(q1:Nat) (u:List Hp)=>(q1+1)) (λ(q1:Nat)=>((⟨95,[(1,.ptr 0 0),(3,.val (HBai r)),(23,lV Ap x.ps.length kp),(24,iV (x.ps.length:Int)),(25,iV (q1:Int))],[none,some (0,[]),some (0,[]),some (0,[]),some (0,[]),some (0,[]),some (0,[]),some (0,[]),some (0,[]),some (0,[]),some (0,[]),some (0,[]),some (0,[]),some (0,[]),some (0,[]),some (0,[])],[none,some (YY 87 r (KF (aJ x) (fP x) q1))]⟩:St),(q1<=x.ps.length),(x.ps.length-q1),[.both [x03 6 0 (.pointer (some (Q5 Ap (q1*2+0)))),x03 6 1 (.agg #[Θ ((QM x.ps q1).vars),Ω (Up q1) (QM x.ps q1).ts.length (up q1)]),x09 7 2 [] (λ(C:Hp)=>(Ω C.1 (Bj (QM x.ps q1).ts (QM x.ps q1).ts.length).length C.2,Qc 9 1 stC (Bj (QM x.ps q1).ts (QM x.ps q1).ts.length) C.1 C.2,[.row 7 3 17 [29] 9 1 stC ([ZC]) (λ(I:Hp)=>[.join 7 3 3 2,x08 7 3 3 (λ(D:Hp)=>(Ω D.1 (fP x q1).length D.2,Qc 9 1 stC (fP x q1) D.1 D.2,[.inl 7 4 f30,.reg 6 [],.o 0 4 (.retr [3] (Ψ (VR (fP x q1)))),x03 0 5 (Ψ (VG (fP x q1))),x07 0 6 1 (λ_=>False) (λ(G:Unit)=>(.tuple #[Θ (VG (fP x q1)).size,.nilIface],YY 87 r ((KF (aJ x) (fP x) q1)++ZJ (fP x q1)),[x05 8 0 (iV ((q1+1:Nat):Int)),.nxt []]))]))])]))] [x0a (0:Nat) (λ(m:Nat) (u:List Hp)=>(m+1)) (λ(m:Nat)=>((⟨95,[(1,.ptr 0 0),(3,.val (HBai r)),(36,lV Ar x.θ.length kr),(37,iV (x.θ.length:Int)),(38,iV (m:Int))],[none,some (0,[]),some (0,[]),some (0,[]),some (0,[]),some (0,[]),some (0,[]),some (0,[]),some (0,[]),some (0,[]),some (0,[]),some (0,[]),some (0,[]),some (0,[]),some (0,[]),some (0,[])],[none,some (YY 87 r (KF (lc x) (fR x) m))]⟩:St),(m<=x.θ.length),(x.θ.length-m),[.both [x03 11 0 (.pointer (some (Q5 Ar (m*2+0)))),x03 11 1 (.agg #[Θ ((QM x.θ m).vars),Ω (Z m) (QM x.θ m).ts.length (ur m)]),x09 12 2 [] (λ(C:Hp)=>(Ω C.1 (Bj (QM x.θ m).ts (QM x.θ m).ts.length).length C.2,Qc 9 1 stC (Bj (QM x.θ m).ts (QM x.θ m).ts.length) C.1 C.2,[.row 12 3 17 [42] 9 1 stC ([Xu]) (λ(I:Hp)=>[.join 12 3 3 2,x08 12 3 3 (λ(D:Hp)=>(Ω D.1 (fR x m).length D.2,Qc 9 1 stC (fR x m) D.1 D.2,[.inl 12 4 f30,.reg 6 [],.o 0 4 (.retr [3] (Ψ (VR (fR x m)))),x03 0 5 (Ψ (VG (fR x m))),x07 0 6 1 (λ_=>False) (λ(G:Unit)=>(.tuple #[Θ (VG (fR x m)).size,.nilIface],YY 87 r ((KF (lc x) (fR x) m)++ZJ (fR x m)),[x05 13 0 (iV ((m+1:Nat):Int)),.nxt []]))]))])]))] [x0a (0:Nat) (λ(d:Nat) (u:List Hp)=>(d+1)) (λ(d:Nat)=>((⟨95,[(1,.ptr 0 0),(3,.val (HBai r)),(49,lV Ac x.ι.length cc),(50,iV (x.ι.length:Int)),(51,iV (d:Int))],[none,some (0,[]),some (0,[]),some (0,[]),some (0,[]),some (0,[]),some (0,[]),some (0,[]),some (0,[]),some (0,[]),some (0,[]),some (0,[]),some (0,[]),some (0,[]),some (0,[]),some (0,[])],[none,some (YY 87 r (KF (BN x) (fC x) d))]⟩:St),(d<=x.ι.length),(x.ι.length-d),[.both [x03 16 0 (.pointer (some (Q5 Ac (d*6+0)))),x03 16 1 (.agg #[Θ ((Qn x.ι d).split),Ξ ((Qn x.ι d).ο.b),Ψ ((Qn x.ι d).ο.s),Θ ((Qn x.ι d).ο.e),Θ ((Qn x.ι d).sum.vars),Ω (Uc d) (Qn x.ι d).sum.ts.length (uc d)]),.both [.inl 18 1 f30,.reg 6 [],x04 0 4 (sV (VR [Xo])),x03 0 5 (Ψ (VG [Xo])),x07 0 6 1 (λ_=>False) (λ(G:Unit)=>(.tuple #[Θ (VG [Xo]).size,.nilIface],YY 87 r ((KF (BN x) (fC x) d)++ZJ [Xo]),[x05 20 0 (iV ((d+1:Nat):Int)),.nxt []]))] [.reg 7 [],x04 19 2 (sV (Yc (Qn x.ι d).ο)),.o 19 6 (.nw (.han 8) [] (λ(y:Hp)=>Ω y.1 ((Bj (Qn x.ι d).sum.ts (Qn x.ι d).sum.ts.length)).length y.2) (λ(y:Hp)=>Qc 9 1 stC (Bj (Qn x.ι d).sum.ts (Qn x.ι d).sum.ts.length) y.1 y.2)),.opn 19 7 8 (λ(C:Hp)=>Ω C.1 ((Bj (Qn x.ι d).sum.ts (Qn x.ι d).sum.ts.length)).length C.2) (λ(C:Hp)=>Qc 9 1 stC (Bj (Qn x.ι d).sum.ts (Qn x.ι d).sum.ts.length) C.1 C.2) (λ(C:Hp)=>[.row 19 7 20 [63] 9 1 stC ([Zq,Yc (Qn x.ι d).ο]) (λ(I:Hp)=>[.join 19 7 9 8,x08 19 7 9 (λ(D:Hp)=>(Ω D.1 (fC x d).length D.2,Qc 9 1 stC (fC x d) D.1 D.2,[.inl 19 8 f30,.reg 6 [],.o 0 4 (.retr [9] (Ψ (VR (fC x d)))),x03 0 5 (Ψ (VG (fC x d))),x07 0 6 1 (λ_=>False) (λ(G:Unit)=>(.tuple #[Θ (VG (fC x d)).size,.nilIface],YY 87 r ((KF (BN x) (fC x) d)++ZJ (fC x d)),[x05 20 0 (iV ((d+1:Nat):Int)),.nxt []]))]))])])]] [.both [x07 22 1 1 (λ_=>False) (λ(G:Unit)=>(Ψ ⟨((KF (BN x) (fC x) d)).toArray⟩,anyR,[]))] [x04 23 2 (sV (Yc x.ν)),.inl 23 4 f30,.reg 6 [],x04 0 4 (sV (VR [Zh,(Yc x.ν)])),x03 0 5 (Ψ (VG [Zh,(Yc x.ν)])),x07 0 6 1 (λ_=>False) (λ(G:Unit)=>(.tuple #[Θ (VG [Zh,(Yc x.ν)]).size,.nilIface],YY 87 r ((KF (BN x) (fC x) d)++ZJ [Zh,(Yc x.ν)]),[.both [x04 25 2 (sV (Yc x.ε)),.inl 25 4 f30,.reg 6 [],x04 0 4 (sV (VR [Xh,(Yc x.ε)])),x03 0 5 (Ψ (VG [Xh,(Yc x.ε)])),x07 0 6 1 (λ_=>False) (λ(U:Unit)=>(.tuple #[Θ (VG [Xh,(Yc x.ε)]).size,.nilIface],YY 87 r (((KF (BN x) (fC x) d)++ZJ [Zh,(Yc x.ν)])++ZJ [Xh,(Yc x.ε)]),[x04 26 2 (sV (Qz x.ζ)),.inl 26 4 f30,.reg 6 [],x04 0 4 (sV (VR [Qy,(Qz x.ζ)])),x03 0 5 (Ψ (VG [Qy,(Qz x.ζ)])),x07 0 6 1 (λ_=>False) (λ(X:Unit)=>(.tuple #[Θ (VG [Qy,(Qz x.ζ)]).size,.nilIface],YY 87 r ((((KF (BN x) (fC x) d)++ZJ [Zh,(Yc x.ν)])++ZJ [Xh,(Yc x.ε)])++ZJ [Qy,(Qz x.ζ)]),[x07 27 1 1 (λ_=>False) (λ(u6:Unit)=>(Ψ ⟨(((((KF (BN x) (fC x) d)++ZJ [Zh,(Yc x.ν)])++ZJ [Xh,(Yc x.ε)])++ZJ [Qy,(Qz x.ζ)])).toArray⟩,anyR,[]))]))]))] [x04 26 2 (sV (Qz x.ζ)),.inl 26 4 f30,.reg 6 [],x04 0 4 (sV (VR [Qy,(Qz x.ζ)])),x03 0 5 (Ψ (VG [Qy,(Qz x.ζ)])),x07 0 6 1 (λ_=>False) (λ(U:Unit)=>(.tuple #[Θ (VG [Qy,(Qz x.ζ)]).size,.nilIface],YY 87 r (((KF (BN x) (fC x) d)++ZJ [Zh,(Yc x.ν)])++ZJ [Qy,(Qz x.ζ)]),[x07 27 1 1 (λ_=>False) (λ(X:Unit)=>(Ψ ⟨((((KF (BN x) (fC x) d)++ZJ [Zh,(Yc x.ν)])++ZJ [Qy,(Qz x.ζ)])).toArray⟩,anyR,[]))]))]]))]]]))]]))]]))]))]))])] λW J hR=>have L:=Ql L J;have F:=F.later J;have HB:=HB.up J (λ_=>rfl);have HS:=HS.up J (λ_=>rfl);have HP:=(show ∀j,j<x.κ.length->RdK W (Us j) (Qu x.κ j).length 3 (λk=>Xk (Xm (Qu x.κ j) k))from λj Y=>(HP j Y).below (λ_=>rfl) J);have HQ:=HQ.up J (λ_=>rfl);have O:=(show ∀j,j<x.ps.length->RdK W (Up j) (QM x.ps j).ts.length 4 (λk=>QK (Qb (QM x.ps j).ts k))from λj Y=>(O j Y).below (λ_=>rfl) J);have HU:=HU.up J (λ_=>rfl);have P:=(show ∀j,j<x.θ.length->RdK W (Z j) (QM x.θ j).ts.length 4 (λk=>QK (Qb (QM x.θ j).ts k))from λj Y=>(P j Y).below (λ_=>rfl) J);have HC:=HC.up J (λ_=>rfl);have Q:=(show ∀j,j<x.ι.length->RdK W (Uc j) (Qn x.ι j).sum.ts.length 4 (λk=>QK (Qb (Qn x.ι j).sum.ts k))from λj Y=>(Q j Y).below (λ_=>rfl) J);λ(r:Nat)=>Yx (λ(x:y9) (S:Nat->Prop) (w:m0) (h:(Qh r 87 [.pointer none,x01] (Qc 5 1 (λb:UInt8=>[.int .u8 b.toNat]) [] none 0)).φ x S w)=>sS h) (xJ W) (xI f.k.1 f.k.2 W) (show RetAt prog W 32 #[Θ x.vars] (Ψ (Qz x.vars))from⟨λa w=>call32 a w,λW' K=>DI _ W' (k0 f.q f.v4) (F.later K)⟩) func30 (λa w=>call30 a w) (Fx [(wKinds.getD x.δ.toNat ⟨#[]⟩),(Qz x.vars)] (t:=VR [(wKinds.getD x.δ.toNat ⟨#[]⟩),(Qz x.vars)]) rfl (dv f).2.1 (dv f).2.2 (JQ (dv f).1) W) (Z9 W (.tmp 8) (.const HBaj) (VR [(wKinds.getD x.δ.toNat ⟨#[]⟩),(Qz x.vars)]) ⟨#[10]⟩ (VG [(wKinds.getD x.δ.toNat ⟨#[]⟩),(Qz x.vars)]) (by have:=JQ (dv f).1;show(VR [(wKinds.getD x.δ.toNat ⟨#[]⟩),(Qz x.vars)]).data.size+1<=_;omega) (BY [(wKinds.getD x.δ.toNat ⟨#[]⟩),(Qz x.vars)]))<|ai (JB 87 ⟨KR,x4⟩ r ([]) (VG [(wKinds.getD x.δ.toNat ⟨#[]⟩),(Qz x.vars)]) (Ay (L7 _) (dv f).1) W)<|ai (λ(u1:Unit)=>ai (Qa7 r (ZJ [(wKinds.getD x.δ.toNat ⟨#[]⟩),(Qz x.vars)]) cb cs f (L6 (dv f).1 x4) (Qdy f).1 W L F HB HS HP)<|ai (λ(u2:Unit)=>Vv (qV (HBai r)) (qV (Ω Ap x.ps.length kp)) (qI (x.ps.length:Int)) (qI ((0:Nat):Int)) (qk R) (Yq (YY 87 r (aJ x)) (YY 87 r (KF (aJ x) (fP x) 0)) λ_ _ _ h=>(by rw[rQ];exact h))<|ai (show 0<=x.ps.length from L7 _) λ(q1:Nat) (ad:(q1<=x.ps.length))=>Xi (decide ((q1:Int)<(x.ps.length:Int))) (λz=>X0 (J5 kp HQ q1 (Qt z)) (D8 HQ q1 0 (Qt z) x4 rfl rfl)<|ai (MV ((QM x.ps q1).vars) (Up q1) (up q1) ((QM x.ps q1).ts) (QfD f (Qt z)) W L F (O q1 (Qt z))) λ(C:Hp)=>ai (show([Ψ ⟨#[112,111,108,121]⟩]:o3)=List.flatMap stC ([ZC])from rfl)<|ai (p0 ZF (show([ZC]).length<=maxLen from(L8 rfl))) λ(I:Hp)=>ai (Ef W 93 stC ([ZC]) (Bj (QM x.ps q1).ts (QM x.ps q1).ts.length) (fP x q1) I.1 C.1 I.2 C.2 XO x4 ZF Gw sepB1 (Qff x q1) (hA ((dw f (Qt z)).2.2))) λ(D:Hp)=>KJ func30 (λa w=>call30 a w) (Mt (fP x q1) (t:=VR (fP x q1)) (A:=D.1) (c:=D.2) rfl (dw f (Qt z)).2.1 (dw f (Qt z)).2.2 (JQ (dw f (Qt z)).1) W) (Z9 W (.tmp 8) (.const HBaj) (VR (fP x q1)) ⟨#[10]⟩ (VG (fP x q1)) (by have:=JQ (dw f (Qt z)).1;show(VR (fP x q1)).data.size+1<=_;omega) (BY (fP x q1))) (JB 87 ⟨KR,x4⟩ r (KF (aJ x) (fP x) q1) (VG (fP x q1)) (Ay (L6 ((Av f).2.1 q1 ad) x4) (dw f (Qt z)).1) W)<|ai (λ(G:Unit)=>GL (QD q1 (k0 (Qt z) f.c64)) (qV (HBai r)) (qV (Ω Ap x.ps.length kp)) (qI (x.ps.length:Int)) (qI (((q1+1):Nat):Int)) (qk R) (Yq (YY 87 r ((KF (aJ x) (fP x) q1)++ZJ (fP x q1))) (YY 87 r (KF (aJ x) (fP x) (q1+1))) λ_ _ _ h=>(by rw[aK]at h;exact h))<|ai (show q1+1<=x.ps.length from(Qt z)) (show x.ps.length-(q1+1)<x.ps.length-q1 from hA (L0 z))) (λ(_:y9) (h:False)=>h)) λz=>Vv (qV (HBai r)) (qV (Ω Ar x.θ.length kr)) (qI (x.θ.length:Int)) (qI ((0:Nat):Int)) (qk R) (Yq (YY 87 r (KF (aJ x) (fP x) q1)) (YY 87 r (KF (lc x) (fR x) 0)) λ_ _ _ h=>(by rw[(show q1=x.ps.length from hA (L1 z))]at h;rw[rQ];exact h))<|ai (show 0<=x.θ.length from L7 _) λ(m:Nat) (ae:(m<=x.θ.length))=>Xi (decide ((m:Int)<(x.θ.length:Int))) (λB=>X0 (J5 kr HU m (Qt B)) (D8 HU m 0 (Qt B) x4 rfl rfl)<|ai (MV ((QM x.θ m).vars) (Z m) (ur m) ((QM x.θ m).ts) (QfE f (Qt B)) W L F (P m (Qt B))) λ(C:Hp)=>ai (show([Ψ ⟨#[114,117,108,101]⟩]:o3)=List.flatMap stC ([Xu])from rfl)<|ai (p0 ZF (show([Xu]).length<=maxLen from(L8 rfl))) λ(I:Hp)=>ai (Ef W 93 stC ([Xu]) (Bj (QM x.θ m).ts (QM x.θ m).ts.length) (fR x m) I.1 C.1 I.2 C.2 XO x4 ZF Gw sepB1 (Qfg x m) (hA ((dz f (Qt B)).2.2))) λ(D:Hp)=>KJ func30 (λa w=>call30 a w) (Mt (fR x m) (t:=VR (fR x m)) (A:=D.1) (c:=D.2) rfl (dz f (Qt B)).2.1 (dz f (Qt B)).2.2 (JQ (dz f (Qt B)).1) W) (Z9 W (.tmp 8) (.const HBaj) (VR (fR x m)) ⟨#[10]⟩ (VG (fR x m)) (by have:=JQ (dz f (Qt B)).1;show(VR (fR x m)).data.size+1<=_;omega) (BY (fR x m))) (JB 87 ⟨KR,x4⟩ r (KF (lc x) (fR x) m) (VG (fR x m)) (Ay (L6 ((Av f).2.2.1 m ae) x4) (dz f (Qt B)).1) W)<|ai (λ(G:Unit)=>GL (QD m (k0 (Qt B) f.c64)) (qV (HBai r)) (qV (Ω Ar x.θ.length kr)) (qI (x.θ.length:Int)) (qI (((m+1):Nat):Int)) (qk R) (Yq (YY 87 r ((KF (lc x) (fR x) m)++ZJ (fR x m))) (YY 87 r (KF (lc x) (fR x) (m+1))) λ_ _ _ h=>(by rw[aK]at h;exact h))<|ai (show m+1<=x.θ.length from(Qt B)) (show x.θ.length-(m+1)<x.θ.length-m from hA (L0 B))) (λ(_:y9) (h:False)=>h)) λB=>Vv (qV (HBai r)) (qV (Ω Ac x.ι.length cc)) (qI (x.ι.length:Int)) (qI ((0:Nat):Int)) (qk R) (Yq (YY 87 r (KF (lc x) (fR x) m)) (YY 87 r (KF (BN x) (fC x) 0)) λ_ _ _ h=>(by rw[(show m=x.θ.length from hA (L1 B))]at h;rw[rQ];exact h))<|ai (show 0<=x.ι.length from L7 _) λ(d:Nat) (H:(d<=x.ι.length))=>Xi (decide ((d:Int)<(x.ι.length:Int))) (λp=>X0 (J4 cc HC d (Qt p)) (D7 HC d 0 (Qt p) x4 rfl rfl)<|Xi (((Qn x.ι d).split) != 0) (λM=>KJ func30 (λa w=>call30 a w) (Fx [Xo] (t:=VR [Xo]) rfl (show eX [Xo]from jK M▸Hy f (Qt p)).2.1 (show eX [Xo]from jK M▸Hy f (Qt p)).2.2 (JQ (show eX [Xo]from jK M▸Hy f (Qt p)).1) W) (Z9 W (.tmp 8) (.const HBaj) (VR [Xo]) ⟨#[10]⟩ (VG [Xo]) (by have:=JQ (show eX [Xo]from jK M▸Hy f (Qt p)).1;show(VR [Xo]).data.size+1<=_;omega) (BY [Xo])) (JB 87 ⟨KR,x4⟩ r (KF (BN x) (fC x) d) (VG [Xo]) (Ay (L6 ((Av f).2.2.2 d H) x4) (show eX [Xo]from jK M▸Hy f (Qt p)).1) W)<|ai (λ(G:Unit)=>GL (QD d (k0 (Qt p) f.c64)) (qV (HBai r)) (qV (Ω Ac x.ι.length cc)) (qI (x.ι.length:Int)) (qI (((d+1):Nat):Int)) (qk R) (Yq (YY 87 r ((KF (BN x) (fC x) d)++ZJ [Xo])) (YY 87 r (KF (BN x) (fC x) (d+1))) λ_ _ _ h=>(by rw[<- jK M,aK]at h;exact h))<|ai (show d+1<=x.ι.length from(Qt p)) (show x.ι.length-(d+1)<x.ι.length-d from hA (L0 p))) (λ(_:y9) (h:False)=>h)) λM=>Ja (show RetAt prog W 35 #[nA ((Qn x.ι d).ο)] (Ψ (Yc (Qn x.ι d).ο))from B3 (L6 (QbC f (Qt p)).2.1 x4) ⟨T7 x4 (QbC f (Qt p)).2.2.1,T7 (QbC f (Qt p)).2.2.2 x4⟩ W L F) (MV ((Qn x.ι d).sum.vars) (Uc d) (uc d) ((Qn x.ι d).sum.ts) (QfC f (Qt p) (show((Qn x.ι d).split==0)=true from l3 M)) W L F (Q d (Qt p))) (show ∀y:Hp,(Ω y.1 ((Bj (Qn x.ι d).sum.ts (Qn x.ι d).sum.ts.length)).length y.2:y9).oneCell'=true from λ_=>rfl)<|ai (show qg (HW (λ(y:Hp)=>Ω y.1 ((Bj (Qn x.ι d).sum.ts (Qn x.ι d).sum.ts.length)).length y.2) (λ(y:Hp)=>Qc 9 1 stC (Bj (Qn x.ι d).sum.ts (Qn x.ι d).sum.ts.length) y.1 y.2)) (λ(y:Hp)=>Ω y.1 ((Bj (Qn x.ι d).sum.ts (Qn x.ι d).sum.ts.length)).length y.2) (λ(y:Hp)=>Qc 9 1 stC (Bj (Qn x.ι d).sum.ts (Qn x.ι d).sum.ts.length) y.1 y.2)from Aw λy x x' S w hx h=>Ak hx h) λ(C:Hp)=>ai (show([Ψ ⟨#[108,101,97,102]⟩,Ψ (Yc (Qn x.ι d).ο)]:o3)=List.flatMap stC ([Zq,Yc (Qn x.ι d).ο])from rfl)<|ai (p0 ZF (show([Zq,Yc (Qn x.ι d).ο]).length<=maxLen from(L8 rfl))) λ(I:Hp)=>ai (Ef W 93 stC ([Zq,Yc (Qn x.ι d).ο]) (Bj (Qn x.ι d).sum.ts (Qn x.ι d).sum.ts.length) (fC x d) I.1 C.1 I.2 C.2 XO x4 ZF Gw sepB1 (Qfe M) (hA ((Hy f (Qt p)).2.2))) λ(D:Hp)=>KJ func30 (λa w=>call30 a w) (Mt (fC x d) (t:=VR (fC x d)) (A:=D.1) (c:=D.2) rfl (Hy f (Qt p)).2.1 (Hy f (Qt p)).2.2 (JQ (Hy f (Qt p)).1) W) (Z9 W (.tmp 8) (.const HBaj) (VR (fC x d)) ⟨#[10]⟩ (VG (fC x d)) (by have:=JQ (Hy f (Qt p)).1;show(VR (fC x d)).data.size+1<=_;omega) (BY (fC x d))) (JB 87 ⟨KR,x4⟩ r (KF (BN x) (fC x) d) (VG (fC x d)) (Ay (L6 ((Av f).2.2.2 d H) x4) (Hy f (Qt p)).1) W)<|ai (λ(G:Unit)=>GL (QD d (k0 (Qt p) f.c64)) (qV (HBai r)) (qV (Ω Ac x.ι.length cc)) (qI (x.ι.length:Int)) (qI (((d+1):Nat):Int)) (qk R) (Yq (YY 87 r ((KF (BN x) (fC x) d)++ZJ (fC x d))) (YY 87 r (KF (BN x) (fC x) (d+1))) λ_ _ _ h=>(by rw[aK]at h;exact h))<|ai (show d+1<=x.ι.length from(Qt p)) (show x.ι.length-(d+1)<x.ι.length-d from hA (L0 p))) (λ(_:y9) (h:False)=>h)) λp=>Xi (x.δ==6) (λE=>ai (FO 87 r (KF (BN x) (fC x) d) (Qez x d) W)<|ai (λ(G:Unit)=>(show(Ψ ⟨((KF (BN x) (fC x) d)).toArray⟩:y9)=Ψ ⟨(VP x).toArray⟩from Lu (λl:List UInt8=>Ψ ⟨l.toArray⟩) (by rw[(show d=x.ι.length from hA (L1 p)),Qc3 f E];rfl))) (λ(_:y9) (h:False)=>h)) λE=>Vv (show RetAt prog W 35 #[nA x.ν] (Ψ (Yc x.ν))from B3 (L6 (zL f).2.1 x4) ⟨T7 x4 (zL f).2.2.1,T7 (zL f).2.2.2 x4⟩ W L F) func30 (λa w=>call30 a w) (Fx [Zh,(Yc x.ν)] (t:=VR [Zh,(Yc x.ν)]) rfl (Gm f E).1.2.1 (Gm f E).1.2.2 (JQ (Gm f E).1.1) W) (Z9 W (.tmp 8) (.const HBaj) (VR [Zh,(Yc x.ν)]) ⟨#[10]⟩ (VG [Zh,(Yc x.ν)]) (by have:=JQ (Gm f E).1.1;show(VR [Zh,(Yc x.ν)]).data.size+1<=_;omega) (BY [Zh,(Yc x.ν)])) (JB 87 ⟨KR,x4⟩ r (KF (BN x) (fC x) d) (VG [Zh,(Yc x.ν)]) (Ay (L6 ((Av f).2.2.2 d H) x4) (Gm f E).1.1) W)<|ai (λ(G:Unit)=>Xi (x.δ==4) (λN=>Vv (show RetAt prog W 35 #[nA x.ε] (Ψ (Yc x.ε))from B3 (L6 (zz f).2.1 x4) ⟨T7 x4 (zz f).2.2.1,T7 (zz f).2.2.2 x4⟩ W L F) func30 (λa w=>call30 a w) (Fx [Xh,(Yc x.ε)] (t:=VR [Xh,(Yc x.ε)]) rfl ((Gm f E).2.2 N).2.1 ((Gm f E).2.2 N).2.2 (JQ ((Gm f E).2.2 N).1) W) (Z9 W (.tmp 8) (.const HBaj) (VR [Xh,(Yc x.ε)]) ⟨#[10]⟩ (VG [Xh,(Yc x.ε)]) (by have:=JQ ((Gm f E).2.2 N).1;show(VR [Xh,(Yc x.ε)]).data.size+1<=_;omega) (BY [Xh,(Yc x.ε)])) (JB 87 ⟨KR,x4⟩ r ((KF (BN x) (fC x) d)++ZJ [Zh,(Yc x.ν)]) (VG [Xh,(Yc x.ε)]) (Ay (by rw[La];have:=(Gm f E).1.1;have h9:((KF (BN x) (fC x) d):List UInt8).length<=7500000:=(L6 ((Av f).2.2.2 d H) x4);omega) ((Gm f E).2.2 N).1) W)<|ai (λ(U:Unit)=>Vv (show RetAt prog W 32 #[Θ x.ζ] (Ψ (Qz x.ζ))from⟨λa w=>call32 a w,λW' K=>DI _ W' (hA f.b) (F.later K)⟩) func30 (λa w=>call30 a w) (Fx [Qy,(Qz x.ζ)] (t:=VR [Qy,(Qz x.ζ)]) rfl (Gm f E).2.1.2.1 (Gm f E).2.1.2.2 (JQ (Gm f E).2.1.1) W) (Z9 W (.tmp 8) (.const HBaj) (VR [Qy,(Qz x.ζ)]) ⟨#[10]⟩ (VG [Qy,(Qz x.ζ)]) (by have:=JQ (Gm f E).2.1.1;show(VR [Qy,(Qz x.ζ)]).data.size+1<=_;omega) (BY [Qy,(Qz x.ζ)])) (JB 87 ⟨KR,x4⟩ r (((KF (BN x) (fC x) d)++ZJ [Zh,(Yc x.ν)])++ZJ [Xh,(Yc x.ε)]) (VG [Qy,(Qz x.ζ)]) (Ay (by rw[La];have:=((Gm f E).2.2 N).1;have h9:(((KF (BN x) (fC x) d)++ZJ [Zh,(Yc x.ν)]):List UInt8).length<=7500000:=(by rw[La];have:=(Gm f E).1.1;have h9:((KF (BN x) (fC x) d):List UInt8).length<=7300000:=(L6 ((Av f).2.2.2 d H) x4);omega);omega) (Gm f E).2.1.1) W)<|ai (λ(X:Unit)=>ai (FO 87 r ((((KF (BN x) (fC x) d)++ZJ [Zh,(Yc x.ν)])++ZJ [Xh,(Yc x.ε)])++ZJ [Qy,(Qz x.ζ)]) (du _ _) W)<|ai (λ(u6:Unit)=>(show(Ψ ⟨(((((KF (BN x) (fC x) d)++ZJ [Zh,(Yc x.ν)])++ZJ [Xh,(Yc x.ε)])++ZJ [Qy,(Qz x.ζ)])).toArray⟩:y9)=Ψ ⟨(VP x).toArray⟩from Lu (λl:List UInt8=>Ψ ⟨l.toArray⟩) (by rw[(show d=x.ι.length from hA (L1 p)),Qc2 E N];rfl))) (λ(_:y9) (h:False)=>h)) (λ(_:y9) (h:False)=>h)) (λ(_:y9) (h:False)=>h)) λN=>Vv (show RetAt prog W 32 #[Θ x.ζ] (Ψ (Qz x.ζ))from⟨λa w=>call32 a w,λW' K=>DI _ W' (hA f.b) (F.later K)⟩) func30 (λa w=>call30 a w) (Fx [Qy,(Qz x.ζ)] (t:=VR [Qy,(Qz x.ζ)]) rfl (Gm f E).2.1.2.1 (Gm f E).2.1.2.2 (JQ (Gm f E).2.1.1) W) (Z9 W (.tmp 8) (.const HBaj) (VR [Qy,(Qz x.ζ)]) ⟨#[10]⟩ (VG [Qy,(Qz x.ζ)]) (by have:=JQ (Gm f E).2.1.1;show(VR [Qy,(Qz x.ζ)]).data.size+1<=_;omega) (BY [Qy,(Qz x.ζ)])) (JB 87 ⟨KR,x4⟩ r ((KF (BN x) (fC x) d)++ZJ [Zh,(Yc x.ν)]) (VG [Qy,(Qz x.ζ)]) (Ay (by rw[La];have:=(Gm f E).1.1;have h9:((KF (BN x) (fC x) d):List UInt8).length<=7500000:=(L6 ((Av f).2.2.2 d H) x4);omega) (Gm f E).2.1.1) W)<|ai (λ(U:Unit)=>ai (FO 87 r (((KF (BN x) (fC x) d)++ZJ [Zh,(Yc x.ν)])++ZJ [Qy,(Qz x.ζ)]) (du _ _) W)<|ai (λ(X:Unit)=>(show(Ψ ⟨((((KF (BN x) (fC x) d)++ZJ [Zh,(Yc x.ν)])++ZJ [Qy,(Qz x.ζ)])).toArray⟩:y9)=Ψ ⟨(VP x).toArray⟩from Lu (λl:List UInt8=>Ψ ⟨l.toArray⟩) (by rw[(show d=x.ι.length from hA (L1 p)),Qc4 E N];rfl))) (λ(_:y9) (h:False)=>h)) (λ(_:y9) (h:False)=>h)) (λ(_:y9) (h:False)=>h)) (λ(_:y9) (h:False)=>h)) (λ(_:y9) (h:False)=>h)
def QaQ{l:List Nm}{A:m3}{c:Nat}(h:SlV lo 3 VT w l (.slice A l.length c)):RdK w A l.length 3 (λj=>Xk (Xm l j)):=by
 let⟨b,d,e,_,_,a⟩:=SlV.enc nm0 h;obtain⟨rfl,_,rfl⟩:=Ng e;exact a
def QbV{x:PV}{g i k l:y9}(h0:chkN x=0)(w:m0)(m:QV w)(e:Tab10 w)(h:Five 0 w x f g i k l):RetAt prog w 14 #[sF x f g i k l] (.string ⟨(VP x).toArray⟩):=by
 let⟨v,V,n⟩:=Pu h0;obtain⟨Ab,As,Ap,Ar,Ac,cb,cs,kp,kr,cc,o,Up,p,t,u,up,y,z,rfl,rfl,rfl,rfl,rfl,a⟩:=Fo h;exact wb n w m e a.b a.s (λj d=>QaQ (a.sp j d)) a.q (λj d=>O8 (a.qs j d)) a.r (λj d=>O8 (a.rs j d)) a.c (λj d=>O8 (a.cn j d))
def xl(x:PV):m1:=⟨(VP x).toArray⟩
def rR(x:PV):(xl x).size=(VP x).length:=Rs
def Vu(x:PV){e g h i:y9}(j:okX x)(w:m0)(b:QV w)(a:Tab10 w)(c:Five 0 w x e f g h i):RetAt prog w 7 #[yA x e f g h i] (.tuple #[Ψ (prnP x).1,Θ (prnP x).2]) :=
 rk [x04 1 1 (iV (chkN x)),.both [] [x04 4 1 (sV (xl x)),.both [] []]] λW d k=>have c:=c.below d;have b:=Ql b d;have a:=a.later d;ai (Ea x j W b c)<|Xi ((chkN x) != 0) (λh1=>(show(.tuple #[x00,Θ (chkN x)]:y9)=.tuple #[Ψ (prnP x).1,Θ (prnP x).2]from by unfold prnP;simp only[h1,cond_true,cond_false];try rfl)) λh1=>ai (QbV (show chkN x=0 from l3 h1) W b a c)<|Xi (decide (((xl x).size:Int)>65536)) (λh2=>(show(.tuple #[x00,Θ 3]:y9)=.tuple #[Ψ (prnP x).1,Θ (prnP x).2]from by unfold prnP;simp only[h1,show decide (((VP x).length:Int)>65536)=true from rR x▸h2,cond_true,cond_false];try rfl)) λh2=>(show(.tuple #[Ψ (xl x),Θ 0]:y9)=.tuple #[Ψ (prnP x).1,Θ (prnP x).2]from by unfold prnP;simp only[h1,show decide (((VP x).length:Int)>65536)=false from rR x▸h2,cond_true,cond_false];try rfl)
def zrV(y:Nat->Hp)(k e:Int):y9:=.tuple #[.agg #[.int .i64 0,.int .i64 0,.slice (y 0).1 0 (y 0).2,.slice (y 1).1 0 (y 1).2,.slice (y 2).1 0 (y 2).2,.slice (y 3).1 0 (y 3).2,.bool false,.string ⟨#[]⟩,.int .i64 0,.bool false,.string ⟨#[]⟩,.int .i64 0,.int .i64 0,.slice (y 4).1 0 (y 4).2],.int .i64 k,.int .i64 e]
def SA{p:Rdg α}{v:y9}{n:Nat}{l:List α}(h:SlV 0 k p w l v)(a:l.length=n):∃q:Hp,v=.slice q.1 n q.2:=by
 subst a;obtain⟨A,c,rfl,_⟩:=h;simp
def gT{t:m1}{k e:Int}(h:outP t.data.toList=(pv0,k,e))(g:t.size<=3999)(w:m0)(j:QV w):NewIn prog w [] 8 #[.string t] (λy:Nat->Hp=>zrV y k e) (λ_=>anyR):=by
 let⟨l,m⟩:=RK h (PM g) x3 w j;refine⟨l,λW n=>(show Calls _ _ _ _ _ from m W n).mono λe C o=>?_⟩;obtain⟨y,x,S,rfl,h1,h2,h3⟩:=o;have a:=y.f _ _ _ h1;let⟨d,e0⟩:=SA a.b rfl;let⟨q1,e1⟩:=SA a.s rfl;let⟨q,u⟩:=SA a.p rfl;let⟨v,z⟩:=SA a.r rfl;let⟨A,B⟩:=SA a.c rfl;dsimp only;rw[e0,e1,u,z,B];exact⟨λi=>[d,q1,q,v,A].getD i d,x,S,rfl,y.R.one _ _ _ h1,h2,h3⟩
def uC{x:y9}{b:Nat}(h:R.φ x S w)(c:∀w,R.φ x S w->∃o,w.cell? ⟨b,o,none⟩≠none):S b:=Classical.byContradiction λd=>by
 let a:m0:={ w with heap:=w.heap.modify b λ_=>.cells #[] 0 (0,0) }
 let⟨o,f⟩:=c a (R.loc x S w a (λk hk=>by
  show(w.heap.modify b _)[k]?=_;rw[Array.getElem?_modify,if_neg λ(e:b=k)=>d (e▸hk)]) h)
 refine f ?_
 show World.cell? a _=none;unfold World.cell?;show(match (w.heap.modify b λ_=>.cells #[] 0 (0,0))[b]? with|_=>_)=none;rw[Array.getElem?_modify,if_pos rfl];cases w.heap[b]?<;>simp
theorem qC{p:Rdg α}{l:List α}{b o n c:Nat}(h:SlV 0 k p w l (.slice (some ⟨b,o,none⟩) n c))(hk:0<k)(hl:0<l.length):w.cell? ⟨b,o+0*k+0,none⟩≠none:=λa=>by
 let⟨d,f,e,_,_,g⟩:=h
 grind
def NE:PV:=⟨1,1,[(⟨false,⟨#[]⟩,0⟩,⟨false,⟨#[1]⟩,0⟩)],[],[⟨1,[⟨⟨#[1]⟩,⟨true,⟨#[1]⟩,0⟩⟩,⟨⟨#[2]⟩,⟨false,⟨#[1]⟩,0⟩⟩]⟩],[],⟨false,⟨#[1]⟩,-2⟩,nm0,9,[]⟩
def awT:m1:=⟨#[114,97,110,103,101,32,49,10,98,111,120,32,48,32,49,10,112,111,108,121,32,45,49,32,49,32,49,32,50,10,101,112,115,32,49,112,45,50,10,98,117,100,103,101,116,32,57,10]⟩
def px{c d e:y9}(g:okX NE)(w:m0)(h:Five 0 w NE b c d e f)(i:QV w)(a:Tab10 w):RetAt prog w 7 #[sF NE b c d e f] (.tuple #[.string awT,.int .i64 0]):=by
 have k:=Vu _ g w i a h;rwa [show prnP NE=(awT,0)from x5]at k
structure AwY where
 s:Nat->Hp
 R:Res
 x:okX NE
 h:∀x S w,R.φ x S w->(RdK w (s 2).1 1 2 λ_=>[.int .i64 1,.slice (s 5).1 2 (s 5).2])/\Five 0 w NE (.slice (s 0).1 1 (s 0).2) (.slice (s 1).1 0 (s 1).2) (.slice (s 2).1 1 (s 2).2) (.slice (s 3).1 0 (s 3).2) (.slice (s 4).1 0 (s 4).2)
def aw1:m1:=⟨#[114,97,110,103,101,32,49,10,98,111,120,32,48,32,49,10,112,111,108,121,32,49,32,50,32,45,49,32,49,10,101,112,115,32,49,47,52,10,98,117,100,103,101,116,32,57]⟩
def aw2:m1:=⟨#[114,97,110,103,101,32,49,10,98,111,120,32,49,32,48,10,112,111,108,121,32,49,32,49,10,101,112,115,32,49,10,98,117,100,103,101,116,32,57]⟩
theorem QbO{b o a c:Nat}(e:(some ⟨b,o,none⟩:m3)=some ⟨a,c,none⟩):b=a:=by
 grind
def QcE{g k l m n x:y9}(v:okX NE)(f:∀x S w,R.φ x S w->Five 0 w NE g k l m n)(h1:R.φ x S w):∃y:AwY,sF NE g k l m n=.agg #[.int .i64 1,.int .i64 1,.slice (y.s 0).1 1 (y.s 0).2,.slice (y.s 1).1 0 (y.s 1).2,.slice (y.s 2).1 1 (y.s 2).2,.slice (y.s 3).1 0 (y.s 3).2,.bool false,.string ⟨#[1]⟩,.int .i64 (-2),.bool false,.string ⟨#[]⟩,.int .i64 0,.int .i64 9,.slice (y.s 4).1 0 (y.s 4).2]/\y.R.φ x S w:=by
 have d:=f _ _ _ h1;let⟨q,e0⟩:=SA d.b rfl;let⟨q1,e1⟩:=SA d.s rfl;let⟨Ap,kp,Up,up,z,_,_,t,A⟩:=SlV.rdPy2 d.p;let⟨B,C⟩:=SA d.r rfl;let⟨D,E⟩:=SA d.c rfl;rw[e0,e1,z,C,E]at f ⊢;obtain⟨b,o,rfl,K⟩:=t (Sh 0);have F:∀x S w,R.φ x S w->S b:=λx S w G=>uC G λL h2=>⟨_,qC (f _ _ _ h2).p x4 (Sh 0)⟩
 let H:Res:=⟨λx S w=>R.φ x S w/\(RdK w (some ⟨b,o,none⟩) 1 2 λ_=>[.int .i64 1,.slice (Up 0) 2 (up 0)]),λx S w h=>R.one x S w h.1,λx S w I u a=>⟨R.loc x S w I u a.1,Iw a.2 λ_ M N e=>QbO e▸u b (F _ _ _ a.1)⟩⟩
 exact⟨⟨λi=>[q,q1,(some ⟨b,o,none⟩,kp),B,D,(Up 0,up 0)].getD i q,H,v,λx S w a=>⟨a.2,f x S w a.1⟩⟩,rfl,h1,t.congr λj J=>by obtain rfl:j=0:=Nat.lt_one_iff.1 J;rfl⟩
theorem vt(w:m0)(a:QV w):NewIn prog w [] 8 #[.string aw1] (λy:AwY=>.tuple #[.agg #[.int .i64 1,.int .i64 1,.slice (y.s 0).1 1 (y.s 0).2,.slice (y.s 1).1 0 (y.s 1).2,.slice (y.s 2).1 1 (y.s 2).2,.slice (y.s 3).1 0 (y.s 3).2,.bool false,.string ⟨#[1]⟩,.int .i64 (-2),.bool false,.string ⟨#[]⟩,.int .i64 0,.int .i64 9,.slice (y.s 4).1 0 (y.s 4).2],.int .i64 0,.int .i64 0]) (λy=>y.R):=by
 let⟨b,c⟩:=RK (t0:=aw1) (o:=(NE,0,0)) x5 (PM (L8 rfl)) (L8 rfl) w a;refine⟨b,λW d=>(show Calls _ _ _ _ _ from c W d).mono λe h g=>?_⟩;obtain⟨y,x,S,rfl,h1,h2,h3⟩:=g;let⟨i,e,j⟩:=QcE y.x y.f h1
 grind
def WJ(W:m0)(p q:x0h):Qp prog W (do eqGuard .eql 32 p q (rN false ⟨#[]⟩ 0) (rN false ⟨#[]⟩ 0);binOp .eql 32 (rN false ⟨#[]⟩ 0) (rN false ⟨#[]⟩ 0)) (.bool true):=by
 have h:=RB W p q nm0 nm0;rwa [show CC nm0 nm0=true from x5]at h
def QbB(A1 A2 A3 A4 A5:m3)(c1 c2 c3 c4 c5:Nat)(w:m0):RetAt prog w 29 #[.agg #[Θ 0,Θ 0,Ω A1 0 c1,Ω A2 0 c2,Ω A3 0 c3,Ω A4 0 c4,Ξ false,x00,Θ 0,Ξ false,x00,Θ 0,Θ 0,Ω A5 0 c5],.agg #[Θ 0,Θ 0,x01,x01,x01,x01,Ξ false,x00,Θ 0,Ξ false,x00,Θ 0,Θ 0,x01]] (Ξ true) :=
 rk [x03 1 17 (Ξ true),x03 1 24 (Ξ true),.inl 1 40 f60,x05 1 1 (iV 0),x05 1 3 (iV 0),.unr 1,x05 4 2 (iV 0),.inl 1 49 f61,x05 1 1 (iV 0),x05 1 3 (iV 0),.unr 1,x05 4 2 (iV 0),.inl 1 56 f62,x05 1 1 (iV 0),x05 1 3 (iV 0),.unr 1,x05 4 2 (iV 0),.inl 1 63 f62,x05 1 1 (iV 0),x05 1 3 (iV 0),.unr 1,x05 4 2 (iV 0),.inl 1 70 f63,x05 1 1 (iV 0),x05 1 3 (iV 0),.unr 1,x05 4 2 (iV 0)] λW b c=>Yx (WJ W (.tmp 19) (.tmp 21)) (WJ W (.tmp 26) (.tmp 28)) func60 (λa w=>call60 a w) (show(((0:Nat):Int):Int)=0 from rfl) (show(((0:Nat):Int):Int)=0 from rfl) (show(((0:Nat):Int):Int)=0 from rfl) func61<|Yx (λa w=>call61 a w) (show(((0:Nat):Int):Int)=0 from rfl) (show(((0:Nat):Int):Int)=0 from rfl) (show(((0:Nat):Int):Int)=0 from rfl) func62 (λa w=>call62 a w) (show(((0:Nat):Int):Int)=0 from rfl) (show(((0:Nat):Int):Int)=0 from rfl)<|Yx (show(((0:Nat):Int):Int)=0 from rfl) func62 (λa w=>call62 a w) (show(((0:Nat):Int):Int)=0 from rfl) (show(((0:Nat):Int):Int)=0 from rfl) (show(((0:Nat):Int):Int)=0 from rfl) func63 (λa w=>call63 a w)<|Ja (show(((0:Nat):Int):Int)=0 from rfl) (show(((0:Nat):Int):Int)=0 from rfl) (show(((0:Nat):Int):Int)=0 from rfl)<|(eB true true rfl)
def EW{t:m1}{k:Int}(h:outP t.data.toList=(pv0,k,2))(b:t.size<=3999)(w:m0)(c:QV w):RetAt prog w 13 #[Ψ t,Θ k] (Ξ true) :=
 rk [x09 1 1 [] (λ(a:Nat->Hp)=>(.tuple #[.agg #[Θ 0,Θ 0,Ω (a 0).1 0 (a 0).2,Ω (a 1).1 0 (a 1).2,Ω (a 2).1 0 (a 2).2,Ω (a 3).1 0 (a 3).2,Ξ false,x00,Θ 0,Ξ false,x00,Θ 0,Θ 0,Ω (a 4).1 0 (a 4).2],Θ k,Θ 2],anyR,[x05 2 5 (bV true),x04 2 10 (bV true)]))] λW d e=>ai (gT h b W (Ql c d)) λ(a:Nat->Hp)=>X0 (show(k==k)=true from beq_self_eq_true k) (QbB ((a 0).1) ((a 1).1) ((a 2).1) ((a 3).1) ((a 4).1) ((a 0).2) ((a 1).2) ((a 2).2) ((a 3).2) ((a 4).2) W)<|(eB true true rfl)
theorem EY(W:m0)(p q:x0h)(a:m1):Qp prog W (do eqGuard .eql 9 p q (.string a) (.string a);binOp .eql 9 (.string a) (.string a)) (.bool true):=by
 have h:=IC W p q a a
 grind
def xT(y:AwY)(w0:m0){m:Sem y9}{R:y9}(h:∀W,(RdK W (y.s 2).1 1 2 λ_=>[.int .i64 1,.slice (y.s 5).1 2 (y.s 5).2])->Qp prog W m R):GJ prog w0 [y.R] m R:=λW _ x S a=>h W (y.h x S W a).1 W (p5 _ _)
def sp0:m1:=⟨#[114,97,110,103,101,32,49,10,98,111,120,32,48]⟩
def Qed(w:m0)(a:QV w):RetAt prog w 13 #[.string sp0,.int .i64 13] (.bool true):=EW x5 (L8 rfl) w a
def sp1:m1:=⟨#[114,97,110,103,101,32,49,10,98,111,120,32,48,32,49,32,50]⟩
def Qee(w:m0)(a:QV w):RetAt prog w 13 #[.string sp1,.int .i64 16] (.bool true):=EW x5 (L8 rfl) w a
def sp2:m1:=⟨#[]⟩
def Qef(w:m0)(a:QV w):RetAt prog w 13 #[.string sp2,.int .i64 0] (.bool true):=EW x5 (L8 rfl) w a
def sp3:m1:=⟨#[114,97,110,103,32,49]⟩
def Qeg(w:m0)(a:QV w):RetAt prog w 13 #[.string sp3,.int .i64 0] (.bool true):=EW x5 (L8 rfl) w a
def vo(w:m0)(a:QV w):NewIn prog w [] 8 #[.string aw2] (λy:Nat->Hp=>zrV y 0 5) (λ_=>anyR):=gT x5 (L8 rfl) w a
def Kh  (w:m0) (e:QV w) (f:Tab10 w):RetAt prog w 6 #[] (Ξ true) :=
 rk [x09 1 0 [] (λ(b:AwY)=>(.tuple #[.agg #[Θ 1,Θ 1,Ω (b.s 0).1 1 (b.s 0).2,Ω (b.s 1).1 0 (b.s 1).2,Ω (b.s 2).1 1 (b.s 2).2,Ω (b.s 3).1 0 (b.s 3).2,Ξ false,Ψ ⟨#[1]⟩,Θ (-2),Ξ false,x00,Θ 0,Θ 9,Ω (b.s 4).1 0 (b.s 4).2],Θ 0,Θ 0],b.R,[.o 2 1 (.retr [0] (.tuple #[Ψ ⟨#[114,97,110,103,101,32,49,10,98,111,120,32,48,32,49,10,112,111,108,121,32,45,49,32,49,32,49,32,50,10,101,112,115,32,49,112,45,50,10,98,117,100,103,101,116,32,57,10]⟩,Θ 0])),x09 3 0 [] (λ(d:Nat->Hp)=>(.tuple #[.agg #[Θ 0,Θ 0,Ω (d 0).1 0 (d 0).2,Ω (d 1).1 0 (d 1).2,Ω (d 2).1 0 (d 2).2,Ω (d 3).1 0 (d 3).2,Ξ false,x00,Θ 0,Ξ false,x00,Θ 0,Θ 0,Ω (d 4).1 0 (d 4).2],Θ 0,Θ 5],anyR,[x05 4 14 (iV 1),x06 4 20 [0] (.pointer (some (Q5 (b.s 2).1 (0*2+0)))),x03 4 21 (.pointer (some (Q5 (b.s 2).1 (0*2+(0+1))))),x06 4 22 [0] (Ω (b.s 5).1 2 (b.s 5).2),x05 4 23 (iV 2),x03 4 32 (Ξ true),x04 4 35 (bV true),x04 4 38 (bV true),x04 4 45 (bV true),x04 4 48 (bV true)]))]))] λW m n=>have e:=Ql e m;have f:=f.later m;ai (vt W e) λ(b:AwY)=>ai (p0 (λa w=>call7 a w) (λ(g:m0) (j:Below W.heap.size W g) (x:y9) (S:Nat->Prop) (h:b.R.φ x S g)=>(px b.x g (b.h _ _ _ h).2 (Ql e j) (f.later j)).at))<|ai (vo W e) λ(d:Nat->Hp)=>Yx (show(((1:Nat):Int):Int)=1 from rfl) (xT b W (λg l=>J5 ((b.s 2).2) l 0 x4 (w0:=g))) (AM (w0:=W) (A:=(b.s 2).1) (i:=0) (k:=2) (o:=0)) (xT b W (λg l=>Ev g l 0 (0+1) x4 x4 rfl)) (show(((2:Nat):Int):Int)=2 from rfl) (EY W (.tmp 55) (.const (Ψ ⟨#[114,97,110,103,101,32,49,10,98,111,120,32,48,32,49,10,112,111,108,121,32,45,49,32,49,32,49,32,50,10,101,112,115,32,49,112,45,50,10,98,117,100,103,101,116,32,57,10]⟩)) ⟨#[114,97,110,103,101,32,49,10,98,111,120,32,48,32,49,10,112,111,108,121,32,45,49,32,49,32,49,32,50,10,101,112,115,32,49,112,45,50,10,98,117,100,103,101,116,32,57,10]⟩) (Qed W e) (Qee W e)<|X0 (Qef W e) (Qeg W e)<|(eB true true rfl)
structure smallX (x:PV):Prop where
 box:x.box.length<=1048576
 κ:x.κ.length<=1048576
 ps:x.ps.length<=1048576
 θ:x.θ.length<=1048576
 ι:x.ι.length<=1048576
 pt:∀p,p∈x.κ->p.length<=1048576
 p:∀p,p∈x.ps->p.ts.length<=1048576
 rule:∀p,p∈x.θ->p.ts.length<=1048576
 node:∀p,p∈x.ι->p.sum.ts.length<=1048576
 mono:∀p,p∈KK x->∀t,t∈p.ts->t.m.size<=1048576
 hv:-9223372036854775808<=x.vars/\x.vars<=9223372036854775807
def rH(a:List Py)(k:Nat):Nat:=((a.take k).map (λp:Py=>p.ts.length)).sum
def sM(x:PV):List Nm:=Qk x.ν x.ε x.box x.κ x.ι++(KK x).flatMap λp=>p.ts.map (λt:Tm=>t.c)
def CH(x:PV):Bool :=
 bif decide ((x.box.length:Int)>6)then true else bif decide ((x.κ.length:Int)>6)then true else bif decide (((x.ps.length+x.θ.length:Nat):Int)>20)then true else bif decide ((x.ι.length:Int)>100)then true else
 bif XQ (KK x).length (λi=>decide (((rH (KK x) (i+1):Nat):Int)>300))then true else bif XQ (sM x).length (λi=>KD (List.getD (sM x) i nm0))then true else XQ x.κ.length (λj=>decide ((((Qu x.κ j).length:Nat):Int)>6))
theorem rI(a:List Kn)(k:Nat):YT a k=rH (a.map λx:Kn=>x.1) k:=by
 unfold YT rH;rw[<- List.map_take,List.map_map];rfl
section
variable{lo:Nat}{x:PV}{Ab As Ap Ar Ac:m3}{cb cs kp kr cc:Nat}
theorem sb(d:smallX x)(w:m0)(o:Five lo w x (.slice Ab x.box.length cb) (.slice As x.κ.length cs) (.slice Ap x.ps.length kp) (.slice Ar x.θ.length kr) (.slice Ac x.ι.length cc)):RetAt prog w 5 #[xA x Ab cb As cs Ap kp Ar kr Ac cc] (.bool (CH x)):=by
 let⟨F,G,H,I,J,K,L,M,N,O,q,Up,f,h,r,up,g,i,q1,u,v,z,A,j⟩:=Fo o;obtain⟨rfl,_,rfl⟩:=Ng q1;obtain⟨rfl,_,rfl⟩:=Ng u;obtain⟨rfl,_,rfl⟩:=Ng v;obtain⟨rfl,_,rfl⟩:=Ng z;obtain⟨rfl,_,rfl⟩:=Ng A;have a:=TG (x:=x) (Up:=Up) (Ur:=f) (Uc:=h) (up:=up) (ur:=g) (uc:=i);have l:(C4 (BJ x.ps Up up) (BJ x.θ f g) x.ι h i).length=(KK x).length:=by rw[<- a,Rg]
 have k:∀y,y∈C4 (BJ x.ps Up up) (BJ x.θ f g) x.ι h i->y.1.ts.length<=1048576:=λy B=>by
  have e:y.1∈KK x:=by rw[<- a];exact Lv.2 ⟨y,B,rfl⟩
  unfold KK at e;simp only[Lo,Lv]at e;rcases e with(e|e)|⟨n,e,C⟩
  ·exact d.p _ e
  ·exact d.rule _ e
  ·rw[<- C];exact d.node _ e
 have m:=Qb9 lo Ap Ar cb cs cc kp kr q h r i x.ν x.ε x.box x.κ x.ι x.δ x.vars x.ζ (BJ x.ps Up up) (BJ x.θ f g) rfl rfl ⟨d.box,d.κ,d.pt,d.ι⟩ (by rw[JM];exact d.ps) (by rw[JM];exact d.θ) k w j.b j.s j.sp j.c j.q1 j.r1 j.X;have D:(C4 (BJ x.ps Up up) (BJ x.θ f g) x.ι h i).flatMap (λp=>p.1.ts.map (λt:Tm=>t.c))=(KK x).flatMap λp=>p.ts.map (λt:Tm=>t.c):=by rw[<- a,List.flatMap_map]
 have E:Dm x.box.length x.κ.length (BJ x.ps Up up).length (BJ x.θ f g).length x.ι.length (C4 (BJ x.ps Up up) (BJ x.θ f g) x.ι h i) (Qk x.ν x.ε x.box x.κ x.ι++(C4 (BJ x.ps Up up) (BJ x.θ f g) x.ι h i).flatMap λp=>p.1.ts.map (λt:Tm=>t.c)) x.κ=CH x:=by
  grind[Dm,CH,sM,rI,JM]
 rw[E,JM,JM]at m;exact m
end
theorem mU{x:Nm}(h:KD x=false):okN x:=by
 unfold KD at h;simp only[Rf,decide_eq_false_iff_not]at h;exact⟨x3,x3,x3⟩
theorem jd{n:Nat}{f:Nat->Bool}(h:XQ n f=false){j:Nat}(a:j<n):f j=false:=by
 cases e:f j with
 |false=>rfl
 |true=>rw[anyB_iff.2 ⟨j,a,e⟩]at h;cases h
theorem xv{x:PV}(h:CH x=false):∀a,a∈sM x->okN a:=by
 grind[CH,Th,jd,mU]
def RE{x:PV}(b:smallX x)(h:CH x=false):okX x:=by
 have d:=xv h;have c:∀p,p∈KK x->p.ts.length<=1048576->okP p:=λp c hl=>⟨L6 hl x4,λt e=>⟨b.mono p c t e,d _ (List.mem_append_right _ (Sa.2 ⟨p,c,Lv.2 ⟨t,e,rfl⟩⟩))⟩⟩
 exact⟨⟨⟨b.box,b.κ,b.pt,b.ι⟩,b.hv,b.ps,b.θ,λp h=>c p (List.mem_append_left _ (List.mem_append_left _ h)) (b.p p h),λp h=>c p (List.mem_append_left _ (List.mem_append_right _ h)) (b.rule p h),λp h=>c p.sum (List.mem_append_right _ (Lv.2 ⟨p,h,rfl⟩)) (b.node p h),λa f=>d a (List.mem_append_left _ f)⟩⟩
def iv{x:PV}(h:okX x):shortP x :=
 have c:(1048576:Nat)<=4294967296:=x4;have a:∀p,okP p->p.ts.length<=4294967296:=λp h=>h.len
 ⟨L6 h.o.l0.hb c,L6 h.o.l0.hs c,L6 h.o.np c,L6 h.o.nr c,L6 h.o.l0.hc c,λp k=>L6 (h.o.l0.hp p k) c,λp k=>a p (h.o.okp p k),λp k=>a p (h.o.okr p k),λn k=>a _ (h.o.okc n k)⟩
def Dq(x:PV)(e:y=x)(h:okX x){W:m0}{a c d e1 b2 g i j:y9}(h1:Five 0 W x a b c d e1)(h2:Five 0 W y f b2 g i j):o4 prog 9 #[sF x a b c d e1,sF y f b2 g i j] W (.bool true):=by
 have k:=(ql x y (iv h) W h1 h2).at
 rw[sameB_iff.2 e.symm]at k;exact k
def Iv(x:PV)(h:(prnP x).2=0)(w:m0)(a:QV w):NewIn prog w [] 8 #[.string (prnP x).1] (λy:PrC x=>.tuple #[sF x (Ye y.vb) (Ye y.vs) (Ye y.vp) (Ye y.vr) (Ye y.vc),.int .i64 0,.int .i64 0]) (λy=>y.R):=by
 let⟨h1,h2,h3⟩:=yw h;let⟨v,V,b⟩:=Pu h1;exact RK (o:=(x,0,0)) (RI h) (by rw[h3];show okF (J2 (VP x).toArray.toList);rw[List.toList_toArray];exact xn b) (by rw[h3];show(VP x).toArray.size<=_;rw[Rs];exact h2) w a
noncomputable def oS(s:m1):PV×Int×Int:=outP s.data.toList
noncomputable def zS(s:m1):PV:=(oS s).1
theorem Qbg{x:PV}(h1:((prnP x).2==0)=true)(h2:((prnP y).2==0)=true):(decide ((prnP x).1=(prnP y).1) != ZS x y)=false:=by
 grind[qi,vU]
section
variable{s:m1}(h3:decide ((s.size:Int)>3000)=false)
theorem eU(a:((oS s).2.2 != 0)=true):zS s=pv0/\(0<=(oS s).2.1/\(oS s).2.1<=s.size)/\((oS s).2.1=0\/(oS s).2.2=2):=Qa3 (bne_iff_ne.1 a)
include h3
theorem H7(a:((oS s).2.2 != 0)=false):chkN (zS s)=0/\(prnP (zS s)).2=0:=vn (bne_eq_false_iff_eq.1 a) (show s.size<=3000 by have:=L1 h3;omega)
end
theorem VY{x y:Int}(h:(x==y)=false):x≠y:=by grind
noncomputable abbrev HBak(s:ByteArray):=λ(b:TE s.data.toList)=>([.both [.o 13 1 (.eq (bV true)),.o 13 6 (.eq (bV true)),.gb 13 12 [.o 13 13 (.eq (bV true)),.o 13 19 (.retr [1] (.bool true)),.o 13 22 (.ret (bV true))] [.o 13 19 (.retr [1] (.bool true)),.o 13 22 (.ret (bV true))]] [.o 14 1 (.retr [1] (.tuple #[.string ((prnP (zS s)).1),.int .i64 ((prnP (zS s)).2)])),.mk 15 1 [] (λ(j:PrC (zS s))=>.tuple #[yA (zS s) (Ye j.vb) (Ye j.vs) (Ye j.vp) (Ye j.vr) (Ye j.vc),.int .i64 0,.int .i64 0]) (λ(j:PrC (zS s))=>j.R) (λ(j:PrC (zS s))=>[.o 16 1 (.retr [2] (.tuple #[.string ((prnP (zS s)).1),.int .i64 ((prnP (zS s)).2)])),.o 17 1 (.retr [1] (.int .i64 (chkN (zS s)))),.o 17 2 (.eq (bV true)),.o 17 5 (.eq (bV true)),.o 17 13 (.eq (bV true)),.o 17 18 (.retr [2,1] (.bool true)),.o 17 23 (.set (.bool true)),.o 17 26 (.ret (bV true))])]]:List Dir)
noncomputable abbrev HBal(s:ByteArray):=λ(b:TE s.data.toList)=>(.tuple #[yA (zS s) (Ye b.vb) (Ye b.vs) (Ye b.vp) (Ye b.vr) (Ye b.vc),.int .i64 ((oS s).2.1),.int .i64 ((oS s).2.2)]:Value)
abbrev HBam:=λa w=>call9 a w
abbrev HBan:=λa w=>call7 a w
noncomputable abbrev HBao(x:PV)(y:PV):=decide (((prnP x).1)=((prnP y).1))
abbrev HBap:=λa w=>call10 a w
def HBaq:List Dir:=[x04 2 0 (bV true)]
noncomputable abbrev HBar(s:ByteArray):Value:=.tuple #[.string ((prnP (zS s)).1),.int .i64 ((prnP (zS s)).2)]
def Qao{x:PV}{s:m1}{Ap Ar Ac:m3}{cs kp kr cc:Nat}{r t u v z:m3}{A B C D E:Nat}(q:smallX x)(J:smallX y)(w:m0)(l:QV w)(e:Tab10 w)(N:Five 0 w x (Ω Ab x.box.length cb) (Ω As x.κ.length cs) (Ω Ap x.ps.length kp) (Ω Ar x.θ.length kr) (Ω Ac x.ι.length cc))(O:Five 0 w y (Ω r y.box.length A) (Ω t y.κ.length B) (Ω u y.ps.length C) (Ω v y.θ.length D) (Ω z y.ι.length E)):RetAt prog w 3 #[xA x Ab cb As cs Ap kp Ar kr Ac cc,xA y r A t B u C v D z E,Ψ s] (Ξ true) :=
 have n:=eB true;rk [x04 1 1 (bV (CH x)),.gb 1 3 [x04 1 4 (bV (CH y)),.gb 1 7 [.both HBaq [x04 3 1 (.tup [sV ((prnP x).1),iV ((prnP x).2)]),.both [x09 5 1 [] (λ(i:PrC x)=>(.tuple #[yA x (Ye i.vb) (Ye i.vs) (Ye i.vp) (Ye i.vr) (Ye i.vc),Θ 0,Θ 0],i.R,[.o 6 9 (.retr [0] (Ξ true)),x04 8 1 (.tup [sV ((prnP y).1),iV ((prnP y).2)]),.g 9 3 true,.gb 9 7 [x03 9 9 (Ξ (HBao x y)),x04 9 12 (bV (ZS x y)),x03 9 13 (Ξ ((HBao x y) != (ZS x y))),.br false,.mk 11 1 [] (HBal s) (λ(b:TE s.data.toList)=>b.R) (HBak s)] [.mk 11 1 [] (HBal s) (λ(b:TE s.data.toList)=>b.R) (HBak s)]]))] [x04 8 1 (.tup [sV ((prnP y).1),iV ((prnP y).2)]),.g 9 3 false,x09 11 1 [] (λ(i:TE s.data.toList)=>(.tuple #[yA (zS s) (Ye i.vb) (Ye i.vs) (Ye i.vp) (Ye i.vr) (Ye i.vc),Θ ((oS s).2.1),Θ ((oS s).2.2)],i.R,[.both [x05 13 1 (bV true),x05 13 6 (bV true),.gb 13 12 [x05 13 13 (bV true),.o 13 19 (.retr [0] (Ξ true)),x04 13 22 (bV true)] [.o 13 19 (.retr [0] (Ξ true)),x04 13 22 (bV true)]] [.o 14 1 (.retr [0] (HBar s)),x09 15 1 [] (λ(b:PrC (zS s))=>(.tuple #[yA (zS s) (Ye b.vb) (Ye b.vs) (Ye b.vp) (Ye b.vr) (Ye b.vc),Θ 0,Θ 0],b.R,[.o 16 1 (.retr [1] (HBar s)),.o 17 1 (.retr [0] (Θ (chkN (zS s)))),x05 17 2 (bV true),x05 17 5 (bV true),x05 17 13 (bV true),.o 17 18 (.retr [1,0] (Ξ true)),x03 17 23 (Ξ true),x04 17 26 (bV true)]))]]))]]] HBaq] HBaq] λW G P=>have H:=N.below G;have I:=O.below G;have l:=Ql l G;have e:=e.later G;ai (sb q W H)<|ZD (CH x) false (λv1=>ai (sb J W I)<|ZD (CH y) false (λK=>Xi (decide ((s.size:Int)>3000)) (λh3=>ai (Kh W l e)<|(n true rfl)) λh3=>ai (Vu _ (RE q v1) W l e H)<|Xi (((prnP x).2)==0) (λF=>ai (Iv x (Tr F) W l) λ(i:PrC x)=>Ja (p0 HBam (λ(c:m0) (d:Below W.heap.size W c) (k:y9) (S:Nat->Prop) (h:i.R.φ k S c)=>Dq _ rfl i.x (i.f _ _ _ h) (H.below d))) (Vu _ (RE J K) W l e I) F<|have Z:=ai (RL s (hA (L1 h3)) W l) λ(b:TE s.data.toList)=>Xi (((oS s).2.2) != 0) (λm=>X0 (show(decide (((oS s).2.1)>=0))=true from Lk (eU m).2.1.1) (show(decide (((oS s).2.1)<=(s.size:Int)))=true from Lk (eU m).2.1.2)<|ZD (((oS s).2.1)==0) false (λh0=>Ja (show(((oS s).2.2)==2)=true from by rw[(eU m).2.2.resolve_left (VY h0)];rfl) (p0 HBam (λ(c:m0) (d:Below W.heap.size W c) (k:y9) (S:Nat->Prop) (h:b.R.φ k S c)=>Dq (zS s) (eU m).1.symm b.x (b.f _ _ _ h) (CP c))) (Kh W l e)<|(n true rfl)) λh0=>X0 (p0 HBam (λ(c:m0) (d:Below W.heap.size W c) (k:y9) (S:Nat->Prop) (h:b.R.φ k S c)=>Dq (zS s) (eU m).1.symm b.x (b.f _ _ _ h) (CP c))) (Kh W l e)<|(n true rfl)) λm=>ai (p0 HBan (λ(c:m0) (d:Below W.heap.size W c) (k:y9) (S:Nat->Prop) (h:b.R.φ k S c)=>(Vu (zS s) b.x c (Ql l d) (e.later d) (b.f _ _ _ h)).at))<|ai (Iv (zS s) (H7 h3 m).2 W l) λ(j:PrC (zS s))=>Yx (p0 HBan (λ(c:m0) (d:Below W.heap.size W c) (k:y9) (S:Nat->Prop) (h:j.R.φ k S c)=>(Vu (zS s) j.x c (Ql l d) (e.later d) (j.f _ _ _ h)).at)) (p0 HBap (λ(c:m0) (d:Below W.heap.size W c) (k:y9) (S:Nat->Prop) (h:b.R.φ k S c)=>(Ea (zS s) b.x c (Ql l d) (b.f _ _ _ h)).at)) (show((chkN (zS s))==0)=true from by rw[(H7 h3 m).1];rfl) (show(((prnP (zS s)).2)==0)=true from by rw[(H7 h3 m).2];rfl) (show(((prnP (zS s)).2)==0)=true from by rw[(H7 h3 m).2];rfl) (show Cv prog W [j.R,b.R] 9 #[yA (zS s) (Ye j.vb) (Ye j.vs) (Ye j.vp) (Ye j.vr) (Ye j.vc),yA (zS s) (Ye b.vb) (Ye b.vs) (Ye b.vp) (Ye b.vr) (Ye b.vc)] (Ξ true)from p0 (λa w=>call9 a w) λc _ x S q k M p=>Dq (zS s) rfl j.x (j.f _ _ _ q) (b.f _ _ _ p)) (EY W (.tmp 150) (.tmp 151) (prnP (zS s)).1) (Kh W l e)<|(n true rfl);ZD (((prnP y).2)==0) true (λL=>Ky (IC W (.tmp 73) (.tmp 74) ((prnP x).1) ((prnP y).1)) (ql x y (iv (RE q v1)) W H I) (C8 W (.tmp 75) (.tmp 78) (HBao x y) (ZS x y)) (show((decide (((prnP x).1)=((prnP y).1))) != (ZS x y))=false from Qbg F L)<|Z) λL=>Z) λF=>X0 (Vu _ (RE J K) W l e I) F<|ai (RL s (hA (L1 h3)) W l) λ(i:TE s.data.toList)=>Xi (((oS s).2.2) != 0) (λm=>X0 (show(decide (((oS s).2.1)>=0))=true from Lk (eU m).2.1.1) (show(decide (((oS s).2.1)<=(s.size:Int)))=true from Lk (eU m).2.1.2)<|ZD (((oS s).2.1)==0) false (λh0=>Ja (show(((oS s).2.2)==2)=true from by rw[(eU m).2.2.resolve_left (VY h0)];rfl) (p0 HBam (λ(c:m0) (d:Below W.heap.size W c) (k:y9) (S:Nat->Prop) (h:i.R.φ k S c)=>Dq (zS s) (eU m).1.symm i.x (i.f _ _ _ h) (CP c))) (Kh W l e)<|(n true rfl)) λh0=>X0 (p0 HBam (λ(c:m0) (d:Below W.heap.size W c) (k:y9) (S:Nat->Prop) (h:i.R.φ k S c)=>Dq (zS s) (eU m).1.symm i.x (i.f _ _ _ h) (CP c))) (Kh W l e)<|(n true rfl)) λm=>ai (p0 HBan (λ(c:m0) (d:Below W.heap.size W c) (k:y9) (S:Nat->Prop) (h:i.R.φ k S c)=>(Vu (zS s) i.x c (Ql l d) (e.later d) (i.f _ _ _ h)).at))<|ai (Iv (zS s) (H7 h3 m).2 W l) λ(b:PrC (zS s))=>Yx (p0 HBan (λ(c:m0) (d:Below W.heap.size W c) (k:y9) (S:Nat->Prop) (h:b.R.φ k S c)=>(Vu (zS s) b.x c (Ql l d) (e.later d) (b.f _ _ _ h)).at)) (p0 HBap (λ(c:m0) (d:Below W.heap.size W c) (k:y9) (S:Nat->Prop) (h:i.R.φ k S c)=>(Ea (zS s) i.x c (Ql l d) (i.f _ _ _ h)).at)) (show((chkN (zS s))==0)=true from by rw[(H7 h3 m).1];rfl) (show(((prnP (zS s)).2)==0)=true from by rw[(H7 h3 m).2];rfl) (show(((prnP (zS s)).2)==0)=true from by rw[(H7 h3 m).2];rfl) (show Cv prog W [b.R,i.R] 9 #[yA (zS s) (Ye b.vb) (Ye b.vs) (Ye b.vp) (Ye b.vr) (Ye b.vc),yA (zS s) (Ye i.vb) (Ye i.vs) (Ye i.vp) (Ye i.vr) (Ye i.vc)] (Ξ true)from p0 (λa w=>call9 a w) λc _ x S q k M p=>Dq (zS s) rfl b.x (b.f _ _ _ q) (i.f _ _ _ p)) (EY W (.tmp 150) (.tmp 151) (prnP (zS s)).1) (Kh W l e)<|(n true rfl)) λK=>ai (Kh W l e)<|(n true rfl)) λv1=>ai (Kh W l e)<|(n true rfl)
open Go.WideShapes Go.ChangeShapes Go.Deep
section
variable{H:Type}{enc:o0×y9->H}{w:m0}{B:Nat}
def N9{d:DataW H}{l:List (DataW H)}(h:d∈l):Rows.uptoBulk d<=Rows.uptoBulkAll l:=by
 induction l with
 |nil=>cases h
 |cons x r a =>
  simp only[Rows.uptoBulkAll];cases Lb.1 h with
  |inl e=>subst e;omega
  |inr e=>have:=a e;omega
def lM(d:DataW H):1<=Rows.uptoBulk d:=by
 cases d with
 |lit l=>cases l<;>simp[Rows.uptoBulk]
 |nil=>simp[Rows.uptoBulk]
 |ptr d=>simp[Rows.uptoBulk]
 |slice a spare=>simp[Rows.uptoBulk]
 |agg parts=>simp[Rows.uptoBulk]
 |iface t d=>simp[Rows.uptoBulk]
 |map entries=>simp[Rows.uptoBulk]
 |held h=>simp[Rows.uptoBulk]
def lL(l:List (DataW H)):l.length<=Rows.uptoBulkAll l:=by
 induction l with
 |nil=>simp[Rows.uptoBulkAll]
 |cons x r a=>have:=lM x;simp only[Rows.uptoBulkAll,Li];omega
abbrev TR(enc:o0×y9->H)(w:m0)(a:Nat)(t:o0)(cs:o3)(x:DataW H×List MemPlace):Prop:=DataW.trod enc prog w 0 (λ_=>true) true a t cs=some x
theorem GH{t:o0}{e:Array Field}{a k:Nat}{cs:o3}{x:DataW H×List MemPlace}(j:prog.underlying t=some (.struct e))(hk:prog.cellsOf t=k)(h:TR enc w a t cs x)(p:Rows.uptoBulk x.1<=B):
  cs.length=k/\∃n,∀(i:Nat) (f:Field) (m:Nat),e[i]?=some f->prog.cellsOf f.type=m->∃y,TR enc w n f.type ((cs.drop f.offset).take m) y/\Rows.uptoBulk y.1<=B:=by
 obtain⟨d,n,_,rfl,hl,b,l⟩:=DataW.trod_struct j h;refine⟨hl.trans hk,n,λi f m g o=>?_⟩;subst o;have h1:=l i f g;have c:i<d.length:=by rw[b];exact(b8.1 g).1
 rw[p6 c]at h1;refine⟨_,h1,?_⟩;have h2:(d[i]).1∈d.map (·.1):=Lv.2 ⟨_,List.getElem_mem c,rfl⟩;have h3:=N9 h2
 grind[Rows.uptoBulk]
def et{a:Addr}{v:y9}(b:w.cell? (a.add 0)=some v):∃c off,a=⟨c,off,none⟩:=by
 let⟨c,off,d⟩:=a;cases d with
 |none=>exact⟨c,off,rfl⟩
 |some x =>
  exfalso;simp only[Addr.add,if_true,World.cell?]at b;split at b
  ·simp at b
  ·cases b
theorem G2{α:Type}{t e k:Nat}(p:Rdg α)(Q:α->Prop)(d:α){f:Nat}{cs:o3}{x:DataW H×List MemPlace}(K:prog.underlying t=some (.slice e))(hk:prog.cellsOf e=k)(h0:0<k)(L:∀f cs x,TR enc w f e cs x->Rows.uptoBulk x.1<=B->∃a:α,p w a cs/\Q a)(h:TR enc w f t cs x)(I:Rows.uptoBulk x.1<=B):
  ∃(l:List α) (A:m3) (c:Nat),cs=[.slice A l.length c]/\SlV 0 k p w l (.slice A l.length c)/\l.length<=B/\∀a,a∈l->Q a:=by
 rcases open_slice K h with⟨e1,_⟩|⟨a,len,cap,m,n,D,V,e1,_,hl,_,M,N,z⟩
 ·exact⟨[],none,0,e1,SlV.nil_ _ _ _ _,L7 _,λa O=>by cases O⟩
 ·simp only[if_true]at M;rw[N]at I;simp only[Rows.uptoBulk]at I;have r:len<=B:=by
   have:=lL ((List.range len).map D)
   grind
  have key:∀i,∃x:o3×α,i<len->w.cells? 0 (a.add (i*k)) k=some x.1/\p w x.2 x.1/\Q x.2:=λi=>by
   by_cases o:i<len
   ·let⟨C,h1,h2⟩:=z i x3;rw[hk]at h1;have h3:D i∈(List.range len).map D:=Lv.2 ⟨i,R7.2 o,rfl⟩;let⟨b,P,y⟩:=L _ _ _ h2 (by have:=N9 h3;show Rows.uptoBulk (D i)<=B;omega);exact⟨(C,b),λ_=>⟨h1,P,y⟩⟩
   ·exact⟨([],d),λh=>absurd h o⟩
  obtain⟨X,E⟩:∃X:Nat->o3×α,∀i,i<len->w.cells? 0 (a.add (i*k)) k=some (X i).1/\p w (X i).2 (X i).1/\Q (X i).2:=⟨λi=>Classical.choose (key i),λi z=>Lq (key i) z⟩
  have g:((List.range len).map λi=>(X i).2).length=len:=x6;refine⟨(List.range len).map λi=>(X i).2,some a,cap,by rw[g];exact e1,⟨some a,cap,rfl,by rw[g];exact hl,(λh=>nomatch h),λJ=>?_⟩,by rw[g];exact r,λb R=>?_⟩
  ·rw[g]at J;let⟨_,S,F⟩:=World.cells?_some (E 0 J).1;have s:=F 0 h0;rw[p6 x3,Ue,add_add]at s;obtain⟨G,off,rfl⟩:=et s;refine⟨G,off,rfl,L7 _,λi q=>?_⟩;have o:i<len:=by rw[g]at q;exact q
   let⟨q1,T,W⟩:=E i o;let⟨_,u,v⟩:=World.cells?_some q1;refine⟨(X i).1,u,?_,λj U=>?_⟩
   ·rw[show((List.range len).map λi=>(X i).2)[i]=(X i).2 by simp];exact T
   ·have y:=v j U;rw[add_add,add_plain]at y;rw[Sf];exact y
  ·obtain⟨i,q,rfl⟩:=Lv.1 R;exact(E i (R7.1 q)).2.2
def yl{α:Type}{l:List α}(h:l.length=6):∃a b c d e f,l=[a,b,c,d,e,f]:=by
 match l,h with | [a,b,c,d,e,f],_=>exact⟨a,b,c,d,e,f,rfl⟩
def Qdu{α:Type}{l:List α}(h:l.length=4):∃a b c d,l=[a,b,c,d]:=by
 match l,h with | [a,b,c,d],_=>exact⟨a,b,c,d,rfl⟩
def Qar{α:Type}{l:List α}(h:l.length=14):∃a b c d e f g i j k m n o p,l=[a,b,c,d,e,f,g,i,j,k,m,n,o,p]:=by
 match l,h with | [a,b,c,d,e,f,g,i,j,k,m,n,o,p],_=>exact⟨a,b,c,d,e,f,g,i,j,k,m,n,o,p,rfl⟩
def CY{c:Nat}{cs:o3}{x:DataW H×List MemPlace}(h:TR enc w c 32 cs x):∃a:Nm,VT w a cs:=by
 let⟨b,s,e,d,_⟩:=rG h;exact⟨⟨b,s,e⟩,d⟩
def lQ:prog.cellsOf 76=6:=x5
def lR:prog.cellsOf 56=4:=x5
def s7:prog.cellsOf 57=1:=x5
def Pr:prog.cellsOf 52=2:=x5
def lP:prog.cellsOf 54=6:=x5
def UA:prog.cellsOf 27=2:=x5
def jn:prog.cellsOf 35=14:=x5
def QcQ:prog.cellsOf 23=1:=x5
def jo:prog.cellsOf 25=1:=x5
def fm:prog.cellsOf 28=1:=x5
def s6:prog.cellsOf 33=1:=x5
def s8:prog.cellsOf 50=1:=x5
abbrev BK(B:Nat)(d:DataW H):Prop:=Rows.uptoBulk d<=B
def xd{c:Nat}{cs:o3}{x:DataW H×List MemPlace}(h:TR enc w c 76 cs x)(k:BK B x.1):∃a:Nm×Nm,yN w a cs/\True:=by
 let⟨hl,n,j⟩:=GH Tryz.underlying76 lQ h k;obtain⟨c0,d,e,f,g,i,rfl⟩:=yl hl;let⟨o,h0,_⟩:=(show ∃y,TR enc w n 32 [c0,d,e] y/\BK B y.1 from j 0 _ 3 rfl Kz)
 let⟨p,h1,_⟩:=(show ∃y,TR enc w n 32 [f,g,i] y/\BK B y.1 from j 1 _ 3 rfl Kz)
 let⟨a,l⟩:=CY h0;let⟨b,m⟩:=CY h1;refine⟨(a,b),?_,trivial⟩;show[c0,d,e]++[f,g,i]=Xk a++Xk b;rw[show[c0,d,e]=Xk a from l,show[f,g,i]=Xk b from m]
theorem xe{c:Nat}{cs:o3}{x:DataW H×List MemPlace}(h:TR enc w c 56 cs x)(k:BK B x.1):∃a:Tm,V7 w a cs/\a.m.size<=B:=by
 let⟨hl,n,i⟩:=GH Tryz.underlying56 lR h k;obtain⟨c0,d,e,f,rfl⟩:=Qdu hl;let⟨l,h0,g⟩:=(show ∃y,TR enc w n 9 [c0] y/\BK B y.1 from i 0 _ 1 rfl C9)
 let⟨r,h1,_⟩:=(show ∃y,TR enc w n 32 [d,e,f] y/\BK B y.1 from i 1 _ 3 rfl Kz)
 let⟨s,o,p,_⟩:=DataW.trod_string Tryz.underlying9 h0;let⟨b,q⟩:=CY h1;refine⟨⟨s,b⟩,?_,?_⟩
 ·show[c0]++[d,e,f]=[.string s]++Xk b;rw[o,show[d,e,f]=Xk b from q]
 ·have j:Rows.uptoBulk l.1<=B:=g;rw[p]at j;simp[Rows.uptoBulk]at j
  grind
def rE{b:Nat}{cs:o3}{x:DataW H×List MemPlace}(h:TR enc w b 57 cs x)(d:BK B x.1):∃a:List Nm,kz 0 w a cs/\a.length<=B:=by
 let⟨l,A,c,h1,h2,h3,_⟩:=G2 VT (λ_=>True) nm0 Tryz.underlying57 Kz x4 (λ_ _ _ h _=>by let⟨a,e⟩:=CY h;exact⟨a,e,trivial⟩) h d;exact⟨l,⟨_,h1,h2⟩,h3⟩
def PQ(B:Nat)(p:Py):Prop:=p.ts.length<=B/\∀t,t∈p.ts->t.m.size<=B
def Nu{a:Nat}{cs:o3}{x:DataW H×List MemPlace}(h:TR enc w a 3 cs x):∃e:Int,cs=[.int .i64 e]/\-9223372036854775808<=e/\e<=9223372036854775807:=by
 let⟨e,c,_,b⟩:=DataW.trod_int Tryz.underlying3 h;simp only[Lit.wf,Lx,decide_eq_true_eq]at b;exact⟨e,c,b.1,b.2⟩
def Ku{a b:y9}(h:[a]=[b]):a=b:=by injection h
def SR{b:Nat}{cs:o3}{x:DataW H×List MemPlace}(h:TR enc w b 52 cs x)(d:BK B x.1):∃a:Py,dX 0 w a cs/\PQ B a:=by
 let⟨hl,n,g⟩:=GH Tryz.underlying52 Pr h d;obtain⟨c0,i,rfl⟩:=yk hl;let⟨r,h0,_⟩:=(show ∃y,TR enc w n 3 [c0] y/\BK B y.1 from g 0 _ 1 rfl GA)
 let⟨s,h1,f⟩:=(show ∃y,TR enc w n 50 [i] y/\BK B y.1 from g 1 _ 1 rfl s8)
 let⟨e,j,_⟩:=Nu h0;let⟨l,A,c,k1,k,o,q⟩:=G2 V7 (λt=>t.m.size<=B) Bp Tryz.underlying50 lR x4 (λ_ _ _ h d=>xe h d) h1 f;rw[Ku j,Ku k1];exact⟨⟨e,l⟩,⟨_,rfl,k⟩,o,q⟩
def xc{c:Nat}{cs:o3}{x:DataW H×List MemPlace}(h:TR enc w c 54 cs x)(o:BK B x.1):∃a:Nd,lu 0 w a cs/\PQ B a.sum:=by
 let⟨hl,n,d⟩:=GH Tryz.underlying54 lP h o;obtain⟨c0,g,i,j,p,r,rfl⟩:=yl hl;let⟨C,h0,_⟩:=(show ∃y,TR enc w n 3 [c0] y/\BK B y.1 from d 0 _ 1 rfl GA)
 let⟨D,h1,_⟩:=(show ∃y,TR enc w n 32 [g,i,j] y/\BK B y.1 from d 1 _ 3 rfl Kz)
 let⟨E,h2,f⟩:=(show ∃y,TR enc w n 52 [p,r] y/\BK B y.1 from d 2 _ 2 rfl Pr)
 let⟨e,s,_⟩:=Nu h0;let⟨b,t⟩:=CY h1;let⟨q,⟨v,u,z⟩,A⟩:=SR h2 f;have k:=List.cons.inj (show[g,i,j]=Xk b from t);have l:=List.cons.inj k.2;have m:=List.cons.inj u;rw[Ku s,k.1,l.1,Ku l.2,m.1,Ku m.2];exact⟨⟨e,b,q⟩,⟨v,rfl,z⟩,A⟩
def Qcp{r:Reach}{Z:Nat}{v:y9}{d:DataW H}{ps:List MemPlace}(f:Value.okWide prog w r Z 35 v)(h:DataW.Trod enc prog w 0 (λ_=>true) true 35 v d ps)(c:Rows.uptoBulk d<=1048576):
  ∃(x:PV) (Ab As Ap Ar Ac:m3) (cb cs kp kr cc:Nat),v=xA x Ab cb As cs Ap kp Ar kr Ac cc/\smallX x/\Five 0 w x (.slice Ab x.box.length cb) (.slice As x.κ.length cs) (.slice Ap x.ps.length kp) (.slice Ar x.θ.length kr) (.slice Ac x.ι.length cc):=by
 obtain⟨cs,rfl,ad⟩:=okWide_struct Tryz.underlying35 f;let⟨J,k⟩:=h;let⟨hl,n,e⟩:=GH (B:=1048576) Tryz.underlying35 jn k c;let⟨c0,c1,K,L,c4,c5,M,N,O,P,g,i,m,o,j⟩:=Qar hl;rw[j]at e;let⟨y0,h0,_⟩:=(show ∃y,TR enc w n 3 [c0] y/\BK 1048576 y.1 from e 0 _ 1 rfl GA)
 let⟨y1,h1,_⟩:=(show ∃y,TR enc w n 3 [c1] y/\BK 1048576 y.1 from e 1 _ 1 rfl GA)
 let⟨y2,h2,s⟩:=(show ∃y,TR enc w n 27 [K,L] y/\BK 1048576 y.1 from e 2 _ 2 rfl UA)
 let⟨y3,h3,u⟩:=(show ∃y,TR enc w n 28 [c4] y/\BK 1048576 y.1 from e 3 _ 1 rfl fm)
 let⟨y4,h4,z⟩:=(show ∃y,TR enc w n 28 [c5] y/\BK 1048576 y.1 from e 4 _ 1 rfl fm)
 let⟨y5,h5,_⟩:=(show ∃y,TR enc w n 32 [M,N,O] y/\BK 1048576 y.1 from e 5 _ 3 rfl Kz)
 let⟨y6,h6,_⟩:=(show ∃y,TR enc w n 32 [P,g,i] y/\BK 1048576 y.1 from e 6 _ 3 rfl Kz)
 let⟨y7,h7,_⟩:=(show ∃y,TR enc w n 3 [m] y/\BK 1048576 y.1 from e 7 _ 1 rfl GA)
 let⟨y8,h8,A⟩:=(show ∃y,TR enc w n 33 [o] y/\BK 1048576 y.1 from e 8 _ 1 rfl s6)
 let⟨_,R,S⟩:=GH Tryz.underlying27 UA h2 s;let⟨z0,g0,C⟩:=(show ∃y,TR enc w R 23 [K] y/\BK 1048576 y.1 from S 0 _ 1 rfl QcQ)
 let⟨z1,g1,D⟩:=(show ∃y,TR enc w R 25 [L] y/\BK 1048576 y.1 from S 1 _ 1 rfl jo)
 let⟨δ,e0,_⟩:=Nu h0;let⟨vars,e1,ev⟩:=Nu h1;let⟨ζ,e7,_⟩:=Nu h7;let⟨ν,e5⟩:=CY h5;let⟨ε,e6⟩:=CY h6;let⟨box,Ab,cb,e2,f2,E,_⟩:=G2 yN (λ_=>True) (nm0,nm0) Tryz.underlying23 lQ x4 (λ_ _ _ h c=>xd h c) g0 C;let⟨F,As,G,e3,f3,n3,q3⟩:=G2 (kz 0) (λl=>l.length<=1048576) [] Tryz.underlying25 s7 x4 (λ_ _ _ h c=>rE h c) g1 D;let⟨pl,Ap,kp,e4,f4,n4,T⟩:=G2 (dX 0) (PQ 1048576) NU Tryz.underlying28 Pr x4 (λ_ _ _ h c=>SR h c) h3 u;let⟨rl,Ar,kr,e8,f8,n8,U⟩:=G2 (dX 0) (PQ 1048576) NU Tryz.underlying28 Pr x4 (λ_ _ _ h c=>SR h c) h4 z;let⟨ct,Ac,cc,e9,f9,n9,V⟩:=G2 (lu 0) (λa=>PQ 1048576 a.sum) Eh Tryz.underlying33 lP x4 (λ_ _ _ h c=>xc h c) h8 A;have W:=List.cons.inj (show[M,N,O]=Xk ν from e5);have X:=List.cons.inj W.2;have Y:=List.cons.inj (show[P,g,i]=Xk ε from e6);have v6:=List.cons.inj Y.2;refine⟨⟨δ,vars,box,F,pl,rl,ν,ε,ζ,ct⟩,Ab,As,Ap,Ar,Ac,cb,G,kp,kr,cc,Lu Value.agg (Array.toList_inj.1 ?_),⟨E,n3,n4,n8,n9,q3,λp b=>(T p b).1,λp b=>(U p b).1,λp b=>(V p b).1,λp b t I=>?_,ev⟩,⟨f2,f3,f4,f8,f9⟩⟩
 ·rw[show cs.toList=_ from j,Ku e0,Ku e1,Ku e2,Ku e3,Ku e4,Ku e8,W.1,X.1,Ku X.2,Y.1,v6.1,Ku v6.2,Ku e7,Ku e9]
 ·unfold KK at b;simp only[Lo,Lv]at b;rcases b with(b|b)|⟨q,b,rfl⟩
  ·exact(T p b).2 t I
  ·exact(U p b).2 t I
  ·exact(V q b).2 t I
end
