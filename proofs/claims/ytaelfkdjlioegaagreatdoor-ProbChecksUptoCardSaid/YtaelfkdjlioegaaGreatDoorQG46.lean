/- The walks and plain laws beneath the statements. -/
import Derived.Test.YtaelfkdjlioegaaGreatDoorQG45
namespace Go.Proofs.YtaelfkdjlioegaaGreatDoor
open Tryz
set_option maxRecDepth 100000
open Go Go.RowKit
variable{eps delta:Nm}{bx:List (Nm×Nm)}{pts:List (List Nm)}{ct:List Nd}{vb vs vp vr vc u v:Value}{α β:Type}{rs:Array ResultVar}{R1 R2:Res}{m:Sem Value}{e:TypeId}
def Q5(x:PV): Bool:=JM x.vars x.rules.length x.cert.length x.budget&&((Qg x.eps x.delta x.box x.pts x.cert).all (fun x=>!Xy x)&&(GT x).all XG)
structure okX (x:PV):Prop where
 o:okO x.kind x.vars x.eps x.delta x.box x.pts x.ps x.rules x.cert
theorem jh(l:List Xl)(f:Py→Bool): (l.all fun p=>f p.1)=(l.map (·.1)).all f:=by rw[List.all_map];rfl
theorem DN{s:Nm×Nm}(h:s∈bx): s.1∈Qg eps delta bx pts ct∧s.2∈Qg eps delta bx pts ct:=by
 unfold Qg
 constructor<;>(simp only[Rj,U9];left;left;right;exact⟨s,h,by simp⟩)
theorem ar{x:PV}(h:okX x)(p:Py)(hp:p∈GT x): okP p:=by
 unfold GT at hp
 simp only[Rj,R5]at hp
 rcases hp with(hp|hp)|⟨n,hp,h7⟩
 ·exact h.o.okp _ hp
 ·exact h.o.okr _ hp
 ·rw[← h7];exact h.o.okc _ hp
theorem RL{lo:Nat}{t:Int}(x:PV)(h:okX x)(w:World)(hT:Yk w)(hF:Five lo w x vb vs vp vr vc)(hTri:∀W,Below w.heap.size w W→Xr x=true→Q5 x=true→x.box.length=0→RetAt prog W 25 #[vs] (.int .i64 t)): RetAt prog w 10 #[yA x vb vs vp vr vc] (.int .i64 (ZO (Xr x) (Q5 x) x.box.length t (XD x.box))):=by
 obtain⟨ho⟩:=h
 obtain⟨Ab,As,Ap,Ar,Ac,cb,cs,kp,kr,cc,Us,Up,Ur,Uc,us,up,ur,uc,rfl,rfl,rfl,rfl,rfl,hR⟩:=Bn hF
 have hmap:=Ef (x:=x) (Up:=Up) (Ur:=Ur) (Uc:=Uc) (up:=up) (ur:=ur) (uc:=uc)
 have hokP:∀y,y∈XN (KG x.ps Up up) (KG x.rules Ur ur) x.cert Uc uc→okP y.1:=fun y hy=>ar ⟨ho⟩ _ (by rw[Cn]at hy;rw[← hmap];exact R5.2 ⟨y,hy,rfl⟩)
 have hwi:Jq x.vars (KG x.rules Ur ur).length x.cert.length x.budget (Qg x.eps x.delta x.box x.pts x.cert) (XN (KG x.ps Up up) (KG x.rules Ur ur) x.cert Uc uc)=Q5 x:=by
  unfold Jq Q5
  rw[jh,Cn,hmap,XF]
 refine iF (o:=Xr x) (i:=Q5 x) (t:=t) x (L8 ho.l0.hb (by decide)) (fun s hsm=>⟨ho.nums _ (DN hsm).1,ho.nums _ (DN hsm).2⟩) w hT hR.b ?_ ?_ ?_
 ·intro W hW
  have hR:=hR.below hW
  exact fQ ho W (Qn hT hW) hR.b hR.s hR.sp hR.c hR.cn hR.q hR.qs hR.r hR.rs
 ·intro W hW _
  have hR:=hR.below hW
  have hw:=cE (lo:=lo) (eps:=x.eps) (delta:=x.delta) (kind:=x.kind) (vars:=x.vars) (budget:=x.budget) (cb:=cb) (cs:=cs) (cc:=cc) (kp:=kp) (kr:=kr) (Ap:=Ap) (Ar:=Ar) (l1:=KG x.ps Up up) (l2:=KG x.rules Ur ur) (Ua:=Uc) (Uc:=uc) ⟨ho.l0,by rw[XF];exact ho.np,by rw[XF];exact ho.nr,hokP⟩ W hR.b hR.s hR.sp hR.c hR.q1 hR.r1 (fun y hy=>hR.X y (by rw[← Cn];exact hy))
  rw[hwi,XF,XF]at hw
  exact hw
 ·intro W hW h1 h2 h3
  exact hTri W hW (by simpa using h1) (by simpa using h2) (by simpa using h3)
theorem lj{k:Nat}: (XA ct (k+1)).length=bif (Qc ct k).split==0 then(XA ct k).length-1 else(XA ct k).length-1+2:=by
 cases h:(Qc ct k).split==0 with
 | true=>rw[P3 h,Rt];exact Ug (U6 _ _)
 | false=>rw[Pk h,Lg,Rt,Ug (U6 _ _)];rfl
theorem Hg: ∀k,k≤ct.length→(∀j,j<k→((((XA ct j).length:Nat):Int)==0)=false)→JV (EK ct) 1=JV ((EK ct).drop k) (XA ct k).length
 | 0,_,_=>rfl
 | k+1,hk,h=>by
  rw[Hg k (by omega) fun j hj=>h j (by omega),List.drop_eq_getElem_cons (by rw[JT];exact hk),OR hk,lj]
  have h0:=R6.1 (h k (T8 _))
  obtain⟨m,e⟩:∃m,(XA ct k).length=m+1:=⟨(XA ct k).length-1,by omega⟩
  rw[e]
  cases (Qc ct k).split==0<;>rfl
theorem WE(ct:List Nd): EF ct=JO ct:=by
 have e:(YL ct 0==(ct.length:Int))=bif Q3 ct.length (fun j=>(((XA ct j).length:Nat):Int)==0)then false else(((XA ct ct.length).length:Nat):Int)==0:=by
  have e1:(YL ct 0==(ct.length:Int))=decide (JV (EK ct) 1=some []):=by
   rw[Tx,Rg,decide_eq_true_iff,← TV,JT];rfl
  rw[e1]
  by_cases h:∃j,j<ct.length∧((((XA ct j).length:Nat):Int)==0)=true
  ·rw[anyB_iff.2 h]
   obtain⟨j,hj,hs,hmin⟩:∃j,j<ct.length∧((((XA ct j).length:Nat):Int)==0)=true∧∀i,i<j→((((XA ct i).length:Nat):Int)==0)=false:=by
    obtain⟨j,h1,h2⟩:=h
    induction j using Nat.strongRecOn with
    | _ j ih =>
     by_cases hh:∃i,i<j∧((((XA ct i).length:Nat):Int)==0)=true
     ·obtain⟨i,h3,h4⟩:=hh
      exact ih i h3 (by omega) h4
     ·refine⟨j,h1,h2,fun i hi=>?_⟩
      cases e:((((XA ct i).length:Nat):Int)==0)with
      | false=>rfl
      | true=>exact absurd ⟨i,hi,e⟩ hh
   rw[Hg j (by omega) hmin,show(XA ct j).length=0 by have:=Rg.1 hs;omega,GG]
   refine Lk fun h5=>?_
   have h6:=R7 List.length (Option.some.inj h5)
   rw[Tt,JT]at h6
   simp at h6
   omega
  ·have h1:∀j,j<ct.length→((((XA ct j).length:Nat):Int)==0)=false:=fun j hj=>by
    cases e:((((XA ct j).length:Nat):Int)==0)with
    | false=>rfl
    | true=>exact absurd ⟨j,hj,e⟩ h
   rw[Yp h1,Hg ct.length (L3 _) h1,← JT ct,List.drop_length,JT]
   cases e:(XA ct ct.length).length with
   | zero=>rfl
   | succ m =>
    show decide ((none:Option (List Bool))=some [])=(((m+1:Nat):Int)==0)
    rw[R6.2 (by omega)]
    rfl
 unfold EF JO
 rw[e]
 by_cases h:ct.length≤4096
 ·rw[Lk (by omega:¬(ct.length:Int)>4096),Rf (by omega:(ct.length:Int)≤4096)];rfl
 ·rw[Rf (by omega:(ct.length:Int)>4096),Lk (by omega:¬(ct.length:Int)≤4096)];rfl
theorem ga(many:Int)(x:Nd): QZ many x=Yc many x:=by
 unfold QZ Yc
 by_cases h0:x.split=0
 ·rw[h0]
  simp
 ·by_cases h1:x.split=1
  ·rw[h1]
   simp
  ·simp[h0,h1,R6.2 h1,bne]
theorem UI(many:Int)(ct:List Nd): Xu many ct=Zw many ct:=by
 unfold Xu Zw
 rw[WE,show(fun j=>QZ many (Qc ct j))=fun j=>Yc many (Qc ct j)from funext fun j=>ga many _]
 cases h:((ct.length:Int)==0)with
 | true =>
  have h0:ct.length=0:=by have:=Rg.1 h;omega
  rw[h0,Yp fun j hj=>absurd hj (Rc _)]
  rfl
 | false=>cases JO ct<;>cases Q3 ct.length (fun j=>Yc many (Qc ct j))<;>rfl
theorem PI{x:Nm}(h:XK x=true): Mb x=(sg x==0):=by
 have e:x=nm0↔sg x=0:=by
  constructor
  ·rintro rfl;rfl
  ·intro hs
   have hz:nv x=0:=dsgn_eq.1 hs
   unfold XK at h
   rw[hz]at h
   have h0:Ku nm0 x=true:=h
   exact(nmE_iff.1 h0).symm
 rw[Tx,Rg,← e]
 exact nmE_iff (x:=x) (y:=nm0)
def Dx(kind:Int)(eps delta:Nm)(budget:Int)(nr nc:Nat): Bool :=
 bif kind==6 then((((sg eps==0)&&(sg delta==0))&&(budget==0))&&((nr:Int)==0))&&decide ((nc:Int)>0)else
 bif (decide (sg eps≤0)||decide (budget<1))||decide ((nc:Int)>0)then false else
 bif kind==4 then decide (sg delta>0)else(sg delta==0)&&((nr:Int)==0)
theorem gr{kind:Int}{budget:Int}{nr nc:Nat}(he:XK eps=true)(hd:XK delta=true): X5 (nS kind) (nR kind) (nC kind) eps delta nr budget nc=Dx kind eps delta budget nr nc:=by
 have a1:=PI he
 have a2:=PI hd
 have b1:Aq eps=(!decide (sg eps≤0)):=by unfold Aq;rw[Tx];simp
 have c1:=Dy (nv eps)
 have c2:=Dy (nv delta)
 have d1:(sg delta==0)=true→Aq delta=false:=fun h=>by unfold Aq;rw[Rg.1 h];rfl
 have d2:(sg eps==0)=true→Aq eps=false:=fun h=>by unfold Aq;rw[Rg.1 h];rfl
 have d3:((nr:Int)==0)=!decide ((nr:Int)>0):=by rw[Tx];simp
 unfold X5 Dx nS nR nC
 rw[a1,a2,d3]
 by_cases h6:kind=6
 ·subst h6
  rw[show((6:Int) != 6)=false from rfl,show((6:Int)==4)=false from rfl,show((6:Int)==6)=true from rfl]
  cases e1:(sg eps==0)<;>cases e2:(sg delta==0)
  all_goals try rw[d1 e2]
  all_goals try rw[d2 e1]
  all_goals cases decide ((nr:Int)>0)<;>cases decide ((nc:Int)>0)<;>cases e3:(budget==0)<;>cases Aq eps<;>cases Aq delta<;>simp[e3,bne]
 ·rw[show(kind != 6)=true from bne_iff_ne.2 h6,show(kind==6)=false from R6.2 h6,b1]
  by_cases h4:kind=4
  ·subst h4
   have b2:Aq delta=decide (sg delta>0):=rfl
   rw[show((4:Int)==4)=true from rfl,b2]
   cases decide (sg eps≤0)<;>cases decide (budget<1)<;>cases decide ((nc:Int)>0)<;>cases decide (sg delta>0)<;>simp
  ·rw[show(kind==4)=false from R6.2 h4]
   cases e2:(sg delta==0)
   all_goals try rw[d1 e2]
   all_goals cases decide (sg eps≤0)<;>cases decide (budget<1)<;>cases decide ((nc:Int)>0)<;>cases decide ((nr:Int)>0)<;>cases Aq delta<;>simp
def Zj(kind vars:Int)(nb:Nat)(pts:List (List Nm))(np:Nat)(aw fm:Bool)(eps delta:Nm)(budget:Int)(nr:Nat)(ct:List Nd): Bool :=
 bif QT kind vars==0 then false else bif (np:Int) != QT kind vars then false else bif !Z6 nb pts kind vars then false else bif !Xu (Qv nb pts.length) ct then false else
 bif aw then false else bif fm then false else Dx kind eps delta budget nr ct.length
theorem Dp{l:List α}{d:α}{f:α→Bool}: Q3 l.length (fun j=>f (l.getD j d))=l.any f:=by
 rw[Tx,anyB_iff,U7]
 constructor
 ·rintro⟨j,hj,h⟩;rw[Xg hj]at h;exact⟨_,Sa hj,h⟩
 ·rintro⟨x,hx,h⟩;obtain⟨j,hj,rfl⟩:=List.getElem_of_mem hx;exact⟨j,hj,by rw[Xg hj];exact h⟩
theorem eh{x:PV}(hn:x.pts.length≤4294967296)(hv:x.vars≤9223372036854775807): Zj x.kind x.vars x.box.length x.pts x.ps.length ((x.ps++x.rules).any (Qz x.vars)) ((Qg x.eps x.delta x.box x.pts x.cert).any fun x=>!XK x) x.eps x.delta x.budget x.rules.length x.cert=Xr x:=by
 unfold Zj Xr Jl
 rw[UI,show(Q3 x.ps.length fun j=>Qz x.vars (QC x.ps j))=x.ps.any (Qz x.vars)from Dp,show(Q3 x.rules.length fun j=>Qz x.vars (QC x.rules j))=x.rules.any (Qz x.vars)from Dp,List.any_append]
 cases h0:QT x.kind x.vars==0 with
 | true=>rfl
 | false =>
  have h1:1≤x.vars:=by
   unfold QT at h0
   by_cases hh:x.kind<1∨7≤x.kind∨x.vars<1
   ·rw[if_pos hh]at h0;cases h0
   ·omega
  rw[W9 hn h1 hv,show(x.kind==2||x.kind==5)=nX x.kind from rfl]
  cases hf:(Qg x.eps x.delta x.box x.pts x.cert).all XK with
  | true =>
   have hm:∀y,y∈Qg x.eps x.delta x.box x.pts x.cert→XK y=true:=Ls.1 hf
   rw[show((Qg x.eps x.delta x.box x.pts x.cert).any fun x=>!XK x)=false from by rw[← List.not_all_eq_any_not,hf];rfl,← gr (hm _ (by simp[Qg])) (hm _ (by simp[Qg]))]
   cases (x.ps.length:Int) != QT x.kind x.vars<;>cases Jp x.box.length x.pts x.vars (nX x.kind)<;>cases Zw (Qv x.box.length x.pts.length) x.cert<;>cases x.ps.any (Qz x.vars)<;>cases x.rules.any (Qz x.vars)<;>cases X5 (nS x.kind) (nR x.kind) (nC x.kind) x.eps x.delta x.rules.length x.budget x.cert.length<;>rfl
  | false =>
   rw[show((Qg x.eps x.delta x.box x.pts x.cert).any fun x=>!XK x)=true from by rw[← List.not_all_eq_any_not,hf];rfl,U3]
   cases (x.ps.length:Int) != QT x.kind x.vars<;>cases Jp x.box.length x.pts x.vars (nX x.kind)<;>cases Zw (Qv x.box.length x.pts.length) x.cert<;>cases (x.ps.any (Qz x.vars)||x.rules.any (Qz x.vars))<;>rfl
def K3(vars:Int)(nr nc:Nat)(budget:Int)(fa go:Bool): Bool:=JM vars nr nc budget&&(!fa&&!go)
theorem dW(x:PV): K3 x.vars x.rules.length x.cert.length x.budget ((Qg x.eps x.delta x.box x.pts x.cert).any Xy) ((GT x).any fun p=>!XG p)=Q5 x:=by
 unfold K3 Q5
 rw[← List.not_all_eq_any_not,Bool.not_not,List.not_any_eq_all_not]
noncomputable def chkN(x:PV): Int:=ZO (Xr x) (Q5 x) x.box.length (BH x.pts x.vars.toNat) (XD x.box)
theorem PP{p:List Nm}{x:Nm}(h:p∈pts)(hx:x∈p): x∈Qg eps delta bx pts ct:=by
 unfold Qg
 simp only[Rj,U9]
 left;right
 exact⟨p,h,hx⟩
theorem CB{x:PV}(h:Xr x=true)(hb:x.box.length=0): ∃N:Nat,x.vars=(N:Int)∧1≤N∧x.pts.length=N+1∧∀j,j<N+1→(Qe x.pts j).length=N:=by
 unfold Xr at h
 have h1:=(L6.1 h).1
 unfold Jl at h1
 have hf:Jp x.box.length x.pts x.vars (nX x.kind)=true:=by
  cases e:Jp x.box.length x.pts x.vars (nX x.kind)with
  | true=>rfl
  | false =>
   rw[e]at h1
   revert h1
   cases QT x.kind x.vars==0<;>cases (x.ps.length:Int) != QT x.kind x.vars<;>intro h<;>simp at h
 have hv:1≤x.vars:=by
  cases e:QT x.kind x.vars==0 with
  | true=>rw[e]at h1;exact absurd h1 (by simp)
  | false =>
   unfold QT at e
   by_cases hh:x.kind<1∨7≤x.kind∨x.vars<1
   ·rw[if_pos hh]at e;cases e
   ·omega
 unfold Jp at hf
 rw[hb]at hf
 cases e:nX x.kind with
 | true =>
  rw[e]at hf
  simp at hf
  omega
 | false =>
  rw[e]at hf
  simp only[Bool.or_false,show decide ((((0:Nat):Nat):Int)>0)=false from rfl,cond_false,R8,Rg,Bool.not_eq_true']at hf
  refine⟨x.vars.toNat,by omega,by omega,by omega,fun j hj=>?_⟩
  have h2:QB x.vars (Qe x.pts j)=false:=by
   cases e2:QB x.vars (Qe x.pts j)with
   | false=>rfl
   | true =>
    have h3:=(anyB_iff (f:=fun j=>QB x.vars (Qe x.pts j))).2 ⟨j,(by omega:j<x.pts.length),e2⟩
    rw[hf.2]at h3
    cases h3
  unfold QB at h2
  simp at h2
  omega
theorem F1{x:PV}(h:Q5 x=true): x.vars≤4:=by
 unfold Q5 at h
 have h6:=(L6.1 h).1
 unfold JM at h6
 cases e:decide (x.vars>4)with
 | true=>simp only[e]at h6;cases h6
 | false=>have:=La e;omega
theorem fe{lo:Nat}(x:PV)(h:okX x)(w:World)(hT:Yk w)(hF:Five lo w x vb vs vp vr vc): RetAt prog w 10 #[yA x vb vs vp vr vc] (.int .i64 (chkN x)):=by
 refine RL (t:=BH x.pts x.vars.toNat) x h w hT hF fun W hW h1 h2 h0=>?_
 obtain⟨N,hv,hn1,hpn,hpl⟩:=CB h1 h0
 have h4:=F1 h2
 have ht:=aR (lo:=lo) hpn hpl (fun p hp q hq=>h.o.nums q (PP hp hq)) hn1 (by omega) W (Qn hT hW) (hF.s.below (Oi lo) hW)
 rw[show N=x.vars.toNat by omega]at ht
 exact ht
abbrev dM:Type:=List Nm×Option Addr×Nat
def jG(x:dM): List Value:=[.slice x.2.1 x.1.length x.2.2]
theorem PT(x:dM): (jG x).length=1:=rfl
def Kc:dM:=([],none,0)
abbrev dA:Type:=Nd×Option Addr×Nat
def jF(x:dA): List Value:=[.int .i64 x.1.split,.bool x.1.scale.b,.string x.1.scale.s,.int .i64 x.1.scale.e,.int .i64 x.1.sum.vars,.slice x.2.1 x.1.sum.ts.length x.2.2]
theorem PH(x:dA): (jF x).length=6:=rfl
def Yw:dA:=(lk,none,0)
def Rw{α:Type}(w:World)(k:Nat)(c:α→List Value)(d:α)(l:List α)(A:Option Addr)(cp:Nat): Prop:=RdK w A l.length k (fun j=>c (l.getD j d))∧(A=none→l.length=0∧cp=0)
theorem Rw.below{w w':World}{k:Nat}{c:α→List Value}{d:α}{l:List α}{A:Option Addr}{cp:Nat}(hc:∀x,(c x).length=k)(h:Rw w k c d l A cp)(hb:Below w.heap.size w w'): Rw w' k c d l A cp:=⟨h.1.below (fun _=>hc _) hb,h.2⟩
section
variable {P:Program} {w0:World}
theorem IL{tt:List (Nat×TI)}(hT:YF P tt)(hm:P.follows .mixedOrders=true){f:FuncId}{fn:Func}(he:Yf P f)(hf:P.funcs[f]?=some fn){N:Nat}(hn:fn.ntmps=N)(hr:fn.results=rs)(args:List Value)(hl:Nat.ble args.length N=true)(val:β→Value)(ρ:β→Res)(E:SV→St→Prop)(d:List Dir){T:World→Prop}(h:∀W,Below w0.heap.size w0 W→T W)(hk:∀W,T W=Am P tt W fn (MR N args) d fun e σ _=>JX tt rs.toList e σ fun s=>E s σ)(hE:∀W s σ,E s σ→∀r a w',Sat W σ r a w'→∃y x S,s.den r=val y∧(ρ y).φ x S w'∧∀b,S b→W.heap.size≤b∧b<w'.heap.size): NewIn P w0 [] f args.toArray val ρ:=by
 refine⟨he,fun W hW=>?_⟩
 have h2:=IB (w0:=W) (Z:=fun v w'=>∃y x S,v=val y∧(ρ y).φ x S w'∧∀b,S b→W.heap.size≤b∧b<w'.heap.size) hT hm hf hn hr args hl d (h W hW) (hk W) (hE W)
 refine h2.mono fun e w' hh=>?_
 obtain⟨v,rfl,⟨y,x,S,rfl,k1,k2⟩,k3⟩:=hh
 exact⟨y,x,S,rfl,k1,k2,k3⟩
end
theorem Oh{w w':World}{a:Addr}(h:w'.heap[a.block]?=w.heap[a.block]?)(hc:w.cell? a=some u): w'.cell? a=some u:=by
 unfold World.cell? at hc ⊢
 rw[h]
 exact hc
theorem bb{w:World}{a:Addr}(hc:w.cell? a=some u): a.block<w.heap.size:=by
 rcases Ra a.block w.heap.size with h|h
 ·exact h
 ·unfold World.cell? at hc
  rw[Array.getElem?_eq_none h]at hc
  cases hc
theorem SlV.frz{lo k:Nat}{p:Rdg α}{w w':World}{l:List α}(hb:∀b,lo≤b→b<w.heap.size→w'.heap[b]?=w.heap[b]?)(hp:∀x cs,p w x cs→p w' x cs)(h:SlV lo k p w l v): SlV lo k p w' l v:=by
 obtain⟨A,c,h1,h2,h3,h4⟩:=h
 refine⟨A,c,h1,h2,h3,fun h0=>?_⟩
 obtain⟨b,off,e,hlo,hc⟩:=h4 h0
 refine⟨b,off,e,hlo,fun i hi=>?_⟩
 obtain⟨cs,hk,hx,hj⟩:=hc i hi
 refine⟨cs,hk,hp _ _ hx,fun j hjk=>?_⟩
 have h5:=hj j hjk
 obtain⟨u,hu⟩:∃u,cs[j]?=some u:=⟨_,List.getElem?_eq_getElem (by rw[hk];exact hjk)⟩
 rw[hu]at h5 ⊢
 exact Oh (hb b hlo (bb h5)) h5
theorem Five.frz{lo:Nat}{w w':World}{x:PV}(hb:∀b,lo≤b→b<w.heap.size→w'.heap[b]?=w.heap[b]?)(h:Five lo w x vb vs vp vr vc): Five lo w' x vb vs vp vr vc :=
 ⟨h.b.frz hb fun _ _ h=>h,h.s.frz hb fun _ _ ⟨v,h1,h2⟩=>⟨v,h1,h2.frz hb fun _ _ h=>h⟩,h.p.frz hb fun _ _ ⟨v,h1,h2⟩=>⟨v,h1,h2.frz hb fun _ _ h=>h⟩,h.r.frz hb fun _ _ ⟨v,h1,h2⟩=>⟨v,h1,h2.frz hb fun _ _ h=>h⟩,h.c.frz hb fun _ _ ⟨v,h1,h2⟩=>⟨v,h1,h2.frz hb fun _ _ h=>h⟩⟩
abbrev Pp:Type:=Hp×Hp×Hp×Hp×Hp
def ap(x:PV)(y:Pp): Res where
 φ v S w:=v.oneCell'=true∧∃lo w0,Five lo w0 x (.slice y.1.1 x.box.length y.1.2) (.slice y.2.1.1 x.pts.length y.2.1.2) (.slice y.2.2.1.1 x.ps.length y.2.2.1.2) (.slice y.2.2.2.1.1 x.rules.length y.2.2.2.1.2) (.slice y.2.2.2.2.1 x.cert.length y.2.2.2.2.2)∧(∀b,S b↔lo≤b∧b<w0.heap.size)∧∀b,S b→w.heap[b]?=w0.heap[b]?
 one _ _ _ h:=h.1
 loc x S w w' h hφ:=by
  obtain⟨h1,lo,w0,h2,h3,h4⟩:=hφ
  exact⟨h1,lo,w0,h2,h3,fun b hb=>(h b hb).trans (h4 b hb)⟩
theorem WT{x:PV}{y:Pp}{S:Nat→Prop}{w:World}(h:(ap x y).φ v S w): ∃lo,Five lo w x (.slice y.1.1 x.box.length y.1.2) (.slice y.2.1.1 x.pts.length y.2.1.2) (.slice y.2.2.1.1 x.ps.length y.2.2.1.2) (.slice y.2.2.2.1.1 x.rules.length y.2.2.2.1.2) (.slice y.2.2.2.2.1 x.cert.length y.2.2.2.2.2):=by
 obtain⟨h1,lo,w0,h2,h3,h4⟩:=(show _∧_ from h)
 exact⟨lo,h2.frz fun b hb hl=>h4 b ((h3 b).2 ⟨hb,hl⟩)⟩
theorem kd{l:List dM}{j:Nat}(h:j<(l.map (fun x=>x.1)).length): (l.map (fun x=>x.1))[j]=(l.getD j Kc).1:=by
 rw[Su,Xg (by simpa using h)]
theorem IS{l:List Xl}{j:Nat}(h:j<(l.map (fun x=>x.1)).length): (l.map (fun x=>x.1))[j]=(l.getD j Qo).1:=by
 rw[Su,Xg (by simpa using h)]
theorem WR{l:List dA}{j:Nat}(h:j<(l.map (fun x=>x.1)).length): (l.map (fun x=>x.1))[j]=(l.getD j Yw).1:=by
 rw[Su,Xg (by simpa using h)]
theorem Jh{l:List α}{j:Nat}{d:α}(h:j<l.length): l.getD j d∈l:=by
 rw[Xg h];exact Sa h
structure smallX (x:PV):Prop where
 box:x.box.length≤1048576
 pts:x.pts.length≤1048576
 ps:x.ps.length≤1048576
 rules:x.rules.length≤1048576
 cert:x.cert.length≤1048576
 pt:∀p,p∈x.pts→p.length≤1048576
 p:∀p,p∈x.ps→p.ts.length≤1048576
 rule:∀p,p∈x.rules→p.ts.length≤1048576
 node:∀p,p∈x.cert→p.sum.ts.length≤1048576
 mono:∀p,p∈GT x→∀t,t∈p.ts→t.m.size≤1048576
 hv:-9223372036854775808≤x.vars∧x.vars≤9223372036854775807
def WM(ps:List Py)(k:Nat): Nat:=((ps.take k).map (fun p:Py=>p.ts.length)).sum
def gw(x:PV): List Nm:=Qg x.eps x.delta x.box x.pts x.cert++(GT x).flatMap fun p=>p.ts.map (fun t:Tm=>t.c)
def B8(x:PV): Bool :=
 bif decide ((x.box.length:Int)>6)then true else bif decide ((x.pts.length:Int)>6)then true else bif decide (((x.ps.length+x.rules.length:Nat):Int)>20)then true else bif decide ((x.cert.length:Int)>100)then true else
 bif Q3 (GT x).length (fun i=>decide (((WM (GT x) (i+1):Nat):Int)>300))then true else bif Q3 (gw x).length (fun i=>ZK (List.getD (gw x) i nm0))then true else Q3 x.pts.length (fun j=>decide ((((Qe x.pts j).length:Nat):Int)>6))
theorem Wu(ps:List Xl)(k:Nat): XR ps k=WM (ps.map fun x:Xl=>x.1) k:=by
 unfold XR WM
 rw[← List.map_take,List.map_map]
 rfl
theorem Hr(f:Nat→α)(g:Nat→β)(n:Nat): ((List.range n).map fun j=>(f j,g j)).map (fun x=>x.1)=(List.range n).map f:=by
 rw[List.map_map];rfl
theorem DV(f:Nat→α)(d:α){n j:Nat}(h:j<n): ((List.range n).map f).getD j d=f j:=by
 rw[Xg (by simpa using h)];simp
theorem Ik(l:List α)(d:α): (List.range l.length).map (fun j=>l.getD j d)=l:=by
 apply List.ext_getElem?
 intro j
 by_cases hj:j<l.length
 ·rw[List.getElem?_map,List.getElem?_range hj,List.getElem?_eq_getElem hj,T4,Xg hj]
 ·rw[List.getElem?_eq_none (by simp;omega),List.getElem?_eq_none (by omega)]
section
variable {lo:Nat} {x:PV} {Ab As Ap Ar Ac:Option Addr} {cb cs kp kr cc:Nat}
theorem lx(hx:smallX x)(w:World)(hF:Five lo w x (.slice Ab x.box.length cb) (.slice As x.pts.length cs) (.slice Ap x.ps.length kp) (.slice Ar x.rules.length kr) (.slice Ac x.cert.length cc)): RetAt prog w 7 #[xA x Ab cb As cs Ap kp Ar kr Ac cc] (.bool (B8 x)):=by
 obtain⟨A1,A2,A3,A4,A5,c1,c2,c3,c4,c5,Us,Up,Ur,Uc,us,up,ur,uc,q1,q2,q3,q4,q5,hR⟩:=Bn hF
 obtain⟨rfl,_,rfl⟩:=K8 q1
 obtain⟨rfl,_,rfl⟩:=K8 q2
 obtain⟨rfl,_,rfl⟩:=K8 q3
 obtain⟨rfl,_,rfl⟩:=K8 q4
 obtain⟨rfl,_,rfl⟩:=K8 q5
 have hmap:=Ef (x:=x) (Up:=Up) (Ur:=Ur) (Uc:=Uc) (up:=up) (ur:=ur) (uc:=uc)
 have hlen:(KO (KG x.ps Up up) (KG x.rules Ur ur) x.cert Uc uc).length=(GT x).length:=by rw[← hmap,Ri]
 have htm:∀y,y∈KO (KG x.ps Up up) (KG x.rules Ur ur) x.cert Uc uc→y.1.ts.length≤1048576:=fun y hy=>by
  have h6:y.1∈GT x:=by rw[← hmap];exact R5.2 ⟨y,hy,rfl⟩
  unfold GT at h6
  simp only[Rj,R5]at h6
  rcases h6 with(h6|h6)|⟨n,h6,h7⟩
  ·exact hx.p _ h6
  ·exact hx.rule _ h6
  ·rw[← h7];exact hx.node _ h6
 have hw:=lM (lo:=lo) (eps:=x.eps) (delta:=x.delta) (kind:=x.kind) (vars:=x.vars) (budget:=x.budget) (cb:=cb) (cs:=cs) (cc:=cc) (kp:=kp) (kr:=kr) (Ap:=Ap) (Ar:=Ar) (l1:=KG x.ps Up up) (l2:=KG x.rules Ur ur) (Ua:=Uc) (Uc:=uc) (bx:=x.box) (pts:=x.pts) (ct:=x.cert) (Us:=Us) (us:=us) rfl rfl ⟨hx.box,hx.pts,hx.pt,hx.cert⟩ (by rw[XF];exact hx.ps) (by rw[XF];exact hx.rules) htm w hR.b hR.s hR.sp hR.c hR.q1 hR.r1 hR.X
 have hfl:(KO (KG x.ps Up up) (KG x.rules Ur ur) x.cert Uc uc).flatMap (fun p=>p.1.ts.map (fun t:Tm=>t.c))=(GT x).flatMap fun p=>p.ts.map (fun t:Tm=>t.c):=by rw[← hmap,List.flatMap_map]
 have hv:KE x.box.length x.pts.length (KG x.ps Up up).length (KG x.rules Ur ur).length x.cert.length (KO (KG x.ps Up up) (KG x.rules Ur ur) x.cert Uc uc) (Qg x.eps x.delta x.box x.pts x.cert++(KO (KG x.ps Up up) (KG x.rules Ur ur) x.cert Uc uc).flatMap fun p=>p.1.ts.map (fun t:Tm=>t.c)) x.pts=B8 x:=by
  unfold KE B8 gw
  simp only[Wu,hmap,hlen,hfl,XF]
 rw[hv,XF,XF]at hw
 exact hw
structure OwnH (x:PV) (w:World) (Ab As Ap Ar Ac:Option Addr) (cb cs kp kr cc:Nat) (p1:List dM) (l1 l2:List Xl) (nd:List dA):Prop where
 e0:p1.length=x.pts.length
 e1:l1.length=x.ps.length
 e2:l2.length=x.rules.length
 e3:nd.length=x.cert.length
 m0:p1.map (fun x:dM=>x.1)=x.pts
 m1:l1.map (fun x:Xl=>x.1)=x.ps
 m2:l2.map (fun x:Xl=>x.1)=x.rules
 m3:nd.map (fun x:dA=>x.1)=x.cert
 bs:p1.length≤1048576
 bp:∀x,x∈p1→x.1.length≤1048576
 bq:l1.length≤1048576
 bt:∀x,x∈l1→x.1.ts.length≤1048576
 bu:l2.length≤1048576
 bv:∀x,x∈l2→x.1.ts.length≤1048576
 bc:nd.length≤1048576
 bn:∀x,x∈nd→x.1.sum.ts.length≤1048576
 hb:Rw w 6 YH (nm0,nm0) x.box Ab cb
 hs:Rw w 1 jG Kc p1 As cs
 hp:∀x,x∈p1→Rw w 3 QF nm0 x.1 x.2.1 x.2.2
 hq:Rw w 2 QO Qo l1 Ap kp
 hqs:∀x,x∈l1→Rw w 4 Q7 GS x.1.ts x.2.1 x.2.2
 hu:Rw w 2 QO Qo l2 Ar kr
 hus:∀x,x∈l2→Rw w 4 Q7 GS x.1.ts x.2.1 x.2.2
 hc:Rw w 6 jF Yw nd Ac cc
 hcs:∀x,x∈nd→Rw w 4 Q7 GS x.1.sum.ts x.2.1 x.2.2
theorem aA(hx:smallX x)(w:World)(hF:Five lo w x (.slice Ab x.box.length cb) (.slice As x.pts.length cs) (.slice Ap x.ps.length kp) (.slice Ar x.rules.length kr) (.slice Ac x.cert.length cc)): ∃p1 l1 l2 nd,OwnH x w Ab As Ap Ar Ac cb cs kp kr cc p1 l1 l2 nd:=by
 obtain⟨kind,vars,box,pts,ps,rules,eps,delta,budget,cert⟩:=x
 obtain⟨fb,fs,fp,fr,fc⟩:=hF
 obtain⟨A1,c1,q1,_,nb,hB⟩:=SlV.enc (nm0,nm0) fb
 obtain⟨A2,c2,Us,us,q2,_,ns,hS,hP⟩:=SlV.rdPt2 fs
 obtain⟨A3,c3,Up,up,q3,_,np,hQ,hQs⟩:=SlV.rdPy2 fp
 obtain⟨A4,c4,Ur,ur,q4,_,nr,hU,hUs⟩:=SlV.rdPy2 fr
 obtain⟨A5,c5,Uc,uc,q5,_,nc,hC,hN⟩:=SlV.rdNd2 fc
 obtain⟨rfl,_,rfl⟩:=K8 q1
 obtain⟨rfl,_,rfl⟩:=K8 q2
 obtain⟨rfl,_,rfl⟩:=K8 q3
 obtain⟨rfl,_,rfl⟩:=K8 q4
 obtain⟨rfl,_,rfl⟩:=K8 q5
 let p1:List dM:=(List.range pts.length).map fun j=>(Qe pts j,Us j,us j)
 let l1:List Xl:=(List.range ps.length).map fun j=>(QC ps j,Up j,up j)
 let l2:List Xl:=(List.range rules.length).map fun j=>(QC rules j,Ur j,ur j)
 let nd:List dA:=(List.range cert.length).map fun j=>(Qc cert j,Uc j,uc j)
 have e0:p1.length=pts.length:=by simp[p1]
 have e1:l1.length=ps.length:=by simp[l1]
 have e2:l2.length=rules.length:=by simp[l2]
 have e3:nd.length=cert.length:=by simp[nd]
 have m0:p1.map (fun x:dM=>x.1)=pts:=(Hr _ _ _).trans (Ik pts [])
 have m1:l1.map (fun x:Xl=>x.1)=ps:=(Hr _ _ _).trans (Ik ps jk)
 have m2:l2.map (fun x:Xl=>x.1)=rules:=(Hr _ _ _).trans (Ik rules jk)
 have m3:nd.map (fun x:dA=>x.1)=cert:=(Hr _ _ _).trans (Ik cert lk)
 have key:∀(l:List Tm) (A:Option Addr) (c:Nat),SlV lo 4 Zl w l (.slice A l.length c)→Rw w 4 Q7 GS l A c:=fun l A c hh=>by
  obtain⟨A',c',e,_,hn,hr⟩:=SlV.enc GS hh
  obtain⟨rfl,_,rfl⟩:=K8 e
  exact⟨hr,hn⟩
 exact⟨p1,l1,l2,nd,e0,e1,e2,e3,m0,m1,m2,m3,(by rw[e0];exact hx.pts),(fun x h=>by obtain⟨j,hj,rfl⟩:=R5.1 h;exact hx.pt _ (Yr (Lm.1 hj))),(by rw[e1];exact hx.ps),(fun x h=>by obtain⟨j,hj,rfl⟩:=R5.1 h;exact hx.p _ (VT (Lm.1 hj))),(by rw[e2];exact hx.rules),(fun x h=>by obtain⟨j,hj,rfl⟩:=R5.1 h;exact hx.rule _ (VT (Lm.1 hj))),(by rw[e3];exact hx.cert),(fun x h=>by obtain⟨j,hj,rfl⟩:=R5.1 h;exact hx.node _ (JC (Lm.1 hj))),
  ⟨hB,nb⟩,⟨by rw[e0];exact hS.congr fun j hj=>by rw[show p1.getD j Kc=(Qe pts j,Us j,us j)from DV _ _ hj];rfl,by rw[e0];exact ns⟩,(fun x h=>by
   obtain⟨j,hj,rfl⟩:=R5.1 h
   obtain⟨A',c',e,_,hn,hr⟩:=SlV.enc nm0 (hP j (Lm.1 hj))
   obtain⟨rfl,_,rfl⟩:=K8 e
   exact⟨hr,hn⟩),
  ⟨by rw[e1];exact hQ.congr fun j hj=>by rw[show l1.getD j Qo=(QC ps j,Up j,up j)from DV _ _ hj];rfl,by rw[e1];exact np⟩,(fun x h=>by obtain⟨j,hj,rfl⟩:=R5.1 h;exact key _ _ _ (hQs j (Lm.1 hj))),
  ⟨by rw[e2];exact hU.congr fun j hj=>by rw[show l2.getD j Qo=(QC rules j,Ur j,ur j)from DV _ _ hj];rfl,by rw[e2];exact nr⟩,(fun x h=>by obtain⟨j,hj,rfl⟩:=R5.1 h;exact key _ _ _ (hUs j (Lm.1 hj))),
  ⟨by rw[e3];exact hC.congr fun j hj=>by rw[show nd.getD j Yw=(Qc cert j,Uc j,uc j)from DV _ _ hj];rfl,by rw[e3];exact nc⟩,(fun x h=>by obtain⟨j,hj,rfl⟩:=R5.1 h;exact key _ _ _ (hN j (Lm.1 hj)))⟩
end
def dE:Res:=⟨fun x S _=>x=.bool false∧∀b,¬ S b,fun _ _ _ h=>by rw[h.1];rfl,fun _ _ _ _ _ h=>h⟩
theorem UA:ES dE:=fun _ _ _ h b hb=>absurd hb (h.2 b)
section
variable {P:Program} {w0:World}
theorem Ii{e m n t i o:Nat}{ti:TI}{L L':LP}{A:Option Addr}{cp:Nat}{vs:List Value}(hi:XT P t=some ti)(hv:v.cells.toList=vs)(hs:vs.length=ti.size)(hin:i<n)(ho:o+vs.length≤m)(h1:∀u,u∈vs→u.oneCell'=true)(hL:∀j,j<n→j≠i→∀S w cs,L.p j S w cs→L'.p j S w cs)(hL2:∀S w cs,cs.length=m→L.p i S w cs→L'.p i S w (VR cs o vs)):
  ∀W x S,(QN e m n L A cp).φ x S W→VP P W (fun _:Unit=>undef) (fun _:Unit=>QN e m n L' A cp) x S (FU t [.pointer (some (QJ A (i*m+o))),v]):=fun W x S hφ =>
 TX (R2:=dE) hi hv hs hin ho h1 UA hL (fun S1 S2 x2 w cs hl h _=>L'.mono i S1 _ _ _ (fun b hb=>.inl hb) (hL2 S1 w cs hl h)) W x S (show ∃S1 S2 x2,_ from⟨S,fun _=>False,.bool false,hφ,⟨rfl,fun _ h=>h⟩,fun _ _ h=>h,fun b=>⟨fun h=>.inl h,fun h=>h.elim id False.elim⟩⟩)
theorem I6{S S':Nat→Prop}{w w':World}(h:Trn S w w')(hs:∀b,S b→S' b): Trn S' w w':=⟨h.os,h.tape,h.output,h.size,fun k hk hn=>h.block k hk fun e=>hn (hs k e)⟩
theorem AQ{val:β→Value}{R1':β→Res}(hF:ES R2)(h:∀W,Below w0.heap.size w0 W→∀x S,R1.φ x S W→VP P W val R1' x S m): ∀W,Below w0.heap.size w0 W→∀x S,(QD R1 R2).φ x S W→VP P W val (fun y=>QD (R1' y) R2) x S m:=fun W hW x S hφ=>by
 obtain⟨S1,S2,x2,h1,h2,h3,h4⟩:=(show ∃S1 S2 x2,_ from hφ)
 obtain⟨y,S',w',k1,k2,k3,k4⟩:=h W hW x S1 h1
 have hlt:∀b,S2 b→b<W.heap.size:=hF _ _ _ h2
 have hn:∀b,S2 b→¬ S1 b:=fun b hb hb1=>h3 b hb1 hb
 refine⟨y,fun b=>S' b∨S2 b,w',k1,I6 k2 fun b hb=>(h4 b).2 (.inl hb),(show ∃S1 S2 x2,_ from⟨S',S2,x2,k3,R2.loc _ _ _ _ (fun b hb=>k2.block b (hlt b hb) (hn b hb)) h2,fun b hb hb2=>?_,fun b=>Iff.rfl⟩),fun b hb=>?_⟩
 ·rcases(k4 b hb).1 with h5|h5
  ·exact hn b hb2 h5
  ·exact absurd (hlt b hb2) (Nat.not_lt.2 h5)
 ·rcases hb with hb|hb
  ·exact⟨(k4 b hb).1.imp (fun h=>(h4 b).2 (.inl h)) id,(k4 b hb).2⟩
  ·exact⟨.inl ((h4 b).2 (.inr hb)),Lb (hlt b hb) k2.size⟩
theorem PE{val:β→Value}{R2':β→Res}(hF:ES R1)(h:∀W,Below w0.heap.size w0 W→∀x S,R2.φ x S W→VP P W val R2' x S m): ∀W,Below w0.heap.size w0 W→∀x S,(QD R1 R2).φ x S W→VP P W val (fun y=>QD R1 (R2' y)) x S m:=fun W hW x S hφ=>by
 obtain⟨S1,S2,x2,h1,h2,h3,h4⟩:=(show ∃S1 S2 x2,_ from hφ)
 obtain⟨y,S',w',k1,k2,k3,k4⟩:=h W hW x2 S2 h2
 have hlt:∀b,S1 b→b<W.heap.size:=hF _ _ _ h1
 refine⟨y,fun b=>S1 b∨S' b,w',k1,I6 k2 fun b hb=>(h4 b).2 (.inr hb),(show ∃S1 S2 x2,_ from⟨S1,S',x2,R1.loc _ _ _ _ (fun b hb=>k2.block b (hlt b hb) (h3 b hb)) h1,k3,fun b hb hb2=>?_,fun b=>Iff.rfl⟩),fun b hb=>?_⟩
 ·rcases(k4 b hb2).1 with h5|h5
  ·exact h3 b hb h5
  ·exact absurd (hlt b hb) (Nat.not_lt.2 h5)
 ·rcases hb with hb|hb
  ·exact⟨.inl ((h4 b).2 (.inl hb)),Lb (hlt b hb) k2.size⟩
  ·exact⟨(k4 b hb).1.imp (fun h=>(h4 b).2 (.inr h)) id,(k4 b hb).2⟩
theorem MA(h1:ES R1)(h2:ES R2): ES (QD R1 R2):=fun x S w hφ b hb=>by
 obtain⟨S1,S2,x2,k1,k2,_,k4⟩:=(show ∃S1 S2 x2,_ from hφ)
 exact((k4 b).1 hb).elim (h1 _ _ _ k1 b) (h2 _ _ _ k2 b)
theorem bf{M:Sem Value}{R:Value}(h:Cy P w0 [R1] M R): Cy P w0 [QD R1 R2] M R:=fun W hW x S hφ=>by
 obtain⟨S1,S2,x2,k1,_⟩:=(show ∃S1 S2 x2,_ from hφ)
 exact h W hW x S1 k1
theorem No{t t2 ty e k bytes:Nat}{c:α→List Value}{l l':List α}{A:Option Addr}{cp:Nat}(hT:RowT P t t2 e k bytes)(hc:∀x,(c x).length=k)(h1:∀x u,u∈c x→u.oneCell'=true)(d:α)(hne:0<l.length)(hl:l++l=l')(hb:l'.length*bytes≤140737488355328):
  ∀W,Below w0.heap.size w0 W→∀x S,(Qd e k c l A cp).φ x S W→VP P W (fun y:Hp=>.slice y.1 l'.length y.2) (fun y:Hp=>Qd e k c l' y.1 y.2) x S (Kt .append #[t,t2] ty [.slice A l.length cp,.slice A l.length cp]):=fun W _ x S hφ=>by
 have hr:=bM hc d (show _∨_ from .inl hφ)
 exact AT hT hc h1 hl hb (ZA hc hT.hk (d:=d) hr fun hA=>by obtain⟨b,off,e2,_⟩:=hr hne;rw[hA]at e2;cases e2) hφ
theorem lB{t:TypeId}{i:TypeInfo}{z:Value}(ht:P.underlying t=some (.slice e))(hi:P.info? e=some i)(hz:i.zero=some z)(hs:i.size=1)(hb:i.bytes≤281474976710656)(hzc:z.cells=#[z]):
  Id P w0 [] (fun y:Nat=>.slice (some ⟨y,0,none⟩) 1 1) (fun y:Nat=>QN e 1 1 (LP.known fun _=>[z]) (some ⟨y,0,none⟩) 1) (Instr.makeSlice t (.int .i64 1) (.int .i64 1)):=fun W _=>by
 show NL P W _ _ _
 obtain⟨w',h1,h2,h3⟩:=run_makeSlice_full (P:=P) W W.heap.size t e i z 1 ht hi hz hs .i64 .i64 1 (by decide) (by omega) (by decide) (L3 _)
 have h4:(madeCells z.cells (1*1)).toList=(List.range 1).flatMap (fun _=>[z]):=by
  rw[hzc];simp[madeCells,Array.range,List.range,List.range.loop]
 rw[h4]at h2
 refine⟨W.heap.size,.bool false,fun b=>(Value.slice (some ⟨W.heap.size,0,none⟩) 1 1).ownBlock=some b,w',h1,⟨h3.os,h3.tape,h3.output,h3.size,fun k hk=>h3.block k hk (by simp)⟩,(show _∧_ from⟨rfl,fun _=>[z],fun _=>False,fun _=>rfl,h2.mono (L9 _),fun i hi=>rfl,fun _ h=>h.elim,fun b=>⟨.inl,fun h=>h.elim id False.elim⟩⟩),fun b hb=>h2.lt b hb⟩
theorem gc{src dst e2:TypeId}(hs:P.underlying src=some (.slice e))(he:P.underlying e=some (.int .u8))(hd:P.underlying dst=some .string){A:Option Addr}{cp:Nat}{b:Nat}{s:ByteArray}(hb:s=⟨#[UInt8.ofNat b]⟩): Cy P w0 [QN e2 1 1 (LP.known fun _=>[.int .u8 (b:Int)]) A cp] (Go.convert src dst (.slice A 1 cp)) (.string s) :=
 Ho fun W f S2 hr hp=>fun W' hW'=>by
  have h1:RdK W A 1 1 (fun _=>[.int .u8 (b:Int)]):=RdK.congr hr fun j hj=>by
   obtain rfl:j=0:=by omega
   exact hp 0 (by decide)
  have h2:=RdK.below (k:=1) (f:=fun _=>[.int .u8 (b:Int)]) (fun _=>rfl) h1 hW'
  have h3:Rd W' A 1 (fun _=>.int .u8 (b:Int)):=fun h0=>by
   obtain⟨g,off,e,hc⟩:=h2 h0
   refine⟨g,off,e,fun j hj=>?_⟩
   obtain rfl:j=0:=by omega
   exact hc 0 (by decide) 0 (by decide)
  rw[Vm (P:=P) src dst e hs he hd A 1 cp (fun _=>b) h3,hb]
  rfl
end
def n1:Nm:=⟨false,⟨#[1]⟩,0⟩
theorem nH(W:World)(x y:Operand): Qt prog W (do eqGuard .eql 9 x y (.string ⟨#[1]⟩) (.string ⟨#[]⟩);binOp .eql 9 (.string ⟨#[1]⟩) (.string ⟨#[]⟩)) (.bool false):=fun W' _=>by
 simp[go_sem,Tu]
theorem nF(W:World)(x y:Operand): Qt prog W (do eqGuard .eql 9 x y (.string ⟨#[]⟩) (.string ⟨#[]⟩);binOp .eql 9 (.string ⟨#[]⟩) (.string ⟨#[]⟩)) (.bool true):=fun W' _=>by
 simp[go_sem]
theorem mW(P:Program)(w0:World)(t:TypeId)(x y:Operand): Qt P w0 (do eqGuard .rem t x y (.int .u8 1) (.int .u8 2);binOp .rem t (.int .u8 1) (.int .u8 2)) (.int .u8 1):=fun W _=>by
 simp[eqGuard,binOp,go_sem]
theorem oM(W:World): RetAt prog W 83 #[.agg #[.bool false,.string ⟨#[]⟩]] (.agg #[.bool false,.string ⟨#[]⟩]):=rc W (fun a w=>call83 a w) fun W=>by
 have c:=YI ⟨#[]⟩ false W (by decide)
 rwa [show neg (Qb false (Qa ⟨#[]⟩))=false from by kernel_rfl,show Qh (Qb false (Qa ⟨#[]⟩))=⟨#[]⟩from by kernel_rfl]at c
theorem oo(W:World): RetAt prog W 83 #[.agg #[.bool false,.string ⟨#[1]⟩]] (.agg #[.bool false,.string ⟨#[1]⟩]):=rc W (fun a w=>call83 a w) fun W=>by
 have c:=YI ⟨#[1]⟩ false W (by decide)
 rwa [show neg (Qb false (Qa ⟨#[1]⟩))=false from by kernel_rfl,show Qh (Qb false (Qa ⟨#[1]⟩))=⟨#[1]⟩from by kernel_rfl]at c
theorem nU(W:World): RetAt prog W 52 #[.int .i64 0] (.agg #[.bool false,.string ⟨#[]⟩]):=rc W (fun a w=>call52 a w) fun W=>by
 have c:=Bd 0 W (by decide) (by decide)
 rwa [show neg 0=false from by kernel_rfl,show Qh 0=⟨#[]⟩from by kernel_rfl]at c
theorem jC(W:World): RetAt prog W 52 #[.int .i64 1] (.agg #[.bool false,.string ⟨#[1]⟩]):=rc W (fun a w=>call52 a w) fun W=>by
 have c:=Bd 1 W (by decide) (by decide)
 rwa [show neg 1=false from by kernel_rfl,show Qh 1=⟨#[1]⟩from by kernel_rfl]at c
theorem l7(W:World): RetAt prog W 108 #[.agg #[.bool false,.string ⟨#[1]⟩]] (.int .i64 1):=rc W (fun a w=>call108 a w) fun W=>by
 have c:=Df ⟨#[1]⟩ false W (by decide)
 rwa [show ZB (Qb false (Qa ⟨#[1]⟩))=1 from by kernel_rfl]at c
theorem oK  (w:World):RetAt prog w 51 #[.agg #[.bool false,.string ⟨#[]⟩],.int .i64 0] (.agg #[.bool false,.string ⟨#[]⟩,.int .i64 0]) :=
 Qi Qk mixed (fun a w=>call51 a w) func51 ntmps51 results51 _ rfl _ [.o 1 1 (.ret (.agg [bV false,sV ⟨#[]⟩])),.o 2 2 (.set (.bool true))] (fun W hW hR=>ZG (oM W) (nF W (.tmp 8) (.const (.string ⟨#[]⟩)))<|(show(.agg #[.bool false,.string ⟨#[]⟩,.int .i64 0]:Value)=.agg #[.bool false,.string ⟨#[]⟩,.int .i64 0]from rfl)) fun W=>by kernel_rfl
theorem kE  (w:World):RetAt prog w 51 #[.agg #[.bool false,.string ⟨#[1]⟩],.int .i64 0] (.agg #[.bool false,.string ⟨#[1]⟩,.int .i64 0]) :=
 Qi Qk mixed (fun a w=>call51 a w) func51 ntmps51 results51 _ rfl _ [.o 1 1 (.ret (.agg [bV false,sV ⟨#[1]⟩])),.o 2 2 (.set (.bool false)),.unr 1,.o 4 4 (.eq (iV 1)),.o 4 5 (.eq (iV 0)),.o 4 6 (.set (.int .u8 1)),.unr 1,.o 7 4 (.eq (iV 1)),.o 7 5 (.eq (iV 0)),.o 7 6 (.set (.int .u8 1)),.o 7 7 (.set (.int .u8 1))] (fun W hW hR=>Yz (oo W) (nH W (.tmp 8) (.const (.string ⟨#[]⟩))) (show(((⟨#[1]⟩:ByteArray).size:Int):Int)=1 from rfl) (show IntKind.i64.wrap (1-1)=0 from by decide) (CO W ⟨#[1]⟩ 0 (by decide)) (show(((⟨#[1]⟩:ByteArray).size:Int):Int)=1 from rfl) (show IntKind.i64.wrap (1-1)=0 from by decide) (CO W ⟨#[1]⟩ 0 (by decide))<|ai (mW prog W 5 (.tmp 35) (.const (.int .u8 2)))<|(show(.agg #[.bool false,.string ⟨#[1]⟩,.int .i64 0]:Value)=.agg #[.bool false,.string ⟨#[1]⟩,.int .i64 0]from rfl)) fun W=>by kernel_rfl
theorem kD  (w:World):RetAt prog w 72 #[.agg #[.bool false,.string ⟨#[1]⟩,.int .i64 0]] (.agg #[.bool false,.string ⟨#[1]⟩,.int .i64 0]) :=
 Qi Qk mixed (fun a w=>call72 a w) func72 ntmps72 results72 _ rfl _ [.o 1 4 (.ret (.agg [bV false,sV ⟨#[1]⟩,iV 0]))] (fun W hW hR=>ai (kE W)<|(show(.agg #[.bool false,.string ⟨#[1]⟩,.int .i64 0]:Value)=.agg #[.bool false,.string ⟨#[1]⟩,.int .i64 0]from rfl)) fun W=>by kernel_rfl
theorem oL  (w:World):RetAt prog w 82 #[.int .i64 1] (.agg #[.bool false,.string ⟨#[1]⟩,.int .i64 0]) :=
 Qi Qk mixed (fun a w=>call82 a w) func82 ntmps82 results82 _ rfl _ [.o 1 1 (.ret (.agg [bV false,sV ⟨#[1]⟩])),.o 1 2 (.ret (.agg [bV false,sV ⟨#[1]⟩,iV 0]))] (fun W hW hR=>ZG (jC W) (kE W)<|(show(.agg #[.bool false,.string ⟨#[1]⟩,.int .i64 0]:Value)=.agg #[.bool false,.string ⟨#[1]⟩,.int .i64 0]from rfl)) fun W=>by kernel_rfl
theorem kX  (w:World):RetAt prog w 73 #[.agg #[.bool false,.string ⟨#[1]⟩,.int .i64 0]] (.int .i64 1) :=
 Qi Qk mixed (fun a w=>call73 a w) func73 ntmps73 results73 _ rfl _ [.o 1 2 (.ret (iV 1))] (fun W hW hR=>ai (l7 W)<|(show(.int .i64 1:Value)=.int .i64 1 from rfl)) fun W=>by kernel_rfl
theorem dV  (w:World):RetAt prog w 19 #[.int .i64 0] (.agg #[.bool false,.string ⟨#[]⟩,.int .i64 0]) :=
 Qi Qk mixed (fun a w=>call19 a w) func19 ntmps19 results19 _ rfl _ [.o 1 1 (.ret (.agg [bV false,sV ⟨#[]⟩])),.o 1 2 (.ret (.agg [bV false,sV ⟨#[]⟩,iV 0]))] (fun W hW hR=>ZG (nU W) (oK W)<|(show(.agg #[.bool false,.string ⟨#[]⟩,.int .i64 0]:Value)=.agg #[.bool false,.string ⟨#[]⟩,.int .i64 0]from rfl)) fun W=>by kernel_rfl
theorem Fl  (w:World):RetAt prog w 19 #[.int .i64 1] (.agg #[.bool false,.string ⟨#[1]⟩,.int .i64 0]) :=
 Qi Qk mixed (fun a w=>call19 a w) func19 ntmps19 results19 _ rfl _ [.o 1 1 (.ret (.agg [bV false,sV ⟨#[1]⟩])),.o 1 2 (.ret (.agg [bV false,sV ⟨#[1]⟩,iV 0]))] (fun W hW hR=>ZG (jC W) (kE W)<|(show(.agg #[.bool false,.string ⟨#[1]⟩,.int .i64 0]:Value)=.agg #[.bool false,.string ⟨#[1]⟩,.int .i64 0]from rfl)) fun W=>by kernel_rfl
