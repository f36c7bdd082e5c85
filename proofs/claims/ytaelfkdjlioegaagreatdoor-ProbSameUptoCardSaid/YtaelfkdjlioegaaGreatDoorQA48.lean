/- The walks and plain laws beneath the statements. -/
import Derived.Test.YtaelfkdjlioegaaGreatDoorQA44
import Derived.Test.YtaelfkdjlioegaaGreatDoorQA46
namespace Go.Proofs.YtaelfkdjlioegaaGreatDoor
open Go Go.RowKit
structure smallX (x:PV):Prop where
 box:x.box.length≤1048576
 pts:x.pts.length≤1048576
 ps:x.ps.length≤1048576
 rules:x.rules.length≤1048576
 cert:x.cert.length≤1048576
 pt:∀p,p∈x.pts→p.length≤1048576
 p:∀p,p∈x.ps→p.ts.length≤1048576
 rule:∀p,p∈x.rules→p.ts.length≤1048576
 node:∀p,p∈x.cert→p.sum.ts.length≤1048576
 mono:∀p,p∈allP x→∀t,t∈p.ts→t.m.size≤1048576
 hv:-9223372036854775808≤x.vars∧x.vars≤9223372036854775807
def tsum0(ps:List Py)(k:Nat): Nat:=((ps.take k).map (fun p:Py=>p.ts.length)).sum
def allN(x:PV): List Nm:=plainL x.eps x.delta x.box x.pts x.cert++(allP x).flatMap fun p=>p.ts.map (fun t:Tm=>t.c)
def vastX(x:PV): Bool :=
 bif decide ((x.box.length:Int)>6)then true else bif decide ((x.pts.length:Int)>6)then true else bif decide (((x.ps.length+x.rules.length:Nat):Int)>20)then true else bif decide ((x.cert.length:Int)>100)then true else
 bif anyB (allP x).length (fun i=>decide (((tsum0 (allP x) (i+1):Nat):Int)>300))then true else bif anyB (allN x).length (fun i=>far20 (List.getD (allN x) i nm0))then true else anyB x.pts.length (fun j=>decide ((((ptAt x.pts j).length:Nat):Int)>6))
theorem tsum_map(ps:List PyS)(k:Nat): tsumP ps k=tsum0 (ps.map fun x:PyS=>x.1) k:=by
 unfold tsumP tsum0
 rw[← List.map_take,List.map_map]
 rfl
theorem sl_eq{A A':Option Addr}{n n' c c':Nat}(h:(.slice A n c:Value)=.slice A' n' c'): A=A'∧n=n'∧c=c':=by
 injection h with h1 h2 h3
 exact⟨h1,h2,h3⟩
theorem mk_map{α β:Type}(f:Nat→α)(g:Nat→β)(n:Nat): ((List.range n).map fun j=>(f j,g j)).map (fun x=>x.1)=(List.range n).map f:=by
 rw[List.map_map];rfl
theorem getD_rng{α:Type}(f:Nat→α)(d:α){n j:Nat}(h:j<n): ((List.range n).map f).getD j d=f j:=by
 rw[getD_at (by simpa using h)];simp
theorem rng_eq{α:Type}(l:List α)(d:α): (List.range l.length).map (fun j=>l.getD j d)=l:=by
 apply List.ext_getElem?
 intro j
 by_cases hj:j<l.length
 ·rw[List.getElem?_map,List.getElem?_range hj,List.getElem?_eq_getElem hj,Option.map_some,getD_at hj]
 ·rw[List.getElem?_eq_none (by simp;omega),List.getElem?_eq_none (by omega)]
section
variable {lo:Nat} {x:PV} {Ab As Ap Ar Ac:Option Addr} {cb cs kp kr cc:Nat}
theorem vast_v(hx:smallX x)(w:World)(hF:Five lo w x (.slice Ab x.box.length cb) (.slice As x.pts.length cs) (.slice Ap x.ps.length kp) (.slice Ar x.rules.length kr) (.slice Ac x.cert.length cc)): RetAt Tryz.prog w 7 #[.agg #[.int .i64 x.kind,.int .i64 x.vars,.slice Ab x.box.length cb,.slice As x.pts.length cs,.slice Ap x.ps.length kp,.slice Ar x.rules.length kr,.bool x.eps.b,.string x.eps.s,.int .i64 x.eps.e,.bool x.delta.b,.string x.delta.s,.int .i64 x.delta.e,.int .i64 x.budget,.slice Ac x.cert.length cc]] (.bool (vastX x)):=by
 obtain⟨kind,vars,box,pts,ps,rules,eps,delta,budget,cert⟩:=x
 obtain⟨fb,fs,fp,fr,fc⟩:=hF
 obtain⟨A1,c1,q1,_,_,hB⟩:=SlV.enc (nm0,nm0) fb
 obtain⟨A2,c2,Us,us,q2,_,_,hS,hP⟩:=SlV.rdPt2 fs
 obtain⟨A3,c3,Up,up,q3,_,np,hQ,hQs⟩:=SlV.rdPy2 fp
 obtain⟨A4,c4,Ur,ur,q4,_,nr,hU,hUs⟩:=SlV.rdPy2 fr
 obtain⟨A5,c5,Uc,uc,q5,_,_,hC,hN⟩:=SlV.rdNd2 fc
 obtain⟨rfl,_,rfl⟩:=sl_eq q1
 obtain⟨rfl,_,rfl⟩:=sl_eq q2
 obtain⟨rfl,_,rfl⟩:=sl_eq q3
 obtain⟨rfl,_,rfl⟩:=sl_eq q4
 obtain⟨rfl,_,rfl⟩:=sl_eq q5
 let l1:List PyS:=(List.range ps.length).map fun j=>(pyAt ps j,Up j,up j)
 let l2:List PyS:=(List.range rules.length).map fun j=>(pyAt rules j,Ur j,ur j)
 have e1:l1.length=ps.length:=by simp[l1]
 have e2:l2.length=rules.length:=by simp[l2]
 have m1:l1.map (fun x:PyS=>x.1)=ps:=eq_of_map_fst _ _
 have m2:l2.map (fun x:PyS=>x.1)=rules:=eq_of_map_fst _ _
 have m3:(sumL cert Uc uc).map (fun x:PyS=>x.1)=cert.map (·.sum):=by
  apply List.ext_getElem?
  intro j
  by_cases hj:j<cert.length
  ·rw[List.getElem?_map,List.getElem?_map,List.getElem?_eq_getElem (by rw[sumL_len];exact hj),List.getElem?_eq_getElem hj,Option.map_some,Option.map_some]
   have h5:=sumL_at (Ua:=Uc) (Uc:=uc) hj
   rw[getD_at (by rw[sumL_len];exact hj)]at h5
   rw[h5]
   show some (ndAt cert j).sum=_
   unfold ndAt
   rw[getD_at hj]
  ·rw[List.getElem?_eq_none (by rw[List.length_map,sumL_len];omega),List.getElem?_eq_none (by rw[List.length_map];omega)]
 have hmap:(allS l1 l2 cert Uc uc).map (fun x:PyS=>x.1)=allP ⟨kind,vars,box,pts,ps,rules,eps,delta,budget,cert⟩:=by
  unfold allS allP
  rw[List.map_append,List.map_append,m1,m2,m3]
 have hlen:(allS l1 l2 cert Uc uc).length=(allP ⟨kind,vars,box,pts,ps,rules,eps,delta,budget,cert⟩).length:=by rw[← hmap,List.length_map]
 have key:∀(p:Py) (A:Option Addr) (c:Nat),SlV lo 4 tmR w p.ts (.slice A p.ts.length c)→RdK w A p.ts.length 4 (fun j=>tmC (tmAt p.ts j)):=fun p A c hh=>by
  obtain⟨A',c',e,_,_,hr⟩:=SlV.enc tmD hh
  obtain⟨rfl,_,rfl⟩:=sl_eq e
  exact hr
 have hX:∀x,x∈allS l1 l2 cert Uc uc→RdK w x.2.1 x.1.ts.length 4 (fun j=>tmC (tmAt x.1.ts j)):=fun x hx=>by
  unfold allS at hx
  simp only[List.mem_append]at hx
  rcases hx with(hx|hx)|hx
  ·obtain⟨j,hj,rfl⟩:=List.mem_map.1 hx
   exact key _ _ _ (hQs j (List.mem_range.1 hj))
  ·obtain⟨j,hj,rfl⟩:=List.mem_map.1 hx
   exact key _ _ _ (hUs j (List.mem_range.1 hj))
  ·obtain⟨j,hj,rfl⟩:=List.getElem_of_mem hx
   rw[sumL_len]at hj
   have h5:=sumL_at (Ua:=Uc) (Uc:=uc) hj
   rw[getD_at (by rw[sumL_len];exact hj)]at h5
   rw[h5]
   exact key _ _ _ (hN j hj)
 have htm:∀x,x∈allS l1 l2 cert Uc uc→x.1.ts.length≤1048576:=fun x hx'=>by
  have h6:x.1∈(allS l1 l2 cert Uc uc).map (fun x:PyS=>x.1):=List.mem_map.2 ⟨x,hx',rfl⟩
  rw[hmap]at h6
  unfold allP at h6
  simp only[List.mem_append,List.mem_map]at h6
  rcases h6 with(h6|h6)|⟨n,h6,h7⟩
  ·exact hx.p _ h6
  ·exact hx.rule _ h6
  ·rw[← h7];exact hx.node _ h6
 have hw:=vast_x (lo:=lo) (eps:=eps) (delta:=delta) (kind:=kind) (vars:=vars) (budget:=budget) (cb:=cb) (cs:=cs) (cc:=cc) (kp:=kp) (kr:=kr) (Ap:=Ap) (Ar:=Ar) (l1:=l1) (l2:=l2) (Ua:=Uc) (Uc:=uc) (bx:=box) (pts:=pts) (ct:=cert) (Us:=Us) (us:=us) rfl rfl ⟨hx.box,hx.pts,hx.pt,hx.cert⟩ (by rw[e1];exact hx.ps) (by rw[e2];exact hx.rules) htm w hB hS hP hC ⟨by rw[e1];exact hQ.congr fun j hj=>by rw[show l1.getD j pys0=(pyAt ps j,Up j,up j)from getD_rng _ _ hj];rfl,by rw[e1];exact np⟩ ⟨by rw[e2];exact hU.congr fun j hj=>by rw[show l2.getD j pys0=(pyAt rules j,Ur j,ur j)from getD_rng _ _ hj];rfl,by rw[e2];exact nr⟩ hX
 have hv:vastB box.length pts.length l1.length l2.length cert.length (allS l1 l2 cert Uc uc) (plainL eps delta box pts cert++(allS l1 l2 cert Uc uc).flatMap fun p=>p.1.ts.map (fun t:Tm=>t.c)) pts=vastX ⟨kind,vars,box,pts,ps,rules,eps,delta,budget,cert⟩:=by
  have hfl:(allS l1 l2 cert Uc uc).flatMap (fun p=>p.1.ts.map (fun t:Tm=>t.c))=(allP ⟨kind,vars,box,pts,ps,rules,eps,delta,budget,cert⟩).flatMap fun p=>p.ts.map (fun t:Tm=>t.c):=by rw[← hmap,List.flatMap_map]
  unfold vastB vastX allN
  simp only[tsum_map,hmap,hlen,hfl,e1,e2]
 rw[hv,e1,e2]at hw
 exact hw
theorem own_v(hx:smallX x)(w:World)(hF:Five lo w x (.slice Ab x.box.length cb) (.slice As x.pts.length cs) (.slice Ap x.ps.length kp) (.slice Ar x.rules.length kr) (.slice Ac x.cert.length cc)): NewIn Tryz.prog w [] 15 #[.agg #[.int .i64 x.kind,.int .i64 x.vars,.slice Ab x.box.length cb,.slice As x.pts.length cs,.slice Ap x.ps.length kp,.slice Ar x.rules.length kr,.bool x.eps.b,.string x.eps.s,.int .i64 x.eps.e,.bool x.delta.b,.string x.delta.s,.int .i64 x.delta.e,.int .i64 x.budget,.slice Ac x.cert.length cc]] (fun y:Hp5=>.agg #[.int .i64 x.kind,.int .i64 x.vars,.slice y.1.1 x.box.length y.1.2,.slice y.2.1.1 x.pts.length y.2.1.2,.slice y.2.2.1.1 x.ps.length y.2.2.1.2,.slice y.2.2.2.1.1 x.rules.length y.2.2.2.1.2,.bool x.eps.b,.string x.eps.s,.int .i64 x.eps.e,.bool x.delta.b,.string x.delta.s,.int .i64 x.delta.e,.int .i64 x.budget,.slice y.2.2.2.2.1 x.cert.length y.2.2.2.2.2]) (fun y:Hp5=>fivR x y):=by
 obtain⟨kind,vars,box,pts,ps,rules,eps,delta,budget,cert⟩:=x
 obtain⟨fb,fs,fp,fr,fc⟩:=hF
 obtain⟨A1,c1,q1,_,nb,hB⟩:=SlV.enc (nm0,nm0) fb
 obtain⟨A2,c2,Us,us,q2,_,ns,hS,hP⟩:=SlV.rdPt2 fs
 obtain⟨A3,c3,Up,up,q3,_,np,hQ,hQs⟩:=SlV.rdPy2 fp
 obtain⟨A4,c4,Ur,ur,q4,_,nr,hU,hUs⟩:=SlV.rdPy2 fr
 obtain⟨A5,c5,Uc,uc,q5,_,nc,hC,hN⟩:=SlV.rdNd2 fc
 obtain⟨rfl,_,rfl⟩:=sl_eq q1
 obtain⟨rfl,_,rfl⟩:=sl_eq q2
 obtain⟨rfl,_,rfl⟩:=sl_eq q3
 obtain⟨rfl,_,rfl⟩:=sl_eq q4
 obtain⟨rfl,_,rfl⟩:=sl_eq q5
 let p1:List PtS:=(List.range pts.length).map fun j=>(ptAt pts j,Us j,us j)
 let l1:List PyS:=(List.range ps.length).map fun j=>(pyAt ps j,Up j,up j)
 let l2:List PyS:=(List.range rules.length).map fun j=>(pyAt rules j,Ur j,ur j)
 let nd:List NdS:=(List.range cert.length).map fun j=>(ndAt cert j,Uc j,uc j)
 have e0:p1.length=pts.length:=by simp[p1]
 have e1:l1.length=ps.length:=by simp[l1]
 have e2:l2.length=rules.length:=by simp[l2]
 have e3:nd.length=cert.length:=by simp[nd]
 have m0:p1.map (fun x:PtS=>x.1)=pts:=(mk_map _ _ _).trans (rng_eq pts [])
 have m1:l1.map (fun x:PyS=>x.1)=ps:=(mk_map _ _ _).trans (rng_eq ps pyD)
 have m2:l2.map (fun x:PyS=>x.1)=rules:=(mk_map _ _ _).trans (rng_eq rules pyD)
 have m3:nd.map (fun x:NdS=>x.1)=cert:=(mk_map _ _ _).trans (rng_eq cert ndD)
 have key:∀(l:List Tm) (A:Option Addr) (c:Nat),SlV lo 4 tmR w l (.slice A l.length c)→Rw w 4 tmC tmD l A c:=fun l A c hh=>by
  obtain⟨A',c',e,_,hn,hr⟩:=SlV.enc tmD hh
  obtain⟨rfl,_,rfl⟩:=sl_eq e
  exact⟨hr,hn⟩
 have h:=own_n (Ab:=Ab) (As:=As) (Ap:=Ap) (Ar:=Ar) (Ac:=Ac) (cb:=cb) (cs:=cs) (kp:=kp) (kr:=kr) (cc:=cc) (kind:=kind) (vars:=vars) (budget:=budget) (eps:=eps) (delta:=delta) (bx:=box) (p1:=p1) (l1:=l1) (l2:=l2) (nd:=nd) hx.box (by rw[e0];exact hx.pts) (fun x h=>by obtain⟨j,hj,rfl⟩:=List.mem_map.1 h;exact hx.pt _ (ptAt_mem (List.mem_range.1 hj))) (by rw[e1];exact hx.ps) (fun x h=>by obtain⟨j,hj,rfl⟩:=List.mem_map.1 h;exact hx.p _ (pyAt_mem (List.mem_range.1 hj))) (by rw[e2];exact hx.rules) (fun x h=>by obtain⟨j,hj,rfl⟩:=List.mem_map.1 h;exact hx.rule _ (pyAt_mem (List.mem_range.1 hj))) (by rw[e3];exact hx.cert) (fun x h=>by obtain⟨j,hj,rfl⟩:=List.mem_map.1 h;exact hx.node _ (ndAt_mem (List.mem_range.1 hj))) w
  ⟨hB,nb⟩ ⟨by rw[e0];exact hS.congr fun j hj=>by rw[show p1.getD j pts0=(ptAt pts j,Us j,us j)from getD_rng _ _ hj];rfl,by rw[e0];exact ns⟩ (fun x h=>by
   obtain⟨j,hj,rfl⟩:=List.mem_map.1 h
   obtain⟨A',c',e,_,hn,hr⟩:=SlV.enc nm0 (hP j (List.mem_range.1 hj))
   obtain⟨rfl,_,rfl⟩:=sl_eq e
   exact⟨hr,hn⟩)
  ⟨by rw[e1];exact hQ.congr fun j hj=>by rw[show l1.getD j pys0=(pyAt ps j,Up j,up j)from getD_rng _ _ hj];rfl,by rw[e1];exact np⟩ (fun x h=>by obtain⟨j,hj,rfl⟩:=List.mem_map.1 h;exact key _ _ _ (hQs j (List.mem_range.1 hj)))
  ⟨by rw[e2];exact hU.congr fun j hj=>by rw[show l2.getD j pys0=(pyAt rules j,Ur j,ur j)from getD_rng _ _ hj];rfl,by rw[e2];exact nr⟩ (fun x h=>by obtain⟨j,hj,rfl⟩:=List.mem_map.1 h;exact key _ _ _ (hUs j (List.mem_range.1 hj)))
  ⟨by rw[e3];exact hC.congr fun j hj=>by rw[show nd.getD j nds0=(ndAt cert j,Uc j,uc j)from getD_rng _ _ hj];rfl,by rw[e3];exact nc⟩ (fun x h=>by obtain⟨j,hj,rfl⟩:=List.mem_map.1 h;exact key _ _ _ (hN j (List.mem_range.1 hj)))
 simp only[e0,e1,e2,e3,m0,m1,m2,m3]at h
 exact h
end
open Go Go.RowKit
theorem far20_ok{x:Nm}(h:far20 x=false): okN x:=by
 unfold far20 at h
 simp only[Bool.or_eq_false_iff,decide_eq_false_iff_not]at h
 exact⟨by omega,by omega,by omega⟩
theorem bif3{a b:Bool}(h:(bif a then true else b)=false): a=false∧b=false:=by
 cases a
 ·exact⟨rfl,h⟩
 ·cases h
theorem any_false{n:Nat}{f:Nat→Bool}(h:anyB n f=false){j:Nat}(hj:j<n): f j=false:=by
 cases e:f j with
 | false=>rfl
 | true=>rw[anyB_iff.2 ⟨j,hj,e⟩]at h;cases h
theorem vast_ok{x:PV}(h:vastX x=false): ∀a,a∈allN x→okN a:=by
 unfold vastX at h
 have h1:=(bif3 (bif3 (bif3 (bif3 (bif3 (bif3 h).2).2).2).2).2).1
 intro a ha
 obtain⟨j,hj,e⟩:=List.getElem_of_mem ha
 have h2:=any_false h1 hj
 rw[getD_at hj,e]at h2
 exact far20_ok h2
theorem okx_of{x:PV}(hx:smallX x)(h:vastX x=false): okX x:=by
 have hn:=vast_ok h
 have hp:∀p,p∈allP x→p.ts.length≤1048576→okP p:=fun p hp hl=>⟨Nat.le_trans hl (by decide),fun t ht=>⟨hx.mono p hp t ht,hn _ (List.mem_append_right _ (List.mem_flatMap.2 ⟨p,hp,List.mem_map.2 ⟨t,ht,rfl⟩⟩))⟩⟩
 exact⟨⟨⟨hx.box,hx.pts,hx.pt,hx.cert⟩,hx.hv,hx.ps,hx.rules,fun p h=>hp p (List.mem_append_left _ (List.mem_append_left _ h)) (hx.p p h),fun p h=>hp p (List.mem_append_left _ (List.mem_append_right _ h)) (hx.rule p h),fun p h=>hp p.sum (List.mem_append_right _ (List.mem_map.2 ⟨p,h,rfl⟩)) (hx.node p h),fun a ha=>hn a (List.mem_append_left _ ha)⟩⟩
theorem short_of{x:PV}(hx:smallX x): shortP x :=
 ⟨Nat.le_trans hx.box (by decide),Nat.le_trans hx.pts (by decide),Nat.le_trans hx.ps (by decide),Nat.le_trans hx.rules (by decide),Nat.le_trans hx.cert (by decide),fun p h=>Nat.le_trans (hx.pt p h) (by decide),fun p h=>Nat.le_trans (hx.p p h) (by decide),fun p h=>Nat.le_trans (hx.rule p h) (by decide),fun p h=>Nat.le_trans (hx.node p h) (by decide)⟩
def knd(x:PV)(k:Int): PV:=⟨k,x.vars,x.box,x.pts,x.ps,x.rules,x.eps,x.delta,x.budget,x.cert⟩
def cutR(x:PV): PV:=⟨x.kind,x.vars,x.box,x.pts,x.ps,x.rules.take (x.rules.length-1),x.eps,x.delta,x.budget,x.cert⟩
theorem knd_ok{x:PV}(k:Int)(h:okX x): okX (knd x k):=⟨⟨h.o.l0,h.o.hv,h.o.np,h.o.nr,h.o.okp,h.o.okr,h.o.okc,h.o.nums⟩⟩
theorem cut_ok{x:PV}(h:okX x): okX (cutR x):=⟨⟨h.o.l0,h.o.hv,h.o.np,Nat.le_trans (by show(x.rules.take _).length≤x.rules.length;rw[List.length_take];omega) h.o.nr,h.o.okp,fun p hp=>h.o.okr p (List.mem_of_mem_take hp),h.o.okc,h.o.nums⟩⟩
theorem knd_five{lo:Nat}{w:World}{x:PV}{vb vs vp vr vc:Value}(k:Int)(h:Five lo w x vb vs vp vr vc): Five lo w (knd x k) vb vs vp vr vc:=⟨h.b,h.s,h.p,h.r,h.c⟩
theorem SlV.take{α:Type}{lo k:Nat}{p:Rdg α}{w:World}{l:List α}{A:Option Addr}{n c m:Nat}(h:SlV lo k p w l (.slice A n c))(hm:m≤l.length): SlV lo k p w (l.take m) (.slice A (l.take m).length c):=by
 obtain⟨A',c',e,h2,h3,h4⟩:=h
 obtain⟨rfl,rfl,rfl⟩:=sl_eq e
 have hl:(l.take m).length=m:=by rw[List.length_take];omega
 refine⟨A,c,rfl,by omega,fun hA=>?_,fun h0=>?_⟩
 ·have:=h3 hA
  omega
 ·obtain⟨b,off,e,hlo,hc⟩:=h4 (by omega)
  refine⟨b,off,e,hlo,fun i hi=>?_⟩
  obtain⟨cs,k1,k2,k3⟩:=hc i (by omega)
  refine⟨cs,k1,?_,k3⟩
  rw[List.getElem_take]
  exact k2
theorem cut_five{lo:Nat}{w:World}{x:PV}{vb vs vp vc:Value}{A:Option Addr}{c:Nat}(h:Five lo w x vb vs vp (.slice A x.rules.length c) vc): Five lo w (cutR x) vb vs vp (.slice A (x.rules.take (x.rules.length-1)).length c) vc:=⟨h.b,h.s,h.p,h.r.take (by omega),h.c⟩
theorem chk_zero{o i:Bool}{nb:Nat}{t b:Int}(h:chkW o i nb t b=0): o=true∧i=true:=by
 unfold chkW at h
 cases o
 ·cases h
 ·cases i
  ·cases h
  ·exact⟨rfl,rfl⟩
theorem kind_eq{x:PV}(h:(x.kind==3)=true): chkN (knd x 1)=chkN x:=by
 obtain⟨kind,vars,box,pts,ps,rules,eps,delta,budget,cert⟩:=x
 obtain rfl:kind=3:=by simpa using h
 have hp:polysN 3 vars=polysN 1 vars:=by simp[polysN]
 unfold chkN orderB preB withinB allP knd
 simp only
 rw[hp]
 rfl
theorem and_bif{a b:Bool}(h:(bif a then false else b)=true): a=false∧b=true:=by
 cases a
 ·exact⟨rfl,h⟩
 ·cases h
theorem cut_zero{x:PV}(h4:(x.kind==4)=true)(h:(chkN x==0)=true): chkN (cutR x)=0:=by
 obtain⟨kind,vars,box,pts,ps,rules,eps,delta,budget,cert⟩:=x
 obtain rfl:kind=4:=by simpa using h4
 have h0:chkN ⟨4,vars,box,pts,ps,rules,eps,delta,budget,cert⟩=0:=by simpa using h
 obtain⟨ho,hi⟩:=chk_zero h0
 have hl:(rules.take (rules.length-1)).length≤rules.length:=by rw[List.length_take];omega
 have ho':orderB (cutR ⟨4,vars,box,pts,ps,rules,eps,delta,budget,cert⟩)=true:=by
  unfold orderB at ho ⊢
  obtain⟨k1,k2⟩:=Bool.and_eq_true_iff.1 ho
  refine Bool.and_eq_true_iff.2 ⟨?_,k2⟩
  unfold preB at k1 ⊢
  obtain⟨a1,k1⟩:=and_bif k1
  obtain⟨a2,k1⟩:=and_bif k1
  obtain⟨a3,k1⟩:=and_bif k1
  obtain⟨a4,k1⟩:=and_bif k1
  obtain⟨a5,k1⟩:=and_bif k1
  obtain⟨a6,k1⟩:=and_bif k1
  have a4':(!toldB (nS 4) (nR 4) (nC 4) eps delta (rules.take (rules.length-1)).length budget cert.length)=false:=by
   rw[← a4]
   rfl
  have a6':(anyB (rules.take (rules.length-1)).length fun j=>wrongB vars (pyAt (rules.take (rules.length-1)) j))=false:=anyB_no fun j hj=>by
   have hj':j<rules.length:=by omega
   have h5:=any_false a6 hj'
   have e:pyAt (rules.take (rules.length-1)) j=pyAt rules j:=by
    unfold pyAt
    rw[getD_at hj,getD_at hj',List.getElem_take]
   rw[e];exact h5
  show(bif polysN 4 vars==0 then false else bif (ps.length:Int) != polysN 4 vars then false else bif !fitsB box.length pts vars (nX 4)then false else bif !toldB (nS 4) (nR 4) (nC 4) eps delta (rules.take (rules.length-1)).length budget cert.length then false else bif anyB ps.length (fun j=>wrongB vars (pyAt ps j))then false else bif anyB (rules.take (rules.length-1)).length (fun j=>wrongB vars (pyAt (rules.take (rules.length-1)) j))then false else bif !provenB (linesN box.length pts.length) cert then false else true)=true
  simp only at a1 a2 a3 a5
  rw[a1,a2,a3,a4',a5,a6']
  exact k1
 have hi':withinB (cutR ⟨4,vars,box,pts,ps,rules,eps,delta,budget,cert⟩)=true:=by
  unfold withinB at hi ⊢
  obtain⟨k1,k2⟩:=Bool.and_eq_true_iff.1 hi
  obtain⟨k2,k3⟩:=Bool.and_eq_true_iff.1 k2
  refine Bool.and_eq_true_iff.2 ⟨?_,Bool.and_eq_true_iff.2 ⟨k2,?_⟩⟩
  ·unfold preW at k1 ⊢
   obtain⟨a1,k1⟩:=and_bif k1
   obtain⟨a2,k1⟩:=and_bif k1
   have a2':decide ((((rules.take (rules.length-1)).length:Nat):Int)>4)=false:=by
    have:=of_decide_eq_false a2
    simp only at this
    exact decide_eq_false (by omega)
   show(bif decide (vars>4)then false else bif decide ((((rules.take (rules.length-1)).length:Nat):Int)>4)then false else bif decide ((cert.length:Int)>64)then false else bif decide (budget>512)then false else true)=true
   simp only at a1
   rw[a1,a2']
   exact k1
  ·rw[List.all_eq_true]at k3 ⊢
   intro p hp
   refine k3 p ?_
   unfold allP cutR at hp
   unfold allP
   simp only[List.mem_append]at hp ⊢
   rcases hp with(hp|hp)|hp
   ·exact .inl (.inl hp)
   ·exact .inl (.inr (List.mem_of_mem_take hp))
   ·exact .inr hp
 have e:chkN (cutR ⟨4,vars,box,pts,ps,rules,eps,delta,budget,cert⟩)=chkN ⟨4,vars,box,pts,ps,rules,eps,delta,budget,cert⟩:=by
  unfold chkN
  rw[ho',hi',ho,hi]
  rfl
 rw[e];exact h0
