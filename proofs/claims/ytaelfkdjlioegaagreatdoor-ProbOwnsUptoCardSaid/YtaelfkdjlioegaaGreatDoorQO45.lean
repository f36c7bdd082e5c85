/- The walks and plain laws beneath the statements. -/
import Derived.Test.YtaelfkdjlioegaaGreatDoorQO38
import Derived.Test.YtaelfkdjlioegaaGreatDoorQO44
namespace Go.Proofs.YtaelfkdjlioegaaGreatDoor
open Go Go.RowKit
structure smallX (x:PV):Prop where
 box:x.box.length≤1048576
 pts:x.pts.length≤1048576
 ps:x.ps.length≤1048576
 rules:x.rules.length≤1048576
 cert:x.cert.length≤1048576
 pt:∀p,p∈x.pts→p.length≤1048576
 p:∀p,p∈x.ps→p.ts.length≤1048576
 rule:∀p,p∈x.rules→p.ts.length≤1048576
 node:∀p,p∈x.cert→p.sum.ts.length≤1048576
 mono:∀p,p∈allP x→∀t,t∈p.ts→t.m.size≤1048576
 hv:-9223372036854775808≤x.vars∧x.vars≤9223372036854775807
def tsum0(ps:List Py)(k:Nat): Nat:=((ps.take k).map (fun p:Py=>p.ts.length)).sum
def allN(x:PV): List Nm:=plainL x.eps x.delta x.box x.pts x.cert++(allP x).flatMap fun p=>p.ts.map (fun t:Tm=>t.c)
def vastX(x:PV): Bool :=
 bif decide ((x.box.length:Int)>6)then true else bif decide ((x.pts.length:Int)>6)then true else bif decide (((x.ps.length+x.rules.length:Nat):Int)>20)then true else bif decide ((x.cert.length:Int)>100)then true else
 bif anyB (allP x).length (fun i=>decide (((tsum0 (allP x) (i+1):Nat):Int)>300))then true else bif anyB (allN x).length (fun i=>far20 (List.getD (allN x) i nm0))then true else anyB x.pts.length (fun j=>decide ((((ptAt x.pts j).length:Nat):Int)>6))
theorem tsum_map(ps:List PyS)(k:Nat): tsumP ps k=tsum0 (ps.map fun x:PyS=>x.1) k:=by
 unfold tsumP tsum0
 rw[← List.map_take,List.map_map]
 rfl
theorem sl_eq{A A':Option Addr}{n n' c c':Nat}(h:(.slice A n c:Value)=.slice A' n' c'): A=A'∧n=n'∧c=c':=by
 injection h with h1 h2 h3
 exact⟨h1,h2,h3⟩
theorem mk_map{α β:Type}(f:Nat→α)(g:Nat→β)(n:Nat): ((List.range n).map fun j=>(f j,g j)).map (fun x=>x.1)=(List.range n).map f:=by
 rw[List.map_map];rfl
theorem getD_rng{α:Type}(f:Nat→α)(d:α){n j:Nat}(h:j<n): ((List.range n).map f).getD j d=f j:=by
 rw[getD_at (by simpa using h)];simp
theorem rng_eq{α:Type}(l:List α)(d:α): (List.range l.length).map (fun j=>l.getD j d)=l:=by
 apply List.ext_getElem?
 intro j
 by_cases hj:j<l.length
 ·rw[List.getElem?_map,List.getElem?_range hj,List.getElem?_eq_getElem hj,Option.map_some,getD_at hj]
 ·rw[List.getElem?_eq_none (by simp;omega),List.getElem?_eq_none (by omega)]
section
variable {lo:Nat} {x:PV} {Ab As Ap Ar Ac:Option Addr} {cb cs kp kr cc:Nat}
theorem vast_v(hx:smallX x)(w:World)(hF:Five lo w x (.slice Ab x.box.length cb) (.slice As x.pts.length cs) (.slice Ap x.ps.length kp) (.slice Ar x.rules.length kr) (.slice Ac x.cert.length cc)): RetAt Tryz.prog w 7 #[.agg #[.int .i64 x.kind,.int .i64 x.vars,.slice Ab x.box.length cb,.slice As x.pts.length cs,.slice Ap x.ps.length kp,.slice Ar x.rules.length kr,.bool x.eps.b,.string x.eps.s,.int .i64 x.eps.e,.bool x.delta.b,.string x.delta.s,.int .i64 x.delta.e,.int .i64 x.budget,.slice Ac x.cert.length cc]] (.bool (vastX x)):=by
 obtain⟨kind,vars,box,pts,ps,rules,eps,delta,budget,cert⟩:=x
 obtain⟨fb,fs,fp,fr,fc⟩:=hF
 obtain⟨A1,c1,q1,_,_,hB⟩:=SlV.enc (nm0,nm0) fb
 obtain⟨A2,c2,Us,us,q2,_,_,hS,hP⟩:=SlV.rdPt2 fs
 obtain⟨A3,c3,Up,up,q3,_,np,hQ,hQs⟩:=SlV.rdPy2 fp
 obtain⟨A4,c4,Ur,ur,q4,_,nr,hU,hUs⟩:=SlV.rdPy2 fr
 obtain⟨A5,c5,Uc,uc,q5,_,_,hC,hN⟩:=SlV.rdNd2 fc
 obtain⟨rfl,_,rfl⟩:=sl_eq q1
 obtain⟨rfl,_,rfl⟩:=sl_eq q2
 obtain⟨rfl,_,rfl⟩:=sl_eq q3
 obtain⟨rfl,_,rfl⟩:=sl_eq q4
 obtain⟨rfl,_,rfl⟩:=sl_eq q5
 let l1:List PyS:=(List.range ps.length).map fun j=>(pyAt ps j,Up j,up j)
 let l2:List PyS:=(List.range rules.length).map fun j=>(pyAt rules j,Ur j,ur j)
 have e1:l1.length=ps.length:=by simp[l1]
 have e2:l2.length=rules.length:=by simp[l2]
 have m1:l1.map (fun x:PyS=>x.1)=ps:=eq_of_map_fst _ _
 have m2:l2.map (fun x:PyS=>x.1)=rules:=eq_of_map_fst _ _
 have m3:(sumL cert Uc uc).map (fun x:PyS=>x.1)=cert.map (·.sum):=by
  apply List.ext_getElem?
  intro j
  by_cases hj:j<cert.length
  ·rw[List.getElem?_map,List.getElem?_map,List.getElem?_eq_getElem (by rw[sumL_len];exact hj),List.getElem?_eq_getElem hj,Option.map_some,Option.map_some]
   have h5:=sumL_at (Ua:=Uc) (Uc:=uc) hj
   rw[getD_at (by rw[sumL_len];exact hj)]at h5
   rw[h5]
   show some (ndAt cert j).sum=_
   unfold ndAt
   rw[getD_at hj]
  ·rw[List.getElem?_eq_none (by rw[List.length_map,sumL_len];omega),List.getElem?_eq_none (by rw[List.length_map];omega)]
 have hmap:(allS l1 l2 cert Uc uc).map (fun x:PyS=>x.1)=allP ⟨kind,vars,box,pts,ps,rules,eps,delta,budget,cert⟩:=by
  unfold allS allP
  rw[List.map_append,List.map_append,m1,m2,m3]
 have hlen:(allS l1 l2 cert Uc uc).length=(allP ⟨kind,vars,box,pts,ps,rules,eps,delta,budget,cert⟩).length:=by rw[← hmap,List.length_map]
 have key:∀(p:Py) (A:Option Addr) (c:Nat),SlV lo 4 tmR w p.ts (.slice A p.ts.length c)→RdK w A p.ts.length 4 (fun j=>tmC (tmAt p.ts j)):=fun p A c hh=>by
  obtain⟨A',c',e,_,_,hr⟩:=SlV.enc tmD hh
  obtain⟨rfl,_,rfl⟩:=sl_eq e
  exact hr
 have hX:∀x,x∈allS l1 l2 cert Uc uc→RdK w x.2.1 x.1.ts.length 4 (fun j=>tmC (tmAt x.1.ts j)):=fun x hx=>by
  unfold allS at hx
  simp only[List.mem_append]at hx
  rcases hx with(hx|hx)|hx
  ·obtain⟨j,hj,rfl⟩:=List.mem_map.1 hx
   exact key _ _ _ (hQs j (List.mem_range.1 hj))
  ·obtain⟨j,hj,rfl⟩:=List.mem_map.1 hx
   exact key _ _ _ (hUs j (List.mem_range.1 hj))
  ·obtain⟨j,hj,rfl⟩:=List.getElem_of_mem hx
   rw[sumL_len]at hj
   have h5:=sumL_at (Ua:=Uc) (Uc:=uc) hj
   rw[getD_at (by rw[sumL_len];exact hj)]at h5
   rw[h5]
   exact key _ _ _ (hN j hj)
 have htm:∀x,x∈allS l1 l2 cert Uc uc→x.1.ts.length≤1048576:=fun x hx'=>by
  have h6:x.1∈(allS l1 l2 cert Uc uc).map (fun x:PyS=>x.1):=List.mem_map.2 ⟨x,hx',rfl⟩
  rw[hmap]at h6
  unfold allP at h6
  simp only[List.mem_append,List.mem_map]at h6
  rcases h6 with(h6|h6)|⟨n,h6,h7⟩
  ·exact hx.p _ h6
  ·exact hx.rule _ h6
  ·rw[← h7];exact hx.node _ h6
 have hw:=vast_x (lo:=lo) (eps:=eps) (delta:=delta) (kind:=kind) (vars:=vars) (budget:=budget) (cb:=cb) (cs:=cs) (cc:=cc) (kp:=kp) (kr:=kr) (Ap:=Ap) (Ar:=Ar) (l1:=l1) (l2:=l2) (Ua:=Uc) (Uc:=uc) (bx:=box) (pts:=pts) (ct:=cert) (Us:=Us) (us:=us) rfl rfl ⟨hx.box,hx.pts,hx.pt,hx.cert⟩ (by rw[e1];exact hx.ps) (by rw[e2];exact hx.rules) htm w hB hS hP hC ⟨by rw[e1];exact hQ.congr fun j hj=>by rw[show l1.getD j pys0=(pyAt ps j,Up j,up j)from getD_rng _ _ hj];rfl,by rw[e1];exact np⟩ ⟨by rw[e2];exact hU.congr fun j hj=>by rw[show l2.getD j pys0=(pyAt rules j,Ur j,ur j)from getD_rng _ _ hj];rfl,by rw[e2];exact nr⟩ hX
 have hv:vastB box.length pts.length l1.length l2.length cert.length (allS l1 l2 cert Uc uc) (plainL eps delta box pts cert++(allS l1 l2 cert Uc uc).flatMap fun p=>p.1.ts.map (fun t:Tm=>t.c)) pts=vastX ⟨kind,vars,box,pts,ps,rules,eps,delta,budget,cert⟩:=by
  have hfl:(allS l1 l2 cert Uc uc).flatMap (fun p=>p.1.ts.map (fun t:Tm=>t.c))=(allP ⟨kind,vars,box,pts,ps,rules,eps,delta,budget,cert⟩).flatMap fun p=>p.ts.map (fun t:Tm=>t.c):=by rw[← hmap,List.flatMap_map]
  unfold vastB vastX allN
  simp only[tsum_map,hmap,hlen,hfl,e1,e2]
 rw[hv,e1,e2]at hw
 exact hw
structure OwnH (x:PV) (w:World) (Ab As Ap Ar Ac:Option Addr) (cb cs kp kr cc:Nat) (p1:List PtS) (l1 l2:List PyS) (nd:List NdS):Prop where
 e0:p1.length=x.pts.length
 e1:l1.length=x.ps.length
 e2:l2.length=x.rules.length
 e3:nd.length=x.cert.length
 m0:p1.map (fun x:PtS=>x.1)=x.pts
 m1:l1.map (fun x:PyS=>x.1)=x.ps
 m2:l2.map (fun x:PyS=>x.1)=x.rules
 m3:nd.map (fun x:NdS=>x.1)=x.cert
 bs:p1.length≤1048576
 bp:∀x,x∈p1→x.1.length≤1048576
 bq:l1.length≤1048576
 bt:∀x,x∈l1→x.1.ts.length≤1048576
 bu:l2.length≤1048576
 bv:∀x,x∈l2→x.1.ts.length≤1048576
 bc:nd.length≤1048576
 bn:∀x,x∈nd→x.1.sum.ts.length≤1048576
 hb:Rw w 6 spC (nm0,nm0) x.box Ab cb
 hs:Rw w 1 ptS pts0 p1 As cs
 hp:∀x,x∈p1→Rw w 3 nmC nm0 x.1 x.2.1 x.2.2
 hq:Rw w 2 pyS pys0 l1 Ap kp
 hqs:∀x,x∈l1→Rw w 4 tmC tmD x.1.ts x.2.1 x.2.2
 hu:Rw w 2 pyS pys0 l2 Ar kr
 hus:∀x,x∈l2→Rw w 4 tmC tmD x.1.ts x.2.1 x.2.2
 hc:Rw w 6 ndS nds0 nd Ac cc
 hcs:∀x,x∈nd→Rw w 4 tmC tmD x.1.sum.ts x.2.1 x.2.2
theorem five_own(hx:smallX x)(w:World)(hF:Five lo w x (.slice Ab x.box.length cb) (.slice As x.pts.length cs) (.slice Ap x.ps.length kp) (.slice Ar x.rules.length kr) (.slice Ac x.cert.length cc)): ∃p1 l1 l2 nd,OwnH x w Ab As Ap Ar Ac cb cs kp kr cc p1 l1 l2 nd:=by
 obtain⟨kind,vars,box,pts,ps,rules,eps,delta,budget,cert⟩:=x
 obtain⟨fb,fs,fp,fr,fc⟩:=hF
 obtain⟨A1,c1,q1,_,nb,hB⟩:=SlV.enc (nm0,nm0) fb
 obtain⟨A2,c2,Us,us,q2,_,ns,hS,hP⟩:=SlV.rdPt2 fs
 obtain⟨A3,c3,Up,up,q3,_,np,hQ,hQs⟩:=SlV.rdPy2 fp
 obtain⟨A4,c4,Ur,ur,q4,_,nr,hU,hUs⟩:=SlV.rdPy2 fr
 obtain⟨A5,c5,Uc,uc,q5,_,nc,hC,hN⟩:=SlV.rdNd2 fc
 obtain⟨rfl,_,rfl⟩:=sl_eq q1
 obtain⟨rfl,_,rfl⟩:=sl_eq q2
 obtain⟨rfl,_,rfl⟩:=sl_eq q3
 obtain⟨rfl,_,rfl⟩:=sl_eq q4
 obtain⟨rfl,_,rfl⟩:=sl_eq q5
 let p1:List PtS:=(List.range pts.length).map fun j=>(ptAt pts j,Us j,us j)
 let l1:List PyS:=(List.range ps.length).map fun j=>(pyAt ps j,Up j,up j)
 let l2:List PyS:=(List.range rules.length).map fun j=>(pyAt rules j,Ur j,ur j)
 let nd:List NdS:=(List.range cert.length).map fun j=>(ndAt cert j,Uc j,uc j)
 have e0:p1.length=pts.length:=by simp[p1]
 have e1:l1.length=ps.length:=by simp[l1]
 have e2:l2.length=rules.length:=by simp[l2]
 have e3:nd.length=cert.length:=by simp[nd]
 have m0:p1.map (fun x:PtS=>x.1)=pts:=(mk_map _ _ _).trans (rng_eq pts [])
 have m1:l1.map (fun x:PyS=>x.1)=ps:=(mk_map _ _ _).trans (rng_eq ps pyD)
 have m2:l2.map (fun x:PyS=>x.1)=rules:=(mk_map _ _ _).trans (rng_eq rules pyD)
 have m3:nd.map (fun x:NdS=>x.1)=cert:=(mk_map _ _ _).trans (rng_eq cert ndD)
 have key:∀(l:List Tm) (A:Option Addr) (c:Nat),SlV lo 4 tmR w l (.slice A l.length c)→Rw w 4 tmC tmD l A c:=fun l A c hh=>by
  obtain⟨A',c',e,_,hn,hr⟩:=SlV.enc tmD hh
  obtain⟨rfl,_,rfl⟩:=sl_eq e
  exact⟨hr,hn⟩
 exact⟨p1,l1,l2,nd,e0,e1,e2,e3,m0,m1,m2,m3,(by rw[e0];exact hx.pts),(fun x h=>by obtain⟨j,hj,rfl⟩:=List.mem_map.1 h;exact hx.pt _ (ptAt_mem (List.mem_range.1 hj))),(by rw[e1];exact hx.ps),(fun x h=>by obtain⟨j,hj,rfl⟩:=List.mem_map.1 h;exact hx.p _ (pyAt_mem (List.mem_range.1 hj))),(by rw[e2];exact hx.rules),(fun x h=>by obtain⟨j,hj,rfl⟩:=List.mem_map.1 h;exact hx.rule _ (pyAt_mem (List.mem_range.1 hj))),(by rw[e3];exact hx.cert),(fun x h=>by obtain⟨j,hj,rfl⟩:=List.mem_map.1 h;exact hx.node _ (ndAt_mem (List.mem_range.1 hj))),
  ⟨hB,nb⟩,⟨by rw[e0];exact hS.congr fun j hj=>by rw[show p1.getD j pts0=(ptAt pts j,Us j,us j)from getD_rng _ _ hj];rfl,by rw[e0];exact ns⟩,(fun x h=>by
   obtain⟨j,hj,rfl⟩:=List.mem_map.1 h
   obtain⟨A',c',e,_,hn,hr⟩:=SlV.enc nm0 (hP j (List.mem_range.1 hj))
   obtain⟨rfl,_,rfl⟩:=sl_eq e
   exact⟨hr,hn⟩),
  ⟨by rw[e1];exact hQ.congr fun j hj=>by rw[show l1.getD j pys0=(pyAt ps j,Up j,up j)from getD_rng _ _ hj];rfl,by rw[e1];exact np⟩,(fun x h=>by obtain⟨j,hj,rfl⟩:=List.mem_map.1 h;exact key _ _ _ (hQs j (List.mem_range.1 hj))),
  ⟨by rw[e2];exact hU.congr fun j hj=>by rw[show l2.getD j pys0=(pyAt rules j,Ur j,ur j)from getD_rng _ _ hj];rfl,by rw[e2];exact nr⟩,(fun x h=>by obtain⟨j,hj,rfl⟩:=List.mem_map.1 h;exact key _ _ _ (hUs j (List.mem_range.1 hj))),
  ⟨by rw[e3];exact hC.congr fun j hj=>by rw[show nd.getD j nds0=(ndAt cert j,Uc j,uc j)from getD_rng _ _ hj];rfl,by rw[e3];exact nc⟩,(fun x h=>by obtain⟨j,hj,rfl⟩:=List.mem_map.1 h;exact key _ _ _ (hN j (List.mem_range.1 hj)))⟩
theorem own_x(hx:smallX x)(w:World)(hF:Five lo w x (.slice Ab x.box.length cb) (.slice As x.pts.length cs) (.slice Ap x.ps.length kp) (.slice Ar x.rules.length kr) (.slice Ac x.cert.length cc)): NewIn Tryz.prog w [] 15 #[.agg #[.int .i64 x.kind,.int .i64 x.vars,.slice Ab x.box.length cb,.slice As x.pts.length cs,.slice Ap x.ps.length kp,.slice Ar x.rules.length kr,.bool x.eps.b,.string x.eps.s,.int .i64 x.eps.e,.bool x.delta.b,.string x.delta.s,.int .i64 x.delta.e,.int .i64 x.budget,.slice Ac x.cert.length cc]] (fun y:Hp5=>.agg #[.int .i64 x.kind,.int .i64 x.vars,.slice y.1.1 x.box.length y.1.2,.slice y.2.1.1 x.pts.length y.2.1.2,.slice y.2.2.1.1 x.ps.length y.2.2.1.2,.slice y.2.2.2.1.1 x.rules.length y.2.2.2.1.2,.bool x.eps.b,.string x.eps.s,.int .i64 x.eps.e,.bool x.delta.b,.string x.delta.s,.int .i64 x.delta.e,.int .i64 x.budget,.slice y.2.2.2.2.1 x.cert.length y.2.2.2.2.2]) (fun y:Hp5=>famX x y):=by
 obtain⟨p1,l1,l2,nd,h⟩:=five_own hx w hF
 have k:=own_n (Ab:=Ab) (As:=As) (Ap:=Ap) (Ar:=Ar) (Ac:=Ac) (cb:=cb) (cs:=cs) (kp:=kp) (kr:=kr) (cc:=cc) (kind:=x.kind) (vars:=x.vars) (budget:=x.budget) (eps:=x.eps) (delta:=x.delta) (bx:=x.box) (p1:=p1) (l1:=l1) (l2:=l2) (nd:=nd) hx.box h.bs h.bp h.bq h.bt h.bu h.bv h.bc h.bn w h.hb h.hs h.hp h.hq h.hqs h.hu h.hus h.hc h.hcs
 simp only[h.e0,h.e1,h.e2,h.e3,h.m0,h.m1,h.m2,h.m3]at k
 exact k
end
