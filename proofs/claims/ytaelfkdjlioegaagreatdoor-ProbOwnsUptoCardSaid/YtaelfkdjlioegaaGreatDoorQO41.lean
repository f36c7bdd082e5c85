/- The walks and plain laws beneath the statements. -/
import Derived.Test.YtaelfkdjlioegaaGreatDoorQO34
import Derived.Test.YtaelfkdjlioegaaGreatDoorQO40
namespace Go.Proofs.YtaelfkdjlioegaaGreatDoor
open Go Go.RowKit
def allP(x:PV): List Py:=(x.ps++x.rules)++x.cert.map (·.sum)
def withinB(x:PV): Bool:=preW x.vars x.rules.length x.cert.length x.budget&&((plainL x.eps x.delta x.box x.pts x.cert).all (fun x=>!farB x)&&(allP x).all goodP)
structure okX (x:PV):Prop where
 o:okO x.kind x.vars x.eps x.delta x.box x.pts x.ps x.rules x.cert
theorem fst_all(l:List PyS)(f:Py→Bool): (l.all fun p=>f p.1)=(l.map (·.1)).all f:=by rw[List.all_map];rfl
theorem eq_of_map_fst{l:List Py}(As:Nat→Option Addr)(cs:Nat→Nat): ((List.range l.length).map fun j=>(pyAt l j,As j,cs j)).map (fun x:PyS=>x.1)=l:=by
 apply List.ext_getElem?
 intro j
 by_cases hj:j<l.length
 ·rw[List.map_map,List.getElem?_map,List.getElem?_range hj,List.getElem?_eq_getElem hj]
  show some (pyAt l j)=_
  unfold pyAt
  rw[getD_at hj]
 ·rw[List.getElem?_eq_none (by simp;omega),List.getElem?_eq_none (by omega)]
theorem nums_box{eps delta:Nm}{bx:List (Nm×Nm)}{pts:List (List Nm)}{ct:List Nd}{s:Nm×Nm}(h:s∈bx): s.1∈plainL eps delta bx pts ct∧s.2∈plainL eps delta bx pts ct:=by
 unfold plainL
 constructor<;>(simp only[List.mem_append,List.mem_flatMap];left;left;right;exact⟨s,h,by simp⟩)
theorem check_g{lo:Nat}{t:Int}(x:PV){vb vs vp vr vc:Value}(h:okX x)(w:World)(hT:Tab0 w)(hF:Five lo w x vb vs vp vr vc)(hTri:∀W,Below w.heap.size w W→orderB x=true→withinB x=true→x.box.length=0→RetAt Tryz.prog W 25 #[vs] (.int .i64 t)): RetAt Tryz.prog w 10 #[.agg #[.int .i64 x.kind,.int .i64 x.vars,vb,vs,vp,vr,.bool x.eps.b,.string x.eps.s,.int .i64 x.eps.e,.bool x.delta.b,.string x.delta.s,.int .i64 x.delta.e,.int .i64 x.budget,vc]] (.int .i64 (chkW (orderB x) (withinB x) x.box.length t (chkBx x.box))):=by
 obtain⟨kind,vars,box,pts,ps,rules,eps,delta,budget,cert⟩:=x
 obtain⟨ho⟩:=h
 obtain⟨fb,fs,fp,fr,fc⟩:=hF
 obtain⟨Ab,cb,rfl,_,_,hB⟩:=SlV.enc (nm0,nm0) fb
 obtain⟨As,cs,Us,us,rfl,_,_,hS,hP⟩:=SlV.rdPt2 fs
 obtain⟨Ap,kp,Up,up,rfl,_,np,hQ,hQs⟩:=SlV.rdPy2 fp
 obtain⟨Ar,kr,Ur,ur,rfl,_,nr,hU,hUs⟩:=SlV.rdPy2 fr
 obtain⟨Ac,cc,Uc,uc,rfl,_,_,hC,hN⟩:=SlV.rdNd2 fc
 let l1:List PyS:=(List.range ps.length).map fun j=>(pyAt ps j,Up j,up j)
 let l2:List PyS:=(List.range rules.length).map fun j=>(pyAt rules j,Ur j,ur j)
 have e1:l1.length=ps.length:=by simp[l1]
 have e2:l2.length=rules.length:=by simp[l2]
 have g1:∀j,j<ps.length→l1.getD j pys0=(pyAt ps j,Up j,up j):=fun j hj=>by
  rw[getD_at (by rw[e1];exact hj)];simp[l1]
 have g2:∀j,j<rules.length→l2.getD j pys0=(pyAt rules j,Ur j,ur j):=fun j hj=>by
  rw[getD_at (by rw[e2];exact hj)];simp[l2]
 have hmap:(polyL l1 l2 cert Uc uc).map (fun x:PyS=>x.1)=allP ⟨kind,vars,box,pts,ps,rules,eps,delta,budget,cert⟩:=by
  unfold polyL allP
  simp only[List.map_append,List.flatMap_cons,List.flatMap_nil,List.append_nil]
  rw[show l1.map (fun x:PyS=>x.1)=ps from eq_of_map_fst _ _,show l2.map (fun x:PyS=>x.1)=rules from eq_of_map_fst _ _]
  congr 1
  apply List.ext_getElem?
  intro j
  by_cases hj:j<cert.length
  ·rw[List.getElem?_map,List.getElem?_map,List.getElem?_eq_getElem (by rw[sumL_len];exact hj),List.getElem?_eq_getElem hj,Option.map_some,Option.map_some]
   have h5:=sumL_at (Ua:=Uc) (Uc:=uc) hj
   rw[getD_at (by rw[sumL_len];exact hj)]at h5
   rw[h5]
   show some (ndAt cert j).sum=_
   unfold ndAt
   rw[getD_at hj]
  ·rw[List.getElem?_eq_none (by rw[List.length_map,sumL_len];omega),List.getElem?_eq_none (by rw[List.length_map];omega)]
 have hX:∀x,x∈polyL l1 l2 cert Uc uc→RdK w x.2.1 x.1.ts.length 4 (fun j=>tmC (tmAt x.1.ts j)):=fun x hx=>by
  have key:∀(p:Py) (A:Option Addr) (c:Nat),SlV lo 4 tmR w p.ts (.slice A p.ts.length c)→RdK w A p.ts.length 4 (fun j=>tmC (tmAt p.ts j)):=fun p A c hh=>by
   obtain⟨A',c',e,_,_,hr⟩:=SlV.enc tmD hh
   injection e with e5 _ _
   subst e5
   exact hr
  unfold polyL at hx
  simp only[List.flatMap_cons,List.flatMap_nil,List.append_nil,List.mem_append]at hx
  rcases hx with(hx|hx)|hx
  ·obtain⟨j,hj,rfl⟩:=List.mem_map.1 hx
   exact key _ _ _ (hQs j (List.mem_range.1 hj))
  ·obtain⟨j,hj,rfl⟩:=List.mem_map.1 hx
   exact key _ _ _ (hUs j (List.mem_range.1 hj))
  ·obtain⟨j,hj,rfl⟩:=List.getElem_of_mem hx
   rw[sumL_len]at hj
   have h5:=sumL_at (Ua:=Uc) (Uc:=uc) hj
   rw[getD_at (by rw[sumL_len];exact hj)]at h5
   rw[h5]
   exact key _ _ _ (hN j hj)
 have hokP:∀x,x∈polyL l1 l2 cert Uc uc→okP x.1:=fun x hx=>by
  have h6:x.1∈(polyL l1 l2 cert Uc uc).map (fun x:PyS=>x.1):=List.mem_map.2 ⟨x,hx,rfl⟩
  rw[hmap]at h6
  unfold allP at h6
  simp only[List.mem_append,List.mem_map]at h6
  rcases h6 with(h6|h6)|⟨n,h6,h7⟩
  ·exact ho.okp _ h6
  ·exact ho.okr _ h6
  ·rw[← h7];exact ho.okc _ h6
 have hwi:withB vars l2.length cert.length budget (plainL eps delta box pts cert) (polyL l1 l2 cert Uc uc)=withinB ⟨kind,vars,box,pts,ps,rules,eps,delta,budget,cert⟩:=by
  unfold withB withinB
  rw[fst_all,hmap,e2]
 refine check_x (o:=orderB ⟨kind,vars,box,pts,ps,rules,eps,delta,budget,cert⟩) (i:=withinB ⟨kind,vars,box,pts,ps,rules,eps,delta,budget,cert⟩) (t:=t) ⟨kind,vars,box,pts,ps,rules,eps,delta,budget,cert⟩ (Nat.le_trans ho.l0.hb (by decide)) (fun s hsm=>⟨ho.nums _ (nums_box hsm).1,ho.nums _ (nums_box hsm).2⟩) w hT hB ?_ ?_ ?_
 ·intro W hW
  exact order_r ho W (tab_keep hT hW) (hB.below (fun _=>rfl) hW) (hS.below (fun _=>rfl) hW) (fun j hj=>(hP j hj).below nmR_up hW) (hC.below (fun _=>rfl) hW) (fun j hj=>(hN j hj).below tmR_up hW) (hQ.below (fun _=>rfl) hW) (fun j hj=>(hQs j hj).below tmR_up hW) (hU.below (fun _=>rfl) hW) (fun j hj=>(hUs j hj).below tmR_up hW)
 ·intro W hW _
  have hw:=within_r (lo:=lo) (eps:=eps) (delta:=delta) (kind:=kind) (vars:=vars) (budget:=budget) (cb:=cb) (cs:=cs) (cc:=cc) (kp:=kp) (kr:=kr) (Ap:=Ap) (Ar:=Ar) (l1:=l1) (l2:=l2) (Ua:=Uc) (Uc:=uc) ⟨ho.l0,by rw[e1];exact ho.np,by rw[e2];exact ho.nr,hokP⟩ W (hB.below (fun _=>rfl) hW) (hS.below (fun _=>rfl) hW) (fun j hj=>(hP j hj).below nmR_up hW) (hC.below (fun _=>rfl) hW) ⟨((hQ.congr fun j hj=>by rw[g1 j hj];rfl).below (fun _=>rfl) hW:RdK W Ap ps.length 2 (fun i=>pyS (l1.getD i pys0))) |> fun hh=>by rw[e1];exact hh,fun hA=>by rw[e1];exact np hA⟩ ⟨((hU.congr fun j hj=>by rw[g2 j hj];rfl).below (fun _=>rfl) hW:RdK W Ar rules.length 2 (fun i=>pyS (l2.getD i pys0))) |> fun hh=>by rw[e2];exact hh,fun hA=>by rw[e2];exact nr hA⟩ (fun x hx=>(hX x hx).below (fun _=>rfl) hW)
  rw[hwi,e1,e2]at hw
  exact hw
 ·intro W hW h1 h2 h3
  exact hTri W hW (by simpa using h1) (by simpa using h2) (by simpa using h3)
