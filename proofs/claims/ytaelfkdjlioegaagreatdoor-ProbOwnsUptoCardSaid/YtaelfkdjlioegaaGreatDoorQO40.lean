/- The walks and plain laws beneath the statements. -/
import Derived.Test.YtaelfkdjlioegaaGreatDoorQO26
namespace Go.Proofs.YtaelfkdjlioegaaGreatDoor
set_option maxRecDepth 100000
open Go Go.RowKit
def chkW(o i:Bool)(nb:Nat)(t b:Int): Int:=bif !o then 1 else bif !i then 3 else bif (nb:Int)==0 then t else b
theorem check_x{Ab:Option Addr}{cb:Nat}{vs vp vr vc:Value}{o i:Bool}{t:Int}(x:PV)(hn:x.box.length≤4294967296)(hok:∀s,s∈x.box→okN s.1∧okN s.2)(w:World)(hT:Tab0 w)(hb:RdK w Ab x.box.length 6 (fun j=>spC (spAt x.box j)))(hO:∀W,Below w.heap.size w W→RetAt Tryz.prog W 23 #[.agg #[.int .i64 x.kind,.int .i64 x.vars,.slice Ab x.box.length cb,vs,vp,vr,.bool x.eps.b,.string x.eps.s,.int .i64 x.eps.e,.bool x.delta.b,.string x.delta.s,.int .i64 x.delta.e,.int .i64 x.budget,vc]] (.bool o))(hI:∀W,Below w.heap.size w W→(!o)=false→RetAt Tryz.prog W 24 #[.agg #[.int .i64 x.kind,.int .i64 x.vars,.slice Ab x.box.length cb,vs,vp,vr,.bool x.eps.b,.string x.eps.s,.int .i64 x.eps.e,.bool x.delta.b,.string x.delta.s,.int .i64 x.delta.e,.int .i64 x.budget,vc]] (.bool i))(hS:∀W,Below w.heap.size w W→(!o)=false→(!i)=false→((x.box.length:Int)==0)=true→RetAt Tryz.prog W 25 #[vs] (.int .i64 t)): RetAt Tryz.prog w 10 #[.agg #[.int .i64 x.kind,.int .i64 x.vars,.slice Ab x.box.length cb,vs,vp,vr,.bool x.eps.b,.string x.eps.s,.int .i64 x.eps.e,.bool x.delta.b,.string x.delta.s,.int .i64 x.delta.e,.int .i64 x.budget,vc]] (.int .i64 (chkW o i x.box.length t (chkBx x.box))) :=
 ret_sk ttOk mixed (fun a w=>Tryz.call10 a w) Tryz.func10 Tryz.ntmps10 Tryz.results10 _ rfl _ [.o 1 1 (.ret (bV o)),.both [] [.o 3 1 (.ret (bV i)),.both [] [.both [.o 6 3 (.ret (iV t))] [.o 7 3 (.ret (iV (chkBx x.box)))]]]] (fun W hW hR=>have HB:=hb.up hW (fun _=>rfl);(fun(hT:Tab0 W)=>ai (hO W hW)<|ai (fun h1:(!o)=true=>(show(.int .i64 1:Value)=.int .i64 (chkW o i x.box.length t (chkBx x.box))from by unfold chkW;rw[h1];rfl)) fun h1:(!o)=false=>ai (hI W hW h1)<|ai (fun h2:(!i)=true=>(show(.int .i64 3:Value)=.int .i64 (chkW o i x.box.length t (chkBx x.box))from by unfold chkW;rw[h1,h2];rfl)) fun h2:(!i)=false=>ai (fun he:((x.box.length:Int)==0)=true=>ai (hS W hW h1 h2 he)<|(show(.int .i64 t:Value)=.int .i64 (chkW o i x.box.length t (chkBx x.box))from by unfold chkW;rw[h1,h2,he];rfl)) fun he:((x.box.length:Int)==0)=false=>ai (bchk_r (c:=cb) hn hok W hT HB)<|(show(.int .i64 (chkBx x.box):Value)=.int .i64 (chkW o i x.box.length t (chkBx x.box))from by unfold chkW;rw[h1,h2,he];rfl)) (tab_keep hT hW)) fun W=>by kernel_rfl
open Go Go.RowKit
theorem bytes_eq{a b:ByteArray}: (a.toList==b.toList)=true↔a=b:=by
 rw[beq_iff_eq,ByteArray.toList_eq,ByteArray.toList_eq]
 exact⟨fun h=>ByteArray.ext (by simpa using h),fun h=>by rw[h]⟩
theorem nmE_iff{x y:Nm}: nmE x y=true↔x=y:=by
 obtain⟨a,s,e⟩:=x
 obtain⟨b,t,f⟩:=y
 unfold nmE
 rw[Bool.and_eq_true,Bool.and_eq_true,bytes_eq,beq_iff_eq,beq_iff_eq,Nm.mk.injEq]
 exact⟨fun h=>⟨h.1.1,h.1.2,h.2⟩,fun h=>⟨⟨h.1,h.2.1⟩,h.2.2⟩⟩
theorem tmE_iff{x y:Tm}: tmE x y=true↔x=y:=by
 obtain⟨m,c⟩:=x
 obtain⟨n,d⟩:=y
 unfold tmE
 rw[Bool.and_eq_true,bytes_eq,nmE_iff,Tm.mk.injEq]
theorem spE_iff{x y:Nm×Nm}: spE x y=true↔x=y:=by
 obtain⟨a,b⟩:=x
 obtain⟨c,d⟩:=y
 unfold spE
 rw[Bool.and_eq_true,nmE_iff,nmE_iff,Prod.mk.injEq]
theorem eqL_iff{α:Type}{d:α}{E:α→α→Bool}(hE:∀x y,E x y=true↔x=y){l l':List α}: eqL l.length l'.length (fun j=>E (l.getD j d) (l'.getD j d))=true↔l=l':=by
 constructor
 ·intro h
  unfold eqL at h
  cases h0:(l.length:Int) != (l'.length:Int)with
  | true=>rw[h0]at h;cases h
  | false =>
   rw[h0]at h
   have hlen:l.length=l'.length:=by
    have h1:(l.length:Int)=(l'.length:Int):=by simpa using h0
    omega
   have h2:anyB l.length (fun j=>!E (l.getD j d) (l'.getD j d))=false:=by simpa using h
   refine List.ext_getElem hlen fun j h3 h4=>?_
   by_cases h5:E (l.getD j d) (l'.getD j d)=true
   ·have h6:=(hE _ _).1 h5
    rwa [getD_at h3,getD_at h4]at h6
   ·have h7:=anyB_yes (n:=l.length) (k:=j) (f:=fun j=>!E (l.getD j d) (l'.getD j d)) h3 (by simpa using h5)
    rw[h7]at h2;cases h2
 ·rintro rfl
  unfold eqL
  rw[show((l.length:Int) != (l.length:Int))=false by simp,anyB_no fun j _=>(show(!E (l.getD j d) (l.getD j d))=false by rw[(hE _ _).2 rfl];rfl)]
  rfl
theorem tsE_iff{l l':List Tm}: tsE l l'=true↔l=l':=eqL_iff (d:=tmD) fun _ _=>tmE_iff
theorem ptE_iff{l l':List Nm}: ptE l l'=true↔l=l':=eqL_iff (d:=nm0) fun _ _=>nmE_iff
theorem bxE_iff{l l':List (Nm×Nm)}: bxE l l'=true↔l=l':=eqL_iff (d:=(nm0,nm0)) fun _ _=>spE_iff
theorem pyE_iff{x y:Py}: pyE x y=true↔x=y:=by
 obtain⟨v,t⟩:=x
 obtain⟨u,s⟩:=y
 unfold pyE
 rw[Bool.and_eq_true,beq_iff_eq,tsE_iff,Py.mk.injEq]
theorem ndE_iff{x y:Nd}: ndE x y=true↔x=y:=by
 obtain⟨v,t,p⟩:=x
 obtain⟨u,s,q⟩:=y
 unfold ndE
 rw[Bool.and_eq_true,Bool.and_eq_true,beq_iff_eq,nmE_iff,pyE_iff,Nd.mk.injEq,and_assoc]
theorem psE_iff{l l':List Py}: psE l l'=true↔l=l':=eqL_iff (d:=pyD) fun _ _=>pyE_iff
theorem ptsE_iff{l l':List (List Nm)}: ptsE l l'=true↔l=l':=eqL_iff (d:=[]) fun _ _=>ptE_iff
theorem ndsE_iff{l l':List Nd}: ndsE l l'=true↔l=l':=eqL_iff (d:=ndD) fun _ _=>ndE_iff
theorem sameB_iff{x y:PV}: sameB x y=true↔x=y:=by
 obtain⟨a1,a2,a3,a4,a5,a6,a7,a8,a9,a10⟩:=x
 obtain⟨b1,b2,b3,b4,b5,b6,b7,b8,b9,b10⟩:=y
 unfold sameB
 simp only[Bool.and_eq_true,beq_iff_eq,nmE_iff,bxE_iff,ptsE_iff,psE_iff,ndsE_iff,PV.mk.injEq]
 constructor
 ·rintro⟨⟨⟨⟨⟨⟨⟨⟨h1,h2⟩,h3⟩,h4⟩,h5⟩,h6,h7⟩,h8⟩,h9⟩,h10⟩
  exact⟨h1,h2,h6,h7,h8,h9,h3,h4,h5,h10⟩
 ·rintro⟨h1,h2,h6,h7,h8,h9,h3,h4,h5,h10⟩
  exact⟨⟨⟨⟨⟨⟨⟨⟨h1,h2⟩,h3⟩,h4⟩,h5⟩,h6,h7⟩,h8⟩,h9⟩,h10⟩
