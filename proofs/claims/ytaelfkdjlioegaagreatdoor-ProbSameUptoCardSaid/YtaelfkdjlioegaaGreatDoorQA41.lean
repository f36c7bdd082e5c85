/- The walks and plain laws beneath the statements. -/
import Derived.Test.YtaelfkdjlioegaaGreatDoorQA25
import Derived.Test.YtaelfkdjlioegaaGreatDoorQA36
namespace Go.Proofs.YtaelfkdjlioegaaGreatDoor
set_option maxRecDepth 100000
open Go Go.RowKit
abbrev PyS:Type:=Py×Option Addr×Nat
def pyS(x:PyS): List Value:=[.int .i64 x.1.vars,.slice x.2.1 x.1.ts.length x.2.2]
theorem pyS_len(x:PyS): (pyS x).length=2:=rfl
theorem pyS_one(x:PyS)(u:Value)(h:u∈pyS x): u.oneCell'=true:=by
 simp only[pyS,List.mem_cons,List.not_mem_nil,or_false]at h
 rcases h with rfl|rfl<;>rfl
def pys0:PyS:=(pyD,none,0)
section
variable {P:Program} {w0:World}
theorem zeroCells_rep{α:Type}{c:α→List Value}{k:Nat}(hc:∀x,(c x).length=k)(hk:0<k)(z0:α)(n:Nat): (Builtin.zeroCells (c z0).toArray n).toList=(List.replicate n z0).flatMap c:=by
 have hl:((List.replicate n z0).flatMap c).length=n*k:=by rw[flatMap_len hc,List.length_replicate]
 apply List.ext_getElem?
 intro j
 unfold Builtin.zeroCells
 by_cases hj:j<n*k
 ·have e1:j=j / k*k+j % k:=by rw[Nat.mul_comm];exact(Nat.div_add_mod j k).symm
  have hq:j / k<n:=(Nat.div_lt_iff_lt_mul hk).2 hj
  have hr:j % k<k:=Nat.mod_lt _ hk
  have h1:=flatMap_at (c:=c) hc (l:=List.replicate n z0) (j:=j / k) (i:=j % k) (by simpa using hq) hr
  rw[← e1,List.getElem_replicate]at h1
  rw[h1]
  have h2:j<n*(c z0).toArray.size:=by rw[List.size_toArray,hc];exact hj
  rw[Array.toList_map,List.getElem?_map]
  have h3:(Array.range (n*(c z0).toArray.size)).toList[j]?=some j:=by
   rw[Array.toList_range,List.getElem?_range h2]
  rw[h3]
  simp only[Option.map_some,List.size_toArray,hc]
  have h4:j % k<(c z0).length:=by rw[hc];exact hr
  rw[List.getElem?_eq_getElem h4]
  simp[h4]
 ·rw[List.getElem?_eq_none (by simp[hc];omega),List.getElem?_eq_none (by rw[hl];omega)]
theorem run_append_make{t u ty e:TypeId}{i:TypeInfo}{z:Value}(ht:P.underlying t=some (.slice e))(hu:P.underlying u=some (.int .i64))(hi:P.info? e=some i)(hz:i.zero=some z){n:Nat}(h0:0<n)(hzs:0<i.size)(hb1:n≤4294967296)(hb:n*i.bytes≤140737488355328)(w:World):
  (Builtin.append_ #[t,u] ty #[.slice none 0 0,.int .i64 (n:Int)]).run P w=.ok (.slice (some ⟨w.heap.size,0,none⟩) n (grownCap w n 0 e)) (w.drew.alloc (.cells (Builtin.zeroCells z.cells n++Builtin.zeroCells z.cells (grownCap w n 0 e-n)) e)):=by
 have hn:n≠0:=by omega
 have hw:IntKind.i64.wrap (n:Int)=(n:Int):=IntWalk.i64_in _ (by omega)
 have h1:¬((n:Int)<0):=by omega
 have h2:¬(281474976710656<(n:Int)*(i.bytes:Int)):=by
  have h3:(n:Int)*(i.bytes:Int)=((n*i.bytes:Nat):Int):=by simp
  omega
 have h63':¬(9223372036854775807<(n:Int)):=by omega
 have h48':¬(281474976710656<Builtin.nextslicecap n 0*i.bytes):=by rw[nextslicecap_zero h0];omega
 have hs0:i.size≠0:=by omega
 have h1':¬((n:Int)≤0):=by omega
 have hmx:max (n:Int) 0=n:=by omega
 simp[Builtin.append_,run_underlying ht,run_underlying hu,sizeOf,typeInfo,zeroValue,hi,hz,Builtin.lenOf,Builtin.firstCells,hn,h1,h2,h63',h48',hs0,hw,asInt,asIntOf,hmx,h1',Question.forced,newRow,grownCap]
 intro h
 exact absurd ((Nat.mul_eq_zero.1 h).resolve_left hn) hs0
theorem mk_make{α:Type}{t u ty e k bytes:Nat}{c:α→List Value}(hT:RowT P t t e k bytes)(hu:P.underlying u=some (.int .i64))(hc:∀x,(c x).length=k)(z0:α)(hz:∀i z,P.info? e=some i→i.zero=some z→z.cells=(c z0).toArray){n:Nat}(h0:0<n)(hb1:n≤4294967296)(hb:n*bytes≤140737488355328):
  NewP P w0 [] (fun y:Hp=>.slice y.1 n y.2) (fun y:Hp=>rowR e k c (List.replicate n z0) y.1 y.2) (bsem .append #[t,u] ty [.slice none 0 0,.int .i64 (n:Int)]):=fun W _=>by
 obtain⟨inf,z,e1,e2,e3,e4,e5⟩:=hT.info
 have hzc:=hz inf z e1 e2
 have hk:=hT.hk
 have hrun:=run_append_make (P:=P) (ty:=ty) hT.ht hu e1 e2 h0 (by rw[e3];exact hk) hb1 (by rw[e4];exact hb) W
 have hge:=grownCap_ge W n 0 e
 have hcm:grownCap W n 0 e≤maxLen:=grownCap_le_maxLen W n 0 e (by simp only[maxLen];omega)
 show NewR P W _ _ _
 refine⟨(some ⟨W.heap.size,0,none⟩,grownCap W n 0 e),.bool false,fun b=>b=W.heap.size,_,hrun,((Below.refl _ W).drew).alloc (Nat.le_refl _) _,(show _∧_∧_ from⟨rfl,⟨by rw[flatMap_len hc],.inr ⟨W.heap.size,_,_,by rw[List.length_replicate],Nat.zero_le _,heap_alloc_new W.drew _,by rw[List.length_replicate];exact hge,hcm,?_,?_⟩⟩,fun b=>⟨fun h=>by rw[h];rfl,fun h=>(Option.some.inj h).symm⟩⟩),fun b hb=>?_⟩
 ·rw[hzc]
  simp only[Array.size_append,size_zeroCells,List.size_toArray,hc,← Nat.add_mul]
  congr 1
  omega
 ·rw[hzc,Array.toList_append,zeroCells_rep hc hk,List.length_replicate,List.take_append_of_le_length (by rw[flatMap_len hc,List.length_replicate];exact Nat.le_refl _),List.take_of_length_le (by rw[flatMap_len hc,List.length_replicate];exact Nat.le_refl _)]
 ·subst hb
  simp
end
theorem pys_zero(i:TypeInfo)(z:Value)(h1:Tryz.prog.info? 48=some i)(h2:i.zero=some z): z.cells=(pyS pys0).toArray:=by
 have h3:((Tryz.prog.info? 48).bind fun i=>i.zero).map (fun z=>z.cells)=some (pyS pys0).toArray:=by kernel_rfl
 rw[h1,Option.bind_some,h2,Option.map_some]at h3
 exact Option.some.inj h3
open Go Go.RowKit
def chkW(o i:Bool)(nb:Nat)(t b:Int): Int:=bif !o then 1 else bif !i then 3 else bif (nb:Int)==0 then t else b
theorem check_x{Ab:Option Addr}{cb:Nat}{vs vp vr vc:Value}{o i:Bool}{t:Int}(x:PV)(hn:x.box.length≤4294967296)(hok:∀s,s∈x.box→okN s.1∧okN s.2)(w:World)(hT:Tab0 w)(hb:RdK w Ab x.box.length 6 (fun j=>spC (spAt x.box j)))(hO:∀W,Below w.heap.size w W→RetAt Tryz.prog W 23 #[.agg #[.int .i64 x.kind,.int .i64 x.vars,.slice Ab x.box.length cb,vs,vp,vr,.bool x.eps.b,.string x.eps.s,.int .i64 x.eps.e,.bool x.delta.b,.string x.delta.s,.int .i64 x.delta.e,.int .i64 x.budget,vc]] (.bool o))(hI:∀W,Below w.heap.size w W→(!o)=false→RetAt Tryz.prog W 24 #[.agg #[.int .i64 x.kind,.int .i64 x.vars,.slice Ab x.box.length cb,vs,vp,vr,.bool x.eps.b,.string x.eps.s,.int .i64 x.eps.e,.bool x.delta.b,.string x.delta.s,.int .i64 x.delta.e,.int .i64 x.budget,vc]] (.bool i))(hS:∀W,Below w.heap.size w W→(!o)=false→(!i)=false→((x.box.length:Int)==0)=true→RetAt Tryz.prog W 25 #[vs] (.int .i64 t)): RetAt Tryz.prog w 10 #[.agg #[.int .i64 x.kind,.int .i64 x.vars,.slice Ab x.box.length cb,vs,vp,vr,.bool x.eps.b,.string x.eps.s,.int .i64 x.eps.e,.bool x.delta.b,.string x.delta.s,.int .i64 x.delta.e,.int .i64 x.budget,vc]] (.int .i64 (chkW o i x.box.length t (chkBx x.box))) :=
 ret_sk ttOk mixed (fun a w=>Tryz.call10 a w) Tryz.func10 Tryz.ntmps10 Tryz.results10 _ rfl _ [.o 1 1 (.ret (bV o)),.both [] [.o 3 1 (.ret (bV i)),.both [] [.both [.o 6 3 (.ret (iV t))] [.o 7 3 (.ret (iV (chkBx x.box)))]]]] (fun W hW hR=>have HB:=hb.up hW (fun _=>rfl);(fun(hT:Tab0 W)=>ai (hO W hW)<|ai (fun h1:(!o)=true=>(show(.int .i64 1:Value)=.int .i64 (chkW o i x.box.length t (chkBx x.box))from by unfold chkW;rw[h1];rfl)) fun h1:(!o)=false=>ai (hI W hW h1)<|ai (fun h2:(!i)=true=>(show(.int .i64 3:Value)=.int .i64 (chkW o i x.box.length t (chkBx x.box))from by unfold chkW;rw[h1,h2];rfl)) fun h2:(!i)=false=>ai (fun he:((x.box.length:Int)==0)=true=>ai (hS W hW h1 h2 he)<|(show(.int .i64 t:Value)=.int .i64 (chkW o i x.box.length t (chkBx x.box))from by unfold chkW;rw[h1,h2,he];rfl)) fun he:((x.box.length:Int)==0)=false=>ai (bchk_r (c:=cb) hn hok W hT HB)<|(show(.int .i64 (chkBx x.box):Value)=.int .i64 (chkW o i x.box.length t (chkBx x.box))from by unfold chkW;rw[h1,h2,he];rfl)) (tab_keep hT hW)) fun W=>by kernel_rfl
open Go Go.RowKit
theorem bytes_eq{a b:ByteArray}: (a.toList==b.toList)=true↔a=b:=by
 rw[beq_iff_eq,ByteArray.toList_eq,ByteArray.toList_eq]
 exact⟨fun h=>ByteArray.ext (by simpa using h),fun h=>by rw[h]⟩
theorem nmE_iff{x y:Nm}: nmE x y=true↔x=y:=by
 obtain⟨a,s,e⟩:=x
 obtain⟨b,t,f⟩:=y
 unfold nmE
 rw[Bool.and_eq_true,Bool.and_eq_true,bytes_eq,beq_iff_eq,beq_iff_eq,Nm.mk.injEq]
 exact⟨fun h=>⟨h.1.1,h.1.2,h.2⟩,fun h=>⟨⟨h.1,h.2.1⟩,h.2.2⟩⟩
theorem tmE_iff{x y:Tm}: tmE x y=true↔x=y:=by
 obtain⟨m,c⟩:=x
 obtain⟨n,d⟩:=y
 unfold tmE
 rw[Bool.and_eq_true,bytes_eq,nmE_iff,Tm.mk.injEq]
theorem spE_iff{x y:Nm×Nm}: spE x y=true↔x=y:=by
 obtain⟨a,b⟩:=x
 obtain⟨c,d⟩:=y
 unfold spE
 rw[Bool.and_eq_true,nmE_iff,nmE_iff,Prod.mk.injEq]
theorem eqL_iff{α:Type}{d:α}{E:α→α→Bool}(hE:∀x y,E x y=true↔x=y){l l':List α}: eqL l.length l'.length (fun j=>E (l.getD j d) (l'.getD j d))=true↔l=l':=by
 constructor
 ·intro h
  unfold eqL at h
  cases h0:(l.length:Int) != (l'.length:Int)with
  | true=>rw[h0]at h;cases h
  | false =>
   rw[h0]at h
   have hlen:l.length=l'.length:=by
    have h1:(l.length:Int)=(l'.length:Int):=by simpa using h0
    omega
   have h2:anyB l.length (fun j=>!E (l.getD j d) (l'.getD j d))=false:=by simpa using h
   refine List.ext_getElem hlen fun j h3 h4=>?_
   by_cases h5:E (l.getD j d) (l'.getD j d)=true
   ·have h6:=(hE _ _).1 h5
    rwa [getD_at h3,getD_at h4]at h6
   ·have h7:=anyB_yes (n:=l.length) (k:=j) (f:=fun j=>!E (l.getD j d) (l'.getD j d)) h3 (by simpa using h5)
    rw[h7]at h2;cases h2
 ·rintro rfl
  unfold eqL
  rw[show((l.length:Int) != (l.length:Int))=false by simp,anyB_no fun j _=>(show(!E (l.getD j d) (l.getD j d))=false by rw[(hE _ _).2 rfl];rfl)]
  rfl
theorem tsE_iff{l l':List Tm}: tsE l l'=true↔l=l':=eqL_iff (d:=tmD) fun _ _=>tmE_iff
theorem ptE_iff{l l':List Nm}: ptE l l'=true↔l=l':=eqL_iff (d:=nm0) fun _ _=>nmE_iff
theorem bxE_iff{l l':List (Nm×Nm)}: bxE l l'=true↔l=l':=eqL_iff (d:=(nm0,nm0)) fun _ _=>spE_iff
theorem pyE_iff{x y:Py}: pyE x y=true↔x=y:=by
 obtain⟨v,t⟩:=x
 obtain⟨u,s⟩:=y
 unfold pyE
 rw[Bool.and_eq_true,beq_iff_eq,tsE_iff,Py.mk.injEq]
theorem ndE_iff{x y:Nd}: ndE x y=true↔x=y:=by
 obtain⟨v,t,p⟩:=x
 obtain⟨u,s,q⟩:=y
 unfold ndE
 rw[Bool.and_eq_true,Bool.and_eq_true,beq_iff_eq,nmE_iff,pyE_iff,Nd.mk.injEq,and_assoc]
theorem psE_iff{l l':List Py}: psE l l'=true↔l=l':=eqL_iff (d:=pyD) fun _ _=>pyE_iff
theorem ptsE_iff{l l':List (List Nm)}: ptsE l l'=true↔l=l':=eqL_iff (d:=[]) fun _ _=>ptE_iff
theorem ndsE_iff{l l':List Nd}: ndsE l l'=true↔l=l':=eqL_iff (d:=ndD) fun _ _=>ndE_iff
theorem sameB_iff{x y:PV}: sameB x y=true↔x=y:=by
 obtain⟨a1,a2,a3,a4,a5,a6,a7,a8,a9,a10⟩:=x
 obtain⟨b1,b2,b3,b4,b5,b6,b7,b8,b9,b10⟩:=y
 unfold sameB
 simp only[Bool.and_eq_true,beq_iff_eq,nmE_iff,bxE_iff,ptsE_iff,psE_iff,ndsE_iff,PV.mk.injEq]
 constructor
 ·rintro⟨⟨⟨⟨⟨⟨⟨⟨h1,h2⟩,h3⟩,h4⟩,h5⟩,h6,h7⟩,h8⟩,h9⟩,h10⟩
  exact⟨h1,h2,h6,h7,h8,h9,h3,h4,h5,h10⟩
 ·rintro⟨h1,h2,h6,h7,h8,h9,h3,h4,h5,h10⟩
  exact⟨⟨⟨⟨⟨⟨⟨⟨h1,h2⟩,h3⟩,h4⟩,h5⟩,h6,h7⟩,h8⟩,h9⟩,h10⟩
theorem sameB_eq(x y:PV): sameB x y=decide (x=y):=by
 by_cases h:x=y
 ·rw[decide_eq_true h,sameB_iff.2 h]
 ·rw[decide_eq_false h]
  cases e:sameB x y with
  | false=>rfl
  | true=>exact absurd (sameB_iff.1 e) h
