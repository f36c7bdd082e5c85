/- The walks and plain laws beneath the statements. -/
import Derived.Test.YtaelfkdjlioegaaGreatDoorQO26
namespace Go.Proofs.YtaelfkdjlioegaaGreatDoor
open Go Go.RowKit
abbrev PyS:Type:=Py×Option Addr×Nat
def pyS(x:PyS): List Value:=[.int .i64 x.1.vars,.slice x.2.1 x.1.ts.length x.2.2]
theorem pyS_len(x:PyS): (pyS x).length=2:=rfl
theorem pyS_one(x:PyS)(u:Value)(h:u∈pyS x): u.oneCell'=true:=by
 simp only[pyS,List.mem_cons,List.not_mem_nil,or_false]at h
 rcases h with rfl|rfl<;>rfl
def pys0:PyS:=(pyD,none,0)
section
variable {P:Program} {w0:World}
theorem zeroCells_rep{α:Type}{c:α→List Value}{k:Nat}(hc:∀x,(c x).length=k)(hk:0<k)(z0:α)(n:Nat): (Builtin.zeroCells (c z0).toArray n).toList=(List.replicate n z0).flatMap c:=by
 have hl:((List.replicate n z0).flatMap c).length=n*k:=by rw[flatMap_len hc,List.length_replicate]
 apply List.ext_getElem?
 intro j
 unfold Builtin.zeroCells
 by_cases hj:j<n*k
 ·have e1:j=j / k*k+j % k:=by rw[Nat.mul_comm];exact(Nat.div_add_mod j k).symm
  have hq:j / k<n:=(Nat.div_lt_iff_lt_mul hk).2 hj
  have hr:j % k<k:=Nat.mod_lt _ hk
  have h1:=flatMap_at (c:=c) hc (l:=List.replicate n z0) (j:=j / k) (i:=j % k) (by simpa using hq) hr
  rw[← e1,List.getElem_replicate]at h1
  rw[h1]
  have h2:j<n*(c z0).toArray.size:=by rw[List.size_toArray,hc];exact hj
  rw[Array.toList_map,List.getElem?_map]
  have h3:(Array.range (n*(c z0).toArray.size)).toList[j]?=some j:=by
   rw[Array.toList_range,List.getElem?_range h2]
  rw[h3]
  simp only[Option.map_some,List.size_toArray,hc]
  have h4:j % k<(c z0).length:=by rw[hc];exact hr
  rw[List.getElem?_eq_getElem h4]
  simp[h4]
 ·rw[List.getElem?_eq_none (by simp[hc];omega),List.getElem?_eq_none (by rw[hl];omega)]
theorem run_append_make{t u ty e:TypeId}{i:TypeInfo}{z:Value}(ht:P.underlying t=some (.slice e))(hu:P.underlying u=some (.int .i64))(hi:P.info? e=some i)(hz:i.zero=some z){n:Nat}(h0:0<n)(hzs:0<i.size)(hb1:n≤4294967296)(hb:n*i.bytes≤140737488355328)(w:World):
  (Builtin.append_ #[t,u] ty #[.slice none 0 0,.int .i64 (n:Int)]).run P w=.ok (.slice (some ⟨w.heap.size,0,none⟩) n (grownCap w n 0 e)) (w.drew.alloc (.cells (Builtin.zeroCells z.cells n++Builtin.zeroCells z.cells (grownCap w n 0 e-n)) e)):=by
 have hn:n≠0:=by omega
 have hw:IntKind.i64.wrap (n:Int)=(n:Int):=IntWalk.i64_in _ (by omega)
 have h1:¬((n:Int)<0):=by omega
 have h2:¬(281474976710656<(n:Int)*(i.bytes:Int)):=by
  have h3:(n:Int)*(i.bytes:Int)=((n*i.bytes:Nat):Int):=by simp
  omega
 have h63':¬(9223372036854775807<(n:Int)):=by omega
 have h48':¬(281474976710656<Builtin.nextslicecap n 0*i.bytes):=by rw[nextslicecap_zero h0];omega
 have hs0:i.size≠0:=by omega
 have h1':¬((n:Int)≤0):=by omega
 have hmx:max (n:Int) 0=n:=by omega
 simp[Builtin.append_,run_underlying ht,run_underlying hu,sizeOf,typeInfo,zeroValue,hi,hz,Builtin.lenOf,Builtin.firstCells,hn,h1,h2,h63',h48',hs0,hw,asInt,asIntOf,hmx,h1',Question.forced,newRow,grownCap]
 intro h
 exact absurd ((Nat.mul_eq_zero.1 h).resolve_left hn) hs0
theorem mk_make{α:Type}{t u ty e k bytes:Nat}{c:α→List Value}(hT:RowT P t t e k bytes)(hu:P.underlying u=some (.int .i64))(hc:∀x,(c x).length=k)(z0:α)(hz:∀i z,P.info? e=some i→i.zero=some z→z.cells=(c z0).toArray){n:Nat}(h0:0<n)(hb1:n≤4294967296)(hb:n*bytes≤140737488355328):
  NewP P w0 [] (fun y:Hp=>.slice y.1 n y.2) (fun y:Hp=>rowR e k c (List.replicate n z0) y.1 y.2) (bsem .append #[t,u] ty [.slice none 0 0,.int .i64 (n:Int)]):=fun W _=>by
 obtain⟨inf,z,e1,e2,e3,e4,e5⟩:=hT.info
 have hzc:=hz inf z e1 e2
 have hk:=hT.hk
 have hrun:=run_append_make (P:=P) (ty:=ty) hT.ht hu e1 e2 h0 (by rw[e3];exact hk) hb1 (by rw[e4];exact hb) W
 have hge:=grownCap_ge W n 0 e
 have hcm:grownCap W n 0 e≤maxLen:=grownCap_le_maxLen W n 0 e (by simp only[maxLen];omega)
 show NewR P W _ _ _
 refine⟨(some ⟨W.heap.size,0,none⟩,grownCap W n 0 e),.bool false,fun b=>b=W.heap.size,_,hrun,((Below.refl _ W).drew).alloc (Nat.le_refl _) _,(show _∧_∧_ from⟨rfl,⟨by rw[flatMap_len hc],.inr ⟨W.heap.size,_,_,by rw[List.length_replicate],Nat.zero_le _,heap_alloc_new W.drew _,by rw[List.length_replicate];exact hge,hcm,?_,?_⟩⟩,fun b=>⟨fun h=>by rw[h];rfl,fun h=>(Option.some.inj h).symm⟩⟩),fun b hb=>?_⟩
 ·rw[hzc]
  simp only[Array.size_append,size_zeroCells,List.size_toArray,hc,← Nat.add_mul]
  congr 1
  omega
 ·rw[hzc,Array.toList_append,zeroCells_rep hc hk,List.length_replicate,List.take_append_of_le_length (by rw[flatMap_len hc,List.length_replicate];exact Nat.le_refl _),List.take_of_length_le (by rw[flatMap_len hc,List.length_replicate];exact Nat.le_refl _)]
 ·subst hb
  simp
end
theorem pys_zero(i:TypeInfo)(z:Value)(h1:Tryz.prog.info? 48=some i)(h2:i.zero=some z): z.cells=(pyS pys0).toArray:=by
 have h3:((Tryz.prog.info? 48).bind fun i=>i.zero).map (fun z=>z.cells)=some (pyS pys0).toArray:=by kernel_rfl
 rw[h1,Option.bind_some,h2,Option.map_some]at h3
 exact Option.some.inj h3
