/- The walks and plain laws beneath the statements. -/
import Derived.Test.YtaelfkdjlioegaaGreatDoorQG1
import Derived.Laws.AppendOwnNone
namespace Go.Proofs.YtaelfkdjlioegaaGreatDoor
open Go Go.RowKit
variable{k base n:Nat}{e:TypeId}{v:Value}
def YE(f:Nat→List Value): Nat→List Value|0=>[] | n+1=>YE f n++f n
theorem BO{f:Nat→List Value}(h:∀j,(f j).length=k): ∀n,(YE f n).length=n*k
 | 0=>by simp[YE]
 | n+1=>by
  show(YE f n++f n).length=_
  rw[Lg,BO h n,h n,Rr]
theorem DW{f:Nat→List Value}(h:∀j,(f j).length=k): ∀ {n j i:Nat},j<n→i<k→(YE f n)[j*k+i]?=(f j)[i]?
 | n+1,j,i,hj,hi=>by
  show(YE f n++f n)[j*k+i]?=_
  have hl:=BO h n
  by_cases e:j=n
  ·subst e
   rw[List.getElem?_append_right (by omega),hl,S6]
  ·have h1:j*k+i<n*k:=by
    have h2:(j+1)*k≤n*k:=Lo _ (by omega)
    rw[Rr]at h2
    omega
   rw[List.getElem?_append_left (by omega)]
   exact DW h (by omega) hi
theorem JF{f g:Nat→List Value}: ∀ {n:Nat},(∀j,j<n→f j=g j)→YE f n=YE g n
 | 0,_=>rfl
 | n+1,h=>by
  show YE f n++f n=YE g n++g n
  rw[JF fun j hj=>h j (by omega),h n (by omega)]
theorem FE(f:Nat→List Value)(n:Nat): ∀m,YE f (n+m)=YE f n++YE (fun j=>f (n+j)) m
 | 0=>by simp[YE]
 | m+1=>by
  show YE f (n+m)++f (n+m)=YE f n++(YE (fun j=>f (n+j)) m++f (n+m))
  rw[FE f n m,List.append_assoc]
def OwnK(w:World)(base:Nat)(e:TypeId)(k:Nat)(v:Value)(n:Nat)(f:Nat→List Value): Prop:=w.ownsRow base e k v n (YE f n)
theorem OwnK.nil_(w:World)(base:Nat)(e:TypeId)(k:Nat)(f:Nat→List Value): OwnK w base e k (.slice none 0 0) 0 f:=⟨by simp[YE],.inl ⟨rfl,rfl⟩⟩
theorem OwnK.congr{w:World}{f f':Nat→List Value}(h:OwnK w base e k v n f)(hf:∀j,j<n→f j=f' j): OwnK w base e k v n f':=by
 unfold OwnK at *
 rwa [← JF hf]
theorem OwnK.below{w w':World}{f:Nat→List Value}(h:OwnK w base e k v n f)(hb:Below w.heap.size w w'): OwnK w' base e k v n f :=
 World.ownsRow.kept (row:=none) h (KS hb none) (by
  rcases h.2 with⟨rfl,_⟩|⟨g,cap,cur,rfl,_⟩
  ·exact .inl rfl
  ·exact .inr (by simp[Value.ownBlock]))
def RdK(w:World)(A:Option Addr)(n k:Nat)(f:Nat→List Value): Prop:=0<n→∃b off,A=some ⟨b,off,none⟩∧∀j,j<n→∀i,i<k→w.cell? ⟨b,off+j*k+i,none⟩=(f j)[i]?
theorem OwnK.rd{w:World}{f:Nat→List Value}(hk:∀j,(f j).length=k)(h:OwnK w base e k v n f): ∃A c,v=.slice A n c∧n≤c∧RdK w A n k f∧(∀a,A=some a→base≤a.block)∧(A=none→n=0∧c=0):=by
 rcases h.2 with⟨rfl,rfl⟩|⟨g,cap,cur,rfl,hb,hh,hn,_,hs,hx⟩
 ·exact⟨none,0,rfl,L3 _,fun h=>absurd h (by decide),(fun a ha=>by cases ha),fun _=>⟨rfl,rfl⟩⟩
 ·refine⟨_,cap,rfl,hn,fun _=>⟨g,0,rfl,fun j hj i hi=>?_⟩,(fun a ha=>by injection ha with ha;subst ha;exact hb),fun h=>by cases h⟩
  rw[Ld,cell_of_row w g (j*k+i) cur e (0,0) hh,← Array.getElem?_toList,← DW hk hj hi,← hx,List.getElem?_take_of_lt]
  have h2:(j+1)*k≤n*k:=Lo _ (by omega)
  rw[Rr]at h2
  omega
section
variable {P:Program} {w:World} {ops:Array Oper} {rest:List Oper} {o:Oper} {a:Act} {Q:Exit→Act→World→Prop}
theorem Cb(hgd:o.guard=none)(s x:Operand)(t:TypeId)(ho:o.op=.call { callee:=.builtin .append,args:=#[s,x],argTypes:=#[t,t] })(base:Nat)(e:TypeId)(z:Value)(k bytes:Nat)(ht:P.underlying t=some (.slice e))(hinfo:(P.info? e).map (fun i=>(i.zero,i.size,i.bytes))=some (some z,k,bytes))(hz1:z.cells.size=k)(hk0:0<k)(v:Value)(n:Nat)(f:Nat→List Value)(hs:a.eval s=v)(hown:OwnK w base e k v n f)(ad:Addr)(m c:Nat)(g:Nat→List Value)(_:∀j,(f j).length=k)(hg:∀j,(g j).length=k)(h1:∀j u,u∈g j→u.oneCell'=true)(hx:a.eval x=.slice (some ad) m c)(had:ad.spot=none)(hnews:∀j,j<m→∀i,i<k→w.cell? ⟨ad.block,ad.off+j*k+i,none⟩=(g j)[i]?)(h63:n+m≤9223372036854775807)(hbytes:(n+m)*bytes≤140737488355328)(hbase:base≤w.heap.size)(h:∀v' w',OwnK w' base e k v' (n+m) (fun j=>if j<n then f j else g (j-n))→Below base w w'→wpList P ops Q rest (a.put o.dst v') w'):
  wpList P ops Q (o::rest) a w:=by
 obtain⟨i,hi,hz,hsz,hby⟩:=info_parts hinfo
 have hl:=BO hg m
 refine wpList_append_own (P:=P) _ hgd s x t ho base e i z k bytes ht hi hz hsz hby hz1 hk0 v n (YE f n) hs hown ad m c (YE g m) hx hl ?_ ?_ (by unfold maxLen;omega) hbytes hbase ?_
 ·intro j u hj
  have hlt:j<m*k:=by rw[← hl];exact(List.getElem?_eq_some_iff.1 hj).1
  have e1:j=j / k*k+j % k:=by rw[Lh];exact(S8 j k).symm
  have hjm:j / k<m:=(Li hk0).2 hlt
  have hjk:j % k<k:=Ly _ hk0
  rw[e1,DW hg hjm hjk]at hj
  obtain⟨blk,off,sl⟩:=ad
  obtain rfl:sl=none:=had
  rw[Q9,e1,← Sb]
  exact(hnews _ hjm _ hjk).trans hj
 ·intro u hu
  have key:∀m,u∈YE g m→u.oneCell'=true:=by
   intro m
   induction m with
   | zero=>intro h;cases h
   | succ m ih =>
    intro h
    rcases Rj.1 h with h|h
    ·exact ih h
    ·exact h1 m u h
  exact key m hu
 ·intro v' w' hown' hgr _
  have e1:YE f n++YE g m=YE (fun j=>if j<n then f j else g (j-n)) (n+m):=by
   rw[FE]
   congr 1
   ·exact JF fun j hj=>by rw[if_pos hj]
   ·exact JF fun j _=>by rw[if_neg (by omega),S6]
  rw[e1]at hown'
  exact h v' w' hown' ((Below.refl _ _).grown hgr hbase (fun k hk=>(hown.lt k hk).1))
end
theorem OwnR.one(w:World)(base:Nat)(e:TypeId)(u:Value)(hb:base≤w.heap.size): OwnR (w.alloc (.cells #[u] e)) base e (.slice (some ⟨w.heap.size,0,none⟩) 1 1) 1 (fun _=>u) :=
 ⟨by simp,.inr ⟨w.heap.size,1,#[u],rfl,hb,heap_alloc_new w _,L3 _,by unfold maxLen;omega,rfl,rfl⟩⟩
section
variable {P:Program} {w:World} {ops:Array Oper} {rest:List Oper} {o:Oper} {a:Act} {Q:Exit→Act→World→Prop}
theorem BJ(hgd:o.guard=none)(s x:Operand)(t:TypeId)(ho:o.op=.call { callee:=.builtin .append,args:=#[s,x],argTypes:=#[t,t] })(base:Nat)(e:TypeId)(z:Value)(bytes:Nat)(ht:P.underlying t=some (.slice e))(hinfo:(P.info? e).map (fun i=>(i.zero,i.size,i.bytes))=some (some z,1,bytes))(hz1:z.cells.size=1)(v:Value)(n:Nat)(f:Nat→Value)(A:Option Addr)(m c:Nat)(h:Nat→Value)(hs:a.eval s=v)(hx:a.eval x=.slice A m c)(hA:A=none→m=0∧c=0)(hown:OwnR w base e v n f)(hr:Rd w A m h)(hu:∀j,(h j).oneCell'=true)(h63:n+m≤maxLen)(hbytes:(n+m)*bytes≤140737488355328)(hbase:base≤w.heap.size)(k:∀v' w',OwnR w' base e v' (n+m) (fun j=>if j<n then f j else h (j-n))→Below base w w'→w.grownBy w' v.ownBlock→wpList P ops Q rest (a.put o.dst v') w'):
  wpList P ops Q (o::rest) a w:=by
 obtain⟨i,hi,hz,hsz,hby⟩:=info_parts hinfo
 rcases A with _|ad
 ·obtain⟨rfl,rfl⟩:=hA rfl
  refine wpList_append_own_none (P:=P) hgd s x t ho base e i 1 ht hi v n ((List.range n).map f) hs hown hx ?_
  refine k v w ?_ (Below.refl _ _) (World.grownBy.refl _ _)
  exact hown.congr fun j hj=>by rw[if_pos hj]
 ·refine wpList_append_own (P:=P) _ hgd s x t ho base e i z 1 bytes ht hi hz hsz hby hz1 (by decide) v n ((List.range n).map f) hs hown ad m c ((List.range m).map h) hx (by simp) ?_ ?_ h63 hbytes hbase ?_
  ·intro j u' hj
   by_cases hm:j<m
   ·obtain⟨b,off,e1,hc⟩:=hr (by omega)
    injection e1 with e1
    subst e1
    have:u'=h j:=by simp[hm]at hj;exact hj.symm
    subst this
    rw[Q9];exact hc j hm
   ·simp[hm]at hj
  ·intro u' hu'
   obtain⟨j,_,rfl⟩:=R5.1 hu'
   exact hu j
  ·intro v' w' hown' hg _
   have e1:((List.range n).map f)++((List.range m).map h)=(List.range (n+m)).map (fun j=>if j<n then f j else h (j-n)):=by
    rw[List.range_add,Sj,List.map_map]
    congr 1
    ·exact T5 fun j hj=>by
      have:j<n:=by simpa using hj
      rw[if_pos this]
    ·exact T5 fun j _=>by
      show h j=if n+j<n then f (n+j)else h (n+j-n)
      rw[if_neg (by omega),S6]
   rw[e1]at hown'
   exact k v' w' hown' ((Below.refl _ _).grown hg hbase (fun k hk=>(hown.lt k hk).1)) hg
end
theorem gM(u v q:Nat)(hv:0<v):
  2*(u / 2^(q+1) % v)+Ql 2 u q<2*v ∧
  (2*(u / 2^(q+1) % v)+Ql 2 u q<v→u / 2^q % v=2*(u / 2^(q+1) % v)+Ql 2 u q∧Ql 2 (u / v) q=0) ∧
  (v≤2*(u / 2^(q+1) % v)+Ql 2 u q→u / 2^q % v=2*(u / 2^(q+1) % v)+Ql 2 u q-v∧Ql 2 (u / v) q=1):=by
 have e1:u / 2^q=2*(u / 2^(q+1))+Ql 2 u q:=by
  have h:=S8 (u / 2^q) 2
  rw[R4,← Lx]at h
  exact h.symm
 have e2:Ql 2 (u / v) q=u / 2^q / v % 2:=by
  unfold Ql;rw[R4,Lh,← R4]
 have hd:Ql 2 u q<2:=Q8 (by decide) _ _
 have hm:=S8 (u / 2^(q+1)) v
 have hr:=Ly (u / 2^(q+1)) hv
 rw[e2]
 generalize u / 2^(q+1) % v=r at *
 generalize u / 2^(q+1) / v=t at *
 generalize Ql 2 u q=d at *
 have e3:u / 2^q=(2*r+d)+v*(2*t):=by
  rw[e1,← hm,Re,Nat.mul_left_comm];omega
 rw[e3]
 refine⟨by omega,fun h=>?_,fun h=>?_⟩
 ·rw[T9,Lz h,Ru _ _ hv,Rz h]
  exact⟨rfl,by omega⟩
 ·rw[T9,Nat.mod_eq_sub_mod h,Lz (by omega),Ru _ _ hv,Nat.div_eq_sub_div hv h,Rz (by omega)]
  exact⟨rfl,by omega⟩
theorem NZ(r d j:Nat)(hd:d<2): Ql 2 (2*r+d) j=if j<1 then d else Ql 2 r (j-1):=by
 by_cases h:j<1
 ·obtain rfl:j=0:=by omega
  rw[if_pos h];unfold Ql;rw[Sl,Nat.div_one];omega
 ·rw[if_neg h]
  obtain⟨i,rfl⟩:∃i,j=1+i:=⟨j-1,by omega⟩
  rw[S6]
  unfold Ql
  rw[Ll,← R4,Rn]
  congr 2
  omega
