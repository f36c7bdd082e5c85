/- The walks and plain laws beneath the statements. -/
import Derived.Test.YtaelfkdjlioegaaGreatDoorQA1
import Derived.Laws.AppendOwnNone
namespace Go.Proofs.YtaelfkdjlioegaaGreatDoor
open Go Go.RowKit
def flatK(f:Nat→List Value): Nat→List Value|0=>[] | n+1=>flatK f n++f n
theorem flatK_len{f:Nat→List Value}{k:Nat}(h:∀j,(f j).length=k): ∀n,(flatK f n).length=n*k
 | 0=>by simp[flatK]
 | n+1=>by
  show(flatK f n++f n).length=_
  rw[List.length_append,flatK_len h n,h n,Nat.succ_mul]
theorem flatK_at{f:Nat→List Value}{k:Nat}(h:∀j,(f j).length=k): ∀ {n j i:Nat},j<n→i<k→(flatK f n)[j*k+i]?=(f j)[i]?
 | n+1,j,i,hj,hi=>by
  show(flatK f n++f n)[j*k+i]?=_
  have hl:=flatK_len h n
  by_cases e:j=n
  ·subst e
   rw[List.getElem?_append_right (by omega),hl,Nat.add_sub_cancel_left]
  ·have h1:j*k+i<n*k:=by
    have h2:(j+1)*k≤n*k:=Nat.mul_le_mul_right _ (by omega)
    rw[Nat.succ_mul]at h2
    omega
   rw[List.getElem?_append_left (by omega)]
   exact flatK_at h (by omega) hi
theorem flatK_congr{f g:Nat→List Value}: ∀ {n:Nat},(∀j,j<n→f j=g j)→flatK f n=flatK g n
 | 0,_=>rfl
 | n+1,h=>by
  show flatK f n++f n=flatK g n++g n
  rw[flatK_congr fun j hj=>h j (by omega),h n (by omega)]
theorem flatK_add(f:Nat→List Value)(n:Nat): ∀m,flatK f (n+m)=flatK f n++flatK (fun j=>f (n+j)) m
 | 0=>by simp[flatK]
 | m+1=>by
  show flatK f (n+m)++f (n+m)=flatK f n++(flatK (fun j=>f (n+j)) m++f (n+m))
  rw[flatK_add f n m,List.append_assoc]
def OwnK(w:World)(base:Nat)(e:TypeId)(k:Nat)(v:Value)(n:Nat)(f:Nat→List Value): Prop:=w.ownsRow base e k v n (flatK f n)
theorem OwnK.nil_(w:World)(base:Nat)(e:TypeId)(k:Nat)(f:Nat→List Value): OwnK w base e k (.slice none 0 0) 0 f:=⟨by simp[flatK],.inl ⟨rfl,rfl⟩⟩
theorem OwnK.congr{w:World}{base:Nat}{e:TypeId}{k:Nat}{v:Value}{n:Nat}{f f':Nat→List Value}(h:OwnK w base e k v n f)(hf:∀j,j<n→f j=f' j): OwnK w base e k v n f':=by
 unfold OwnK at *
 rwa [← flatK_congr hf]
theorem OwnK.below{w w':World}{base:Nat}{e:TypeId}{k:Nat}{v:Value}{n:Nat}{f:Nat→List Value}(h:OwnK w base e k v n f)(hb:Below w.heap.size w w'): OwnK w' base e k v n f :=
 World.ownsRow.kept (row:=none) h (grownBy_of_below hb none) (by
  rcases h.2 with⟨rfl,_⟩|⟨g,cap,cur,rfl,_⟩
  ·exact .inl rfl
  ·exact .inr (by simp[Value.ownBlock]))
theorem OwnK.drew{w:World}{base:Nat}{e:TypeId}{k:Nat}{v:Value}{n:Nat}{f:Nat→List Value}(h:OwnK w base e k v n f): OwnK w.drew base e k v n f:=h
def RdK(w:World)(A:Option Addr)(n k:Nat)(f:Nat→List Value): Prop:=0<n→∃b off,A=some ⟨b,off,none⟩∧∀j,j<n→∀i,i<k→w.cell? ⟨b,off+j*k+i,none⟩=(f j)[i]?
theorem OwnK.rd{w:World}{base:Nat}{e:TypeId}{k:Nat}{v:Value}{n:Nat}{f:Nat→List Value}(hk:∀j,(f j).length=k)(h:OwnK w base e k v n f): ∃A c,v=.slice A n c∧n≤c∧RdK w A n k f∧(∀a,A=some a→base≤a.block)∧(A=none→n=0∧c=0):=by
 rcases h.2 with⟨rfl,rfl⟩|⟨g,cap,cur,rfl,hb,hh,hn,_,hs,hx⟩
 ·exact⟨none,0,rfl,Nat.le_refl _,fun h=>absurd h (by decide),(fun a ha=>by cases ha),fun _=>⟨rfl,rfl⟩⟩
 ·refine⟨_,cap,rfl,hn,fun _=>⟨g,0,rfl,fun j hj i hi=>?_⟩,(fun a ha=>by injection ha with ha;subst ha;exact hb),fun h=>by cases h⟩
  rw[Nat.zero_add,cell_of_row w g (j*k+i) cur e (0,0) hh,← Array.getElem?_toList,← flatK_at hk hj hi,← hx,List.getElem?_take_of_lt]
  have h2:(j+1)*k≤n*k:=Nat.mul_le_mul_right _ (by omega)
  rw[Nat.succ_mul]at h2
  omega
theorem OwnK.far{w:World}{base:Nat}{e:TypeId}{k:Nat}{v:Value}{n:Nat}{f:Nat→List Value}(h:OwnK w base e k v n f){g:Nat}(hg:g<base): ∀(vs:List Value) (i:Nat),OwnK (setN w g i vs) base e k v n f:=by
 intro vs
 induction vs generalizing w with
 | nil=>intro i;exact h
 | cons x xs ih =>
  intro i
  refine ih (w:=w.setCell ⟨g,i,none⟩ x) ?_ (i+1)
  refine⟨h.1,?_⟩
  rcases h.2 with h0|⟨g',cap,cur,h1,hb,hh,h3⟩
  ·exact .inl h0
  ·exact .inr ⟨g',cap,cur,h1,hb,(Below.heap_setCell w ⟨g,i,none⟩ x g' (fun e=>by simp at e;omega)).trans hh,h3⟩
theorem Bx.base{w w':World}{g B:Nat}{t:TypeId}{cs:Array Value}(h:Bx w g t cs)(hb:Below B w w')(hg:g<B): Bx w' g t cs:=(hb.block g hg).trans h
section
variable {P:Program} {w:World} {ops:Array Oper} {rest:List Oper} {o:Oper} {a:Act} {Q:Exit→Act→World→Prop}
theorem wpList_appendK(hgd:o.guard=none)(s x:Operand)(t:TypeId)(ho:o.op=.call { callee:=.builtin .append,args:=#[s,x],argTypes:=#[t,t] })(base:Nat)(e:TypeId)(z:Value)(k bytes:Nat)(ht:P.underlying t=some (.slice e))(hinfo:(P.info? e).map (fun i=>(i.zero,i.size,i.bytes))=some (some z,k,bytes))(hz1:z.cells.size=k)(hk0:0<k)(v:Value)(n:Nat)(f:Nat→List Value)(hs:a.eval s=v)(hown:OwnK w base e k v n f)(ad:Addr)(m c:Nat)(g:Nat→List Value)(_:∀j,(f j).length=k)(hg:∀j,(g j).length=k)(h1:∀j u,u∈g j→u.oneCell'=true)(hx:a.eval x=.slice (some ad) m c)(had:ad.spot=none)(hnews:∀j,j<m→∀i,i<k→w.cell? ⟨ad.block,ad.off+j*k+i,none⟩=(g j)[i]?)(h63:n+m≤9223372036854775807)(hbytes:(n+m)*bytes≤140737488355328)(hbase:base≤w.heap.size)(h:∀v' w',OwnK w' base e k v' (n+m) (fun j=>if j<n then f j else g (j-n))→Below base w w'→wpList P ops Q rest (a.put o.dst v') w'):
  wpList P ops Q (o::rest) a w:=by
 obtain⟨i,hi,hz,hsz,hby⟩:=info_parts hinfo
 have hl:=flatK_len hg m
 refine wpList_append_own (P:=P) _ hgd s x t ho base e i z k bytes ht hi hz hsz hby hz1 hk0 v n (flatK f n) hs hown ad m c (flatK g m) hx hl ?_ ?_ (by unfold maxLen;omega) hbytes hbase ?_
 ·intro j u hj
  have hlt:j<m*k:=by rw[← hl];exact(List.getElem?_eq_some_iff.1 hj).1
  have e1:j=j / k*k+j % k:=by rw[Nat.mul_comm];exact(Nat.div_add_mod j k).symm
  have hjm:j / k<m:=(Nat.div_lt_iff_lt_mul hk0).2 hlt
  have hjk:j % k<k:=Nat.mod_lt _ hk0
  rw[e1,flatK_at hg hjm hjk]at hj
  obtain⟨blk,off,sl⟩:=ad
  obtain rfl:sl=none:=had
  rw[add_plain,e1,← Nat.add_assoc]
  exact(hnews _ hjm _ hjk).trans hj
 ·intro u hu
  have key:∀m,u∈flatK g m→u.oneCell'=true:=by
   intro m
   induction m with
   | zero=>intro h;cases h
   | succ m ih =>
    intro h
    rcases List.mem_append.1 h with h|h
    ·exact ih h
    ·exact h1 m u h
  exact key m hu
 ·intro v' w' hown' hgr _
  have e1:flatK f n++flatK g m=flatK (fun j=>if j<n then f j else g (j-n)) (n+m):=by
   rw[flatK_add]
   congr 1
   ·exact flatK_congr fun j hj=>by rw[if_pos hj]
   ·exact flatK_congr fun j _=>by rw[if_neg (by omega),Nat.add_sub_cancel_left]
  rw[e1]at hown'
  exact h v' w' hown' ((Below.refl _ _).grown hgr hbase (fun k hk=>(hown.lt k hk).1))
end
