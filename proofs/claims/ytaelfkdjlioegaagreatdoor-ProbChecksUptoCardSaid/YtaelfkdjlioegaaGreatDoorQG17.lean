/- The walks and plain laws beneath the statements. -/
import Derived.Test.YtaelfkdjlioegaaGreatDoorQG16
import Derived.Test.YtaelfkdjlioegaaGreatDoorQG3
namespace Go.Proofs.YtaelfkdjlioegaaGreatDoor
open Go Go.RowKit
theorem RdK.up{w w':World}{A:Option Addr}{n k:Nat}{f:Nat→List Value}(h:RdK w A n k f)(hb:Below w.heap.size w w')(hk:∀j,(f j).length=k): RdK w' A n k f:=h.below hk hb
theorem qV(a:Value): a=a:=rfl
theorem qI(a:Int): a=a:=rfl
theorem qB(a:Bool): a=a:=rfl
theorem qS(a:ByteArray): a=a:=rfl
abbrev tS(k v:Int)(b:Option Addr)(nb cb:Nat)(s:Option Addr)(ns cs:Nat)(p:Option Addr)(np cp:Nat)(r:Option Addr)(nr cr:Nat)(e d:Nm)(u:Int)(c:Option Addr)(nc cc:Nat): List SV:=[iV k,iV v,lV b nb cb,lV s ns cs,lV p np cp,lV r nr cr,bV e.b,sV e.s,iV e.e,bV d.b,sV d.s,iV d.e,iV u,lV c nc cc]
theorem JL(R:Res)(x:Value)(S:Nat→Prop)(w:World)(h:R.φ x S w): R.φ x S w:=h
theorem Qm{a b:Nat}(h:decide ((a:Int)<(b:Int))=true): a<b:=by have:=L1 h;omega
theorem geq{a b:Nat}(h:decide ((a:Int)<(b:Int))=false): b≤a:=by have:=La h;omega
def QJ(A:Option Addr)(i:Nat): Addr:=match A with|some a=>⟨a.block,a.off+i,none⟩|none=>⟨0,i,none⟩
section
variable {P:Program} {w0:World} {t:TypeId} {ti:TI} {A:Option Addr} {n c k:Nat} {f:Nat→List Value}
theorem RdK.adr_{i o:Nat}(h:RdK w0 A n k f)(hi:i<n)(ho:o<k): w0.cell? (QJ A (i*k+o))=(f i)[o]?:=by
 obtain⟨b,off,rfl,hc⟩:=h (by omega)
 show w0.cell? ⟨b,off+(i*k+o),none⟩=_
 rw[← Sb]
 exact hc i hi o ho
theorem Ka{e sz:Nat}{ag:Option Bool}(hi:XT P t=some ti)(hk:ti.k=.slice e sz ag)(hz:sz≠0)(hr:RdK w0 A n k f){i:Nat}(h:i<n):
  Qt P w0 (Instr.indexAt t (.slice A n c) (.int .i64 (i:Int))) (.pointer (some (QJ A (i*sz)))):=fun W _=>by
 obtain⟨b,off,rfl,_⟩:=hr (by omega)
 exact FF hi hk h hz
theorem lJ{fs:List (Nat×Nat×Option Bool)}{j off sz o:Nat}{ag:Option Bool}(hi:XT P t=some ti)(hk:ti.k=.struct fs)(h:Ks fs j=some (off,sz,ag))(hz:sz≠0):
  Qt P w0 (Instr.fieldAt t (.pointer (some (QJ A o))) j) (.pointer (some (QJ A (o+off)))):=fun W _=>by
 cases A with
 | none=>exact Dv hi hk h hz
 | some a =>
  have h1:=Dv (P:=P) (w:=W) (g:=a.block) (o:=a.off+o) hi hk h hz
  rw[Sb]at h1
  exact h1
theorem Zx{fs:List (Nat×Nat×Option Bool)}{j off sz i o:Nat}{ag:Option Bool}(hi:XT P t=some ti)(hk:ti.k=.struct fs)(h:Ks fs j=some (off,sz,ag))(hz:sz≠0):
  Qt P w0 (Instr.fieldAt t (.pointer (some (QJ A (i*k+o)))) j) (.pointer (some (QJ A (i*k+(o+off))))):=by
 rw[← Sb]
 exact lJ hi hk h hz
theorem Db{i o:Nat}{v:Value}(hi:XT P t=some ti)(ha:ti.k.agg=false)(hr:RdK w0 A n k f)(hin:i<n)(ho:o<k)(hv:(f i)[o]?=some v):
  Qt P w0 (Instr.loadAt t (.pointer (some (QJ A (i*k+o))))) v:=fun W hb=>by
 have h1:W.cell? (QJ A (i*k+o))=some v:=L7 hb ((hr.adr_ hin ho).trans hv)
 simp[Instr.loadAt,Instr.sureAddr,loadVar,Ig hi,ha,h1]
theorem C3{i o:Nat}{l:List Value}(hi:XT P t=some ti)(ha:ti.k.agg=true)(hr:RdK w0 A n k f)(hin:i<n)(hl:l.length=ti.size)(ho:o+ti.size≤k)(hv:((f i).drop o).take ti.size=l):
  Qt P w0 (Instr.loadAt t (.pointer (some (QJ A (i*k+o))))) (.agg l.toArray):=fun W hb=>by
 have h1:=run_loadCells_list (P:=P) W (QJ A (i*k+o)) l (fun j v hj=>by
  have h2:j<ti.size:=by rw[← hl];exact(List.getElem?_eq_some_iff.1 hj).1
  have h3:=hr.adr_ hin (show o+j<k by omega)
  rw[← hv,List.getElem?_take_of_lt h2,List.getElem?_drop]at hj
  rw[hj]at h3
  have h4:=L7 hb h3
  obtain⟨b,off,rfl,_⟩:=hr (by omega)
  rw[show(QJ (some ⟨b,off,none⟩) (i*k+o)).add j=QJ (some ⟨b,off,none⟩) (i*k+(o+j))from by
   show(⟨b,off+(i*k+o),none⟩:Addr).add j=⟨b,off+(i*k+(o+j)),none⟩
   rw[Q9];congr 1;omega]
  exact h4)
 rw[hl]at h1
 simp[Instr.loadAt,Instr.sureAddr,loadVar,Ig hi,ha,DO hi,h1]
end
section
variable {P:Program} {w0:World} {σ:St}
structure RowT (P:Program) (t t2:TypeId) (e:TypeId) (k bytes:Nat):Prop where
 ht:P.underlying t=some (.slice e)
 ht2:∃e2,P.underlying t2=some (.slice e2)
 hi:(P.info? e).map (fun i=>(i.zero.map (·.cells.size),i.size,i.bytes))=some (some k,k,bytes)
 hk:0<k
 hb:0<bytes
theorem RowT.info{t t2 e k bytes:Nat}(h:RowT P t t2 e k bytes): ∃i z,P.info? e=some i∧i.zero=some z∧i.size=k∧i.bytes=bytes∧z.cells.size=k:=by
 have h1:=h.hi
 cases e1:P.info? e with
 | none=>rw[e1]at h1;cases h1
 | some i =>
  rw[e1]at h1
  cases e2:i.zero with
  | none=>simp[e2]at h1
  | some z =>
   simp[e2]at h1
   exact⟨i,z,rfl,e2,h1.2.1,h1.2.2,h1.1⟩
theorem K2{t t2 ty e e2:TypeId}(ht:P.underlying t=some (.slice e))(ht2:P.underlying t2=some (.slice e2))(A:Option Addr)(n cp:Nat)(x:Value)(w:World): (Builtin.append_ #[t,t2] ty #[.slice A n cp,x]).run P w=(Builtin.append_ #[t,t] ty #[.slice A n cp,x]).run P w:=by
 simp[Builtin.append_,run_underlying ht,run_underlying ht2]
def JN{α:Type}(c:α→List Value)(l2:List α)(w:World)(v:Value): Prop:=(∃a cp,v=.slice (some a) l2.length cp∧∀j u,(l2.flatMap c)[j]?=some u→w.cell? (a.add j)=some u)∨(v=.slice none 0 0∧l2=[])
theorem BL{t ty e:TypeId}{i:TypeInfo}{z:Value}{size bytes:Nat}{w w':World}(ht:P.underlying t=some (.slice e))(hi:P.info? e=some i)(hz:i.zero=some z)(hsize:i.size=size)(hby:i.bytes=bytes)(hzs:z.cells.size=size)(hsz:0<size){v v':Value}{n:Nat}{xs:List Value}(hown:w.ownsRow 0 e size v n xs){a:Addr}{m c:Nat}{news:List Value}(hl:news.length=m*size)(hnews:∀j u,news[j]?=some u→w.cell? (a.add j)=some u)(h1:∀u∈news,u.oneCell'=true)(h63:n+m≤maxLen)(hbytes:(n+m)*bytes≤140737488355328)(hrun:(Builtin.append_ #[t,t] ty #[v,.slice (some a) m c]).run P w=.ok v' w'): ∀b,v'.ownBlock=some b→v.ownBlock=some b∨b=w.heap.size∨w.heap.size≤b:=by
 intro b hb
 rcases hown.2 with⟨rfl,rfl⟩|⟨g,cap,cur,rfl,hbg,hg,hnc,hcm,hcs,htake⟩
 ·have hown2:w.ownsRow w.heap.size e size (.slice none 0 0) 0 xs:=⟨hown.1,.inl ⟨rfl,rfl⟩⟩
  obtain⟨v2,w2,h2,h3,_⟩:=run_append_own (P:=P) w w.heap.size t ty e i z size bytes ht hi hz hsize hby hzs hsz _ _ _ hown2 a m c news hl hnews h1 h63 hbytes (L3 _)
  rw[hrun]at h2
  obtain⟨rfl,rfl⟩:v'=v2∧w'=w2:=by injection h2 with a b;exact⟨a,b⟩
  exact .inr (.inr (h3.lt b hb).1)
 ·by_cases hroom:n+m≤cap
  ·obtain⟨w2,h2,_⟩:=run_append_fits (P:=P) w 0 t ty e i size ht hi hsize g n cap xs hown a m c news hl hnews h1 hroom
   rw[hrun]at h2
   obtain⟨rfl,rfl⟩:v'=_∧w'=w2:=by injection h2 with a b;exact⟨a,b⟩
   exact .inl hb
  ·subst hsize
   subst hby
   have hsmall:n+m≤9223372036854775807:=by simp only[maxLen]at h63;omega
   have holds:∀j u,xs[j]?=some u→w.cell? ((⟨g,0,none⟩:Addr).add j)=some u:=hown.cells (g:=g) rfl
   have h2:=run_append_grow (P:=P) w t ty e i z ht hi hz ⟨g,0,none⟩ n cap xs hown.1 holds a m c news hl hnews (by omega) (by omega) (growslice_fits (by omega) hbytes)
   rw[hrun]at h2
   injection h2 with h2 _
   subst h2
   simp only[Value.ownBlock,Option.some.injEq]at hb
   exact .inr (.inl hb.symm)
theorem AT{α:Type}{t t2 ty e k bytes:Nat}{c:α→List Value}{l l2 l':List α}{A:Option Addr}{cp:Nat}{u:Value}(hT:RowT P t t2 e k bytes)(hc:∀x,(c x).length=k)(h1:∀x u,u∈c x→u.oneCell'=true)(hl:l++l2=l')(hb:l'.length*bytes≤140737488355328){W:World}(hx:JN c l2 W u){x:Value}{S:Nat→Prop}(hφ:(Qd e k c l A cp).φ x S W): VP P W (fun y:Hp=>.slice y.1 l'.length y.2) (fun y:Hp=>Qd e k c l' y.1 y.2) x S (Kt .append #[t,t2] ty [.slice A l.length cp,u]):=by
 subst hl
 obtain⟨inf,z,e1,e2,e3,e4,e5⟩:=hT.info
 obtain⟨e2',ht2⟩:=hT.ht2
 obtain⟨hx0,hown,hSb⟩:=(show _∧_∧_ from hφ)
 have hlen:(l.flatMap c++l2.flatMap c)=(l++l2).flatMap c:=by simp
 have hnn:l.length+l2.length=(l++l2).length:=by simp
 have hmax:(l++l2).length≤maxLen:=by
  have h2:=hT.hb
  have h3:(l++l2).length≤(l++l2).length*bytes:=S5 _ h2
  simp only[maxLen];omega
 rcases hx with⟨ad,cp2,ex,hcell⟩|⟨ex,e0⟩
 ·obtain⟨v',w',hrun,hown',hgr,_⟩:=run_append_own (P:=P) W 0 t ty e inf z k bytes hT.ht e1 e2 e3 e4 e5 hT.hk _ _ _ hown ad l2.length cp2 (l2.flatMap c) (QP hc l2) hcell (fun u hu=>by
   obtain⟨x,_,hx⟩:=U9.1 hu
   exact h1 x u hx) (by rw[hnn];exact hmax) (by rw[hnn];exact hb) (L9 _)
  rw[hlen,hnn]at hown'
  obtain⟨A',cp',rfl⟩:∃A' cp',v'=.slice A' (l++l2).length cp':=by
   rcases hown'.2 with⟨rfl,e6⟩|⟨g,cap,cur,rfl,_⟩
   ·exact⟨none,0,by rw[e6]⟩
   ·exact⟨_,_,rfl⟩
  refine⟨(A',cp'),(fun b=>(Value.slice A' (l++l2).length cp').ownBlock=some b),w',?_,Trn.of_grown hgr fun k hk=>(hSb k).2 hk,(show _∧_∧_ from⟨hx0,hown',fun b=>Iff.rfl⟩),fun b hb2=>?_⟩
  ·simp only[Kt]
   rw[ex,K2 hT.ht ht2]
   exact hrun
  ·have h2:=hown'.lt b hb2
   refine⟨?_,h2.2⟩
   rcases BL hT.ht e1 e2 e3 e4 e5 hT.hk hown (QP hc l2) hcell (fun u hu=>by
    obtain⟨x,_,hx⟩:=U9.1 hu
    exact h1 x u hx) (by rw[hnn];exact hmax) (by rw[hnn];exact hb) hrun b hb2 with h3|h3|h3
   ·exact .inl ((hSb b).2 h3)
   ·exact .inr (Nat.le_of_eq h3.symm)
   ·exact .inr h3
 ·subst e0
  have hrun:=run_append_owned_none (P:=P) W 0 t ty e inf k hT.ht e1 (.slice A l.length cp) l.length _ hown
  have happ:l++[]=l:=Sc l
  refine⟨(A,cp),S,W,?_,Trn.refl _ _,?_,fun b hb2=>⟨.inl hb2,?_⟩⟩
  ·simp only[Kt]
   rw[ex,K2 hT.ht ht2,happ]
   exact hrun
  ·rw[happ]
   exact hφ
  ·exact(hown.lt b ((hSb b).1 hb2)).2
theorem JW{α:Type}{t t2 ty e k bytes:Nat}{c:α→List Value}{l l2 l':List α}{A:Option Addr}{cp:Nat}{u:Value}(hT:RowT P t t2 e k bytes)(hc:∀x,(c x).length=k)(h1:∀x u,u∈c x→u.oneCell'=true)(hl:l++l2=l')(hb:l'.length*bytes≤140737488355328)(hx:∀W,Below w0.heap.size w0 W→JN c l2 W u):
  ∀W,Below w0.heap.size w0 W→∀x S,(Qd e k c l A cp).φ x S W→VP P W (fun y:Hp=>.slice y.1 l'.length y.2) (fun y:Hp=>Qd e k c l' y.1 y.2) x S (Kt .append #[t,t2] ty [.slice A l.length cp,u]) :=
 fun W hW x S hφ=>AT hT hc h1 hl hb (hx W hW) hφ
theorem Jv{α:Type}{t t2 ty e k bytes bt m cp2:Nat}{c:α→List Value}{l l2 l':List α}{A:Option Addr}{cp:Nat}{cs:List Value}(hT:RowT P t t2 e k bytes)(hc:∀x,(c x).length=k)(h1:∀x u,u∈c x→u.oneCell'=true)(hl:l++l2=l')(hb:l'.length*bytes≤140737488355328)(hm:m=l2.length)(hcs:cs=l2.flatMap c):
  ∀W,Below w0.heap.size w0 W→∀g,Bx W g bt cs.toArray→∀x S,(Qd e k c l A cp).φ x S W→VP P W (fun y:Hp=>.slice y.1 l'.length y.2) (fun y:Hp=>Qd e k c l' y.1 y.2) x S (Kt .append #[t,t2] ty [.slice A l.length cp,.slice (some ⟨g,0,none⟩) m cp2]) :=
 fun W _ g hg x S hφ=>by
  subst hm
  refine AT hT hc h1 hl hb (.inl ⟨⟨g,0,none⟩,cp2,rfl,fun j u hj=>?_⟩) hφ
  rw[Q9,Ld,hg.cel,hcs]
  simpa using hj
end
theorem XI{α:Type}{l:List α}{k:Nat}{d:α}(h:k<l.length): l.getD k d=l[k]:=by rw[List.getD,List.getElem?_eq_getElem h];rfl
theorem QE(x:Nm): (QF x).length=3:=rfl
theorem XP(x:Tm): (Q7 x).length=4:=rfl
theorem AN(x:Nm×Nm): (YH x).length=6:=rfl
theorem Zy(x:Nm)(u:Value)(h:u∈QF x): u.oneCell'=true:=by
 simp only[QF,Lp,Lv,or_false]at h
 rcases h with rfl|rfl|rfl<;>rfl
theorem D7(x:Tm)(u:Value)(h:u∈Q7 x): u.oneCell'=true:=by
 simp only[Q7,Lp,Lv,or_false]at h
 rcases h with rfl|rfl|rfl|rfl<;>rfl
theorem fO(x:Nm×Nm)(u:Value)(h:u∈YH x): u.oneCell'=true:=by
 simp only[YH,Lp,Lv,or_false]at h
 rcases h with rfl|rfl|rfl|rfl|rfl|rfl<;>rfl
theorem tk{α β:Type}{f:α→List β}{l:List α}{k:Nat}(d:α)(h:k<l.length)(pre:List β): (pre++(l.take k).flatMap f)++f (l.getD k d)=pre++(l.take (k+1)).flatMap f:=by
 rw[List.append_assoc]
 congr 1
 rw[XI h,Rk h,Tv]
 simp
theorem YU{α β:Type}{f:α→List β}{l:List α}{k:Nat}(h:l.length≤k)(pre:List β): pre++(l.take k).flatMap f=pre++l.flatMap f:=by rw[Rh h]
section
variable {P:Program} {w0:World} {σ:St}
theorem ZA{α:Type}{c:α→List Value}{k:Nat}(hc:∀x,(c x).length=k)(hk:0<k){d:α}{l2:List α}{A:Option Addr}{cp:Nat}{w:World}(h:RdK w A l2.length k (fun j=>c (l2.getD j d)))(hA:A=none→l2.length=0∧cp=0): JN c l2 w (.slice A l2.length cp):=by
 cases A with
 | none =>
  obtain⟨h1,rfl⟩:=hA rfl
  have e:l2=[]:=Sr h1
  subst e
  exact .inr ⟨rfl,rfl⟩
 | some a =>
  refine .inl ⟨a,cp,rfl,fun j u hj=>?_⟩
  have hlt:j<l2.length*k:=by rw[← QP hc l2];exact(List.getElem?_eq_some_iff.1 hj).1
  have e1:j=j / k*k+j % k:=by rw[Lh];exact(S8 j k).symm
  have hjm:j / k<l2.length:=(Li hk).2 hlt
  have hjk:j % k<k:=Ly _ hk
  obtain⟨g,off,e2,h2⟩:=h (Lu (L9 _) hjm)
  obtain rfl:=Option.some.inj e2
  rw[e1,YZ hc hjm hjk]at hj
  have h3:w.cell? ⟨g,off+j / k*k+j % k,none⟩=(c (l2.getD (j / k) d))[j % k]?:=h2 _ hjm _ hjk
  rw[XI hjm]at h3
  rw[Q9,e1,← Sb,h3]
  exact hj
theorem AD{α:Type}{e k:Nat}{c:α→List Value}{l:List α}{A:Option Addr}{cp:Nat}(hc:∀x,(c x).length=k)(d:α){x:Value}{S:Nat→Prop}{w:World}(h:(Qd e k c l A cp).φ x S w): RdK w A l.length k (fun j=>c (l.getD j d)):=by
 obtain⟨_,h,_⟩:=(show _∧_∧_ from h)
 intro h0
 rcases h.2 with⟨e1,e2⟩|⟨g,cap,cur,e1,_,hg,hnc,_,hcs,htake⟩
 ·omega
 ·injection e1 with e1 _ _
  refine⟨g,0,e1,fun j hj i hi=>?_⟩
  show _=(c (l.getD j d))[i]?
  rw[Ld,cell_of_row w g (j*k+i) cur e (0,0) hg,← Array.getElem?_toList,XI hj,← YZ hc hj hi,← htake,List.getElem?_take_of_lt]
  have h2:(j+1)*k≤l.length*k:=Lo _ (by omega)
  rw[Rr]at h2
  omega
theorem Jr{α:Type}{e k:Nat}{c:α→List Value}{l:List α}{A:Option Addr}{cp:Nat}{m:Sem Value}{R:Value}(hc:∀x,(c x).length=k)(d:α)(h:∀W,RdK W A l.length k (fun j=>c (l.getD j d))→Qt P W m R): Cy P w0 [Qd e k c l A cp] m R:=fun W _ x S hφ=>h W (AD hc d hφ) W (Below.refl _ _)
def nh{β:Type}(i:Nat)(val:β→Value)(ρ:β→Res)(s:SV)(σ:St): Prop:=JG (Xk σ.rs i) fun R=>∃y:β,s=.val (val y)∧∀x S w,R.φ x S w→(ρ y).φ x S w
theorem BG{β:Type}{tt:List (Nat×TI)}(hT:YF P tt)(hm:P.follows .mixedOrders=true){f:FuncId}{fn:Func}(he:Yf P f)(hf:P.funcs[f]?=some fn){N:Nat}(hn:fn.ntmps=N){rs:Array ResultVar}(hr:fn.results=rs)(args:List Value)(hl:Nat.ble args.length N=true)(i:Nat)(val:β→Value)(ρ:β→Res)(d:List Dir){T:World→Prop}(h:∀W,Below w0.heap.size w0 W→T W)(hk:∀W,T W=Am P tt W fn (MR N args) d fun e σ _=>JX tt rs.toList e σ fun s=>nh i val ρ s σ): NewIn P w0 [] f args.toArray val ρ:=by
 refine⟨he,fun W hW=>?_⟩
 have key:=hk W▸h W hW
 subst hn
 subst hr
 unfold Am at key
 cases hb:fn.body with
 | none =>
  rw[hb]at key
  exact key.elim
 | some c =>
  rw[hb]at key
  refine(Ij hT hm hf hb hl (K:=fun s σ=>nh i val ρ s σ) key).mono ?_
  rintro e w' ⟨s,σ,r,a,rfl,hK,hS⟩
  obtain⟨R,h1,y,rfl,h2⟩:=QY hK
  obtain⟨h3,h4⟩:=hS.see.rs i R h1
  exact⟨y,_,_,rfl,h2 _ _ _ h3,fun b hb=>⟨hS.sep.ownS i R h1 b hb,h4 b hb⟩,hS.see.low⟩
theorem NewIn.at{β:Type}{f:FuncId}{args:Array Value}{val:β→Value}{ρ:β→Res}(h:NewIn P w0 [] f args val ρ): Calls P f args w0 fun e w'=>∃y x S,e=.returned (val y)∧(ρ y).φ x S w'∧(∀b,S b→w0.heap.size≤b∧b<w'.heap.size)∧Below w0.heap.size w0 w':=h.2 w0 (Below.refl _ _)
end
def SlS{α:Type}(S:Nat→Prop)(k:Nat)(c:α→List Value)(w:World)(l:List α)(v:Value): Prop :=
 ∃A cp,v=.slice A l.length cp∧l.length≤cp∧(A=none→l.length=0∧cp=0)∧(0<l.length→∃b off,A=some ⟨b,off,none⟩∧S b∧∀i (h:i<l.length),∀j,j<k→w.cell? ⟨b,off+i*k+j,none⟩=(c l[i])[j]?)
theorem SlS.loc{α:Type}{S:Nat→Prop}{k:Nat}{c:α→List Value}{w w':World}{l:List α}{v:Value}(h:SlS S k c w l v)(hw:∀b,S b→w'.heap[b]?=w.heap[b]?): SlS S k c w' l v:=by
 obtain⟨A,cp,h1,h2,h3,h4⟩:=h
 refine⟨A,cp,h1,h2,h3,fun h0=>?_⟩
 obtain⟨b,off,e,hb,hc⟩:=h4 h0
 exact⟨b,off,e,hb,fun i hi j hj=>(World.cell?_of_block (hw b hb)).trans (hc i hi j hj)⟩
theorem SlS.mono{α:Type}{S S':Nat→Prop}{k:Nat}{c:α→List Value}{w:World}{l:List α}{v:Value}(h:SlS S k c w l v)(hs:∀b,S b→S' b): SlS S' k c w l v:=by
 obtain⟨A,cp,h1,h2,h3,h4⟩:=h
 refine⟨A,cp,h1,h2,h3,fun h0=>?_⟩
 obtain⟨b,off,e,hb,hc⟩:=h4 h0
 exact⟨b,off,e,hs b hb,hc⟩
theorem dw{α:Type}{e k:Nat}{c:α→List Value}{l:List α}{A:Option Addr}{cp:Nat}(hc:∀x,(c x).length=k){x:Value}{S:Nat→Prop}{w:World}(h:(Qd e k c l A cp).φ x S w): SlS S k c w l (.slice A l.length cp):=by
 obtain⟨_,h,hS⟩:=(show _∧_∧_ from h)
 refine⟨A,cp,rfl,?_,?_,fun h0=>?_⟩
 ·rcases h.2 with⟨e1,e2⟩|⟨g,cap,cur,e1,_,_,hn,_⟩
  ·rw[e2];exact L9 _
  ·injection e1 with _ _ e3
   rw[e3];exact hn
 ·rcases h.2 with⟨e1,e2⟩|⟨g,cap,cur,e1,_⟩
  ·injection e1 with _ _ e3
   exact fun _=>⟨e2,e3⟩
  ·injection e1 with e1 _ _
   exact fun hA=>by rw[hA]at e1;cases e1
 ·rcases h.2 with⟨e1,e2⟩|⟨g,cap,cur,e1,_,hg,hnc,_,hcs,htake⟩
  ·omega
  ·injection e1 with e1 _ _
   subst e1
   refine⟨g,0,rfl,(hS g).2 rfl,fun i hi j hj=>?_⟩
   rw[Ld,cell_of_row w g (i*k+j) cur e (0,0) hg,← Array.getElem?_toList,← YZ hc hi hj,← htake,List.getElem?_take_of_lt]
   have h2:(i+1)*k≤l.length*k:=Lo _ (by omega)
   rw[Rr]at h2
   omega
def Yt{α:Type}(e1 k:Nat)(c:α→List Value)(ll:List (List α))(A:Option Addr)(cp:Nat): Res where
 φ x S w:=x.oneCell'=true∧∃(vs:List Value) (S2:Nat→Prop),w.ownsRow 0 e1 1 (.slice A ll.length cp) ll.length vs∧(∀i (h:i<ll.length),SlS S2 k c w ll[i] (vs.getD i undef))∧(∀b,S2 b→(Value.slice A ll.length cp).ownBlock≠some b∧b<w.heap.size)∧∀b,S b↔(Value.slice A ll.length cp).ownBlock=some b∨S2 b
 one _ _ _ h:=h.1
 loc x S w w' h hφ:=by
  obtain⟨h1,vs,S2,h2,h3,h4,h5⟩:=hφ
  refine⟨h1,vs,S2,⟨h2.1,?_⟩,fun i hi=>(h3 i hi).loc fun b hb=>h b ((h5 b).2 (.inr hb)),fun b hb=>⟨(h4 b hb).1,?_⟩,h5⟩
  ·rcases h2.2 with h6|⟨g,cap,cur,e1,hb,hg,rest⟩
   ·exact .inl h6
   ·exact .inr ⟨g,cap,cur,e1,hb,(h g ((h5 g).2 (.inl (by rw[e1];rfl)))).trans hg,rest⟩
  ·have h6:=h b ((h5 b).2 (.inr hb))
   have h7:=(h4 b hb).2
   rcases Ra b w'.heap.size with h8|h8
   ·exact h8
   ·rw[Array.getElem?_eq_none h8,Array.getElem?_eq_getElem h7]at h6
    cases h6
theorem Ix{α β:Type}(e1 k:Nat)(c:α→List Value)(c0:β→List Value)(x:Value)(S:Nat→Prop)(w:World)(h:(Qd e1 1 c0 ([]:List β) none 0).φ x S w): (Yt e1 k c ([]:List (List α)) none 0).φ x S w:=by
 obtain⟨h1,_,h3⟩:=(show _∧_∧_ from h)
 exact(show _∧_ from⟨h1,[],fun _=>False,World.ownsRow_nil w 0 e1 1,fun i hi=>absurd hi (Rc _),fun _ h=>h.elim,fun b=>⟨fun h=>.inl ((h3 b).1 h),fun h=>h.elim (h3 b).2 False.elim⟩⟩)
section
variable {P:Program} {w0:World}
theorem gX{α:Type}{t t2 ty e e1 k bytes bt cp3:Nat}{c:α→List Value}{ll:List (List α)}{l:List α}{A A2:Option Addr}{cp cp2:Nat}(hT:RowT P t t2 e1 1 bytes)(hc:∀x,(c x).length=k)(hb:(ll++[l]).length*bytes≤140737488355328):
  ∀W,Below w0.heap.size w0 W→∀g,Bx W g bt #[.slice A2 l.length cp2]→∀x S,(QD (Yt e1 k c ll A cp) (Qd e k c l A2 cp2)).φ x S W →
   VP P W (fun y:Hp=>.slice y.1 (ll++[l]).length y.2) (fun y:Hp=>Yt e1 k c (ll++[l]) y.1 y.2) x S (Kt .append #[t,t2] ty [.slice A ll.length cp,.slice (some ⟨g,0,none⟩) 1 cp3]):=fun W _ g hg x S hφ=>by
 obtain⟨S1,S3,x2,hT1,hR,hdis,hSS⟩:=(show ∃S1 S2 x2,_ from hφ)
 obtain⟨hx0,vs,S2,hown,hrows,hin,hS1⟩:=(show _∧_ from hT1)
 have hrow:=dw hc hR
 obtain⟨_,hown3,hS3⟩:=(show _∧_∧_ from hR)
 obtain⟨inf,z,i1,i2,i3,i4,i5⟩:=hT.info
 obtain⟨e2',ht2⟩:=hT.ht2
 have hnn:ll.length+1=(ll++[l]).length:=by simp
 have hmax:(ll++[l]).length≤maxLen:=by
  have h2:=hT.hb
  have h3:(ll++[l]).length≤(ll++[l]).length*bytes:=S5 _ h2
  simp only[maxLen];omega
 have hcell:∀j u,[Value.slice A2 l.length cp2][j]?=some u→W.cell? ((⟨g,0,none⟩:Addr).add j)=some u:=fun j u hj=>by
  rw[Q9,Ld,hg.cel]
  simpa using hj
 have hone:∀u∈[Value.slice A2 l.length cp2],u.oneCell'=true:=fun u hu=>by
  rw[Rx]at hu
  rw[hu];rfl
 have hvl:vs.length=ll.length:=by simpa using hown.1
 obtain⟨v',w',hrun,hown',hgr,_⟩:=run_append_own (P:=P) W 0 t ty e1 inf z 1 bytes hT.ht i1 i2 i3 i4 i5 hT.hk _ _ _ hown ⟨g,0,none⟩ 1 cp3 [.slice A2 l.length cp2] rfl hcell hone (by rw[hnn];exact hmax) (by rw[hnn];exact hb) (L9 _)
 have hwhere:=BL hT.ht i1 i2 i3 i4 i5 hT.hk hown (m:=1) rfl hcell hone (by rw[hnn];exact hmax) (by rw[hnn];exact hb) hrun
 rw[hnn]at hown'
 obtain⟨A',cp',rfl⟩:∃A' cp',v'=.slice A' (ll++[l]).length cp':=by
  rcases hown'.2 with⟨rfl,e6⟩|⟨g,cap,cur,rfl,_⟩
  ·exact⟨none,0,by rw[e6]⟩
  ·exact⟨_,_,rfl⟩
 have hS3lt:∀b,S3 b→b<W.heap.size:=fun b hb3=>(hown3.lt b ((hS3 b).1 hb3)).2
 have hkeep:∀b,S2 b∨S3 b→b<W.heap.size∧(Value.slice A ll.length cp).ownBlock≠some b:=fun b hb3=>by
  rcases hb3 with h1|h1
  ·exact⟨(hin b h1).2,(hin b h1).1⟩
  ·refine⟨hS3lt b h1,fun h2=>hdis b ((hS1 b).2 (.inl h2)) h1⟩
 have hsame:∀b,S2 b∨S3 b→w'.heap[b]?=W.heap[b]?:=fun b hb3=>hgr.block b (hkeep b hb3).1 fun e=>(hkeep b hb3).2 e.symm
 refine⟨(A',cp'),(fun b=>(Value.slice A' (ll++[l]).length cp').ownBlock=some b∨(S2 b∨S3 b)),w',?_,Trn.of_grown hgr fun b hb3=>(hSS b).2 (.inl ((hS1 b).2 (.inl hb3))),?_,fun b hb3=>?_⟩
 ·simp only[Kt]
  rw[K2 hT.ht ht2]
  exact hrun
 ·refine(show _∧_ from⟨hx0,vs++[.slice A2 l.length cp2],(fun b=>S2 b∨S3 b),hown',fun i hi=>?_,fun b hb3=>⟨fun h1=>?_,Lb (hkeep b hb3).1 hgr.size⟩,fun b=>Iff.rfl⟩)
  ·rcases Ra i ll.length with h1|h1
   ·rw[List.getElem_append_left h1]
    have h2:=((hrows i h1).mono (S':=fun b=>S2 b∨S3 b) fun b hb=>.inl hb).loc hsame
    rwa [show(vs++[Value.slice A2 l.length cp2]).getD i undef=vs.getD i undef by simp[List.getD,List.getElem?_append_left (show i<vs.length by omega)]]
   ·have h2:i=ll.length:=by simp at hi;omega
    subst h2
    have h3:=(hrow.mono (S':=fun b=>S2 b∨S3 b) fun b hb=>.inr hb).loc hsame
    rw[show(ll++[l])[ll.length]=l by simp]
    rwa [show(vs++[Value.slice A2 l.length cp2]).getD ll.length undef=.slice A2 l.length cp2 by simp[List.getD,← hvl]]
  ·rcases hwhere b h1 with h2|h2|h2
   ·exact(hkeep b hb3).2 h2
   ·have:=(hkeep b hb3).1;omega
   ·have:=(hkeep b hb3).1;omega
 ·rcases hb3 with h1|h1
  ·refine⟨?_,(hown'.lt b h1).2⟩
   rcases hwhere b h1 with h2|h2|h2
   ·exact .inl ((hSS b).2 (.inl ((hS1 b).2 (.inl h2))))
   ·exact .inr (Nat.le_of_eq h2.symm)
   ·exact .inr h2
  ·refine⟨.inl ((hSS b).2 ?_),Lb (hkeep b h1).1 hgr.size⟩
   rcases h1 with h2|h2
   ·exact .inl ((hS1 b).2 (.inr h2))
   ·exact .inr h2
theorem dQ{α:Type}{e1 k:Nat}{c:α→List Value}{ll:List (List α)}{A:Option Addr}{cp:Nat}(hc:∀x,(c x).length=k)(d:α){x:Value}{S:Nat→Prop}{w:World}(h:(Yt e1 k c ll A cp).φ x S w): RdT w A ll.length k (fun i=>(ll.getD i []).length) (fun i j=>c ((ll.getD i []).getD j d)):=by
 obtain⟨_,vs,S2,hown,hrows,_,_⟩:=(show _∧_ from h)
 intro h0
 rcases hown.2 with⟨e1',e2⟩|⟨g,cap,cur,e1',_,hg,hnc,_,hcs,htake⟩
 ·omega
 ·injection e1' with e1' _ _
  refine⟨g,0,e1',fun i hi=>?_⟩
  obtain⟨Ai,ci,k1,k2,k3,k4⟩:=hrows i hi
  dsimp only
  rw[XI (d:=[]) hi]
  refine⟨Ai,ci,k2,k3,?_,fun hl=>?_⟩
  ·rw[Ld,cell_of_row w g i cur e1 (0,0) hg,← k1,← Array.getElem?_toList]
   have hv:vs.length=ll.length:=by simpa using hown.1
   rw[← htake]
   rw[List.getD,List.getElem?_take_of_lt (by omega)]
   have hlt:i<cur.toList.length:=by rw[Tc,hcs];omega
   rw[List.getElem?_eq_getElem hlt]
   rfl
  ·obtain⟨b,off,e,_,hcell⟩:=k4 hl
   refine⟨b,off,e,fun j hj i' hi'=>?_⟩
   show _=(c (ll[i].getD j d))[i']?
   rw[XI hj]
   exact hcell j hj i' hi'
end
structure LP where
 p:Nat→(Nat→Prop)→World→List Value→Prop
 loc:∀i S w w' cs,(∀b,S b→w'.heap[b]?=w.heap[b]?)→p i S w cs→p i S w' cs
 mono:∀i S S' w cs,(∀b,S b→S' b)→p i S w cs→p i S' w cs
def LP.known(f:Nat→List Value): LP:=⟨fun i _ _ cs=>cs=f i,fun _ _ _ _ _ _ h=>h,fun _ _ _ _ _ _ h=>h⟩
def QN(e m n:Nat)(L:LP)(A:Option Addr)(cp:Nat): Res where
 φ x S w:=x.oneCell'=true∧∃(f:Nat→List Value) (S2:Nat→Prop),(∀j,(f j).length=m)∧w.ownsRow 0 e m (.slice A n cp) n ((List.range n).flatMap f)∧(∀i,i<n→L.p i S2 w (f i))∧(∀b,S2 b→(Value.slice A n cp).ownBlock≠some b∧b<w.heap.size)∧∀b,S b↔(Value.slice A n cp).ownBlock=some b∨S2 b
 one _ _ _ h:=h.1
 loc x S w w' h hφ:=by
  obtain⟨h1,f,S2,h0,h2,h3,h4,h5⟩:=hφ
  refine⟨h1,f,S2,h0,⟨h2.1,?_⟩,fun i hi=>L.loc i S2 w w' _ (fun b hb=>h b ((h5 b).2 (.inr hb))) (h3 i hi),fun b hb=>⟨(h4 b hb).1,?_⟩,h5⟩
  ·rcases h2.2 with h6|⟨g,cap,cur,e1,hb,hg,rest⟩
   ·exact .inl h6
   ·exact .inr ⟨g,cap,cur,e1,hb,(h g ((h5 g).2 (.inl (by rw[e1];rfl)))).trans hg,rest⟩
  ·have h6:=h b ((h5 b).2 (.inr hb))
   have h7:=(h4 b hb).2
   rcases Ra b w'.heap.size with h8|h8
   ·exact h8
   ·rw[Array.getElem?_eq_none h8,Array.getElem?_eq_getElem h7]at h6
    cases h6
theorem Ob{α:Type}(c:α→List Value)(l:List α)(d:α): (List.range l.length).flatMap (fun j=>c (l.getD j d))=l.flatMap c:=by
 have h:((List.range l.length).map fun j=>l.getD j d)=l:=by
  apply List.ext_getElem
  ·simp
  ·intro i h1 h2
   simp
   rw[List.getElem?_eq_getElem h2];rfl
 conv=>rhs;rw[← h]
 rw[List.flatMap_map]
theorem Di{α:Type}{e m:Nat}{c:α→List Value}{l:List α}{A:Option Addr}{cp:Nat}(hc:∀x,(c x).length=m)(d:α){L:LP}(h:∀i,i<l.length→∀S w,L.p i S w (c (l.getD i d))){x:Value}{S:Nat→Prop}{w:World}(hφ:(Qd e m c l A cp).φ x S w): (QN e m l.length L A cp).φ x S w:=by
 obtain⟨h1,h2,h3⟩:=(show _∧_∧_ from hφ)
 refine(show _∧_ from⟨h1,fun j=>c (l.getD j d),fun _=>False,fun _=>hc _,?_,fun i hi=>h i hi _ _,fun _ h=>h.elim,fun b=>⟨fun h=>.inl ((h3 b).1 h),fun h=>h.elim (h3 b).2 False.elim⟩⟩)
 rw[Ob]
 exact h2
theorem AL(e e2 m:Nat){β:Type}(c0:β→List Value)(L:LP)(x:Value)(S:Nat→Prop)(w:World)(h:(Qd e2 m c0 ([]:List β) none 0).φ x S w): (QN e m 0 L none 0).φ x S w:=by
 obtain⟨h1,_,h3⟩:=(show _∧_∧_ from h)
 exact(show _∧_ from⟨h1,fun _=>List.replicate m undef,fun _=>False,fun _=>by simp,World.ownsRow_nil w 0 e m,fun i hi=>absurd hi (Rc _),fun _ h=>h.elim,fun b=>⟨fun h=>.inl ((h3 b).1 h),fun h=>h.elim (h3 b).2 False.elim⟩⟩)
theorem Of{e m n:Nat}{L:LP}{A:Option Addr}{cp:Nat}{x:Value}{S:Nat→Prop}{w:World}(hφ:(QN e m n L A cp).φ x S w): ∃(f:Nat→List Value) (S2:Nat→Prop),(∀j,(f j).length=m)∧RdK w A n m f∧(∀i,i<n→L.p i S2 w (f i))∧(∀b,S2 b→S b∧b<w.heap.size):=by
 obtain⟨h1,f,S2,h0,h2,h3,h4,h5⟩:=(show _∧_ from hφ)
 refine⟨f,S2,h0,fun hn=>?_,h3,fun b hb=>⟨(h5 b).2 (.inr hb),(h4 b hb).2⟩⟩
 rcases h2.2 with⟨e1,e2⟩|⟨g,cap,cur,e1,_,hg,hnc,_,hcs,htake⟩
 ·omega
 ·injection e1 with e1 _ _
  refine⟨g,0,e1,fun j hj i hi=>?_⟩
  have hl:∀j,(f j).length=m:=h0
  have hat:=YZ (c:=f) hl (l:=List.range n) (j:=j) (i:=i) (by simpa using hj) hi
  rw[Tg]at hat
  rw[Ld,cell_of_row w g (j*m+i) cur e (0,0) hg,← Array.getElem?_toList,← hat,← htake,List.getElem?_take_of_lt]
  have h2:(j+1)*m≤n*m:=Lo _ (by omega)
  rw[Rr]at h2
  omega
theorem Ho{P:Program}{w0:World}{e m n:Nat}{L:LP}{A:Option Addr}{cp:Nat}{M:Sem Value}{R:Value}(h:∀W f S2,RdK W A n m f→(∀i,i<n→L.p i S2 W (f i))→Qt P W M R): Cy P w0 [QN e m n L A cp] M R:=fun W _ x S hφ=>by
 obtain⟨f,S2,_,h1,h2,_⟩:=Of hφ
 exact h W f S2 h1 h2 W (Below.refl _ _)
theorem AR{α:Type}{lo e m:Nat}{p:Rdg α}{l:List α}{n:Nat}{L:LP}{A:Option Addr}{cp:Nat}{x:Value}{S:Nat→Prop}{w:World}(hn:n=l.length)(hφ:(QN e m n L A cp).φ x S w)(hS:∀b,S b→lo≤b)(hp:∀i (h:i<l.length) S2 cs,(∀b,S2 b→lo≤b)→L.p i S2 w cs→p w l[i] cs): SlV lo m p w l (.slice A n cp):=by
 subst hn
 obtain⟨h1,f,S2,h0,h2,h3,h4,h5⟩:=(show _∧_ from hφ)
 obtain⟨f',S2',h0',hr,h3',h4'⟩:=Of hφ
 refine⟨A,cp,rfl,?_,?_,fun hl=>?_⟩
 ·rcases h2.2 with⟨e1,e2⟩|⟨g,cap,cur,e1,_,_,hn,_⟩
  ·rw[e2];exact L9 _
  ·injection e1 with _ _ e3
   rw[e3];exact hn
 ·rcases h2.2 with⟨e1,e2⟩|⟨g,cap,cur,e1,_⟩
  ·injection e1 with _ _ e3
   exact fun _=>⟨e2,e3⟩
  ·injection e1 with e1 _ _
   exact fun hA=>by rw[hA]at e1;cases e1
 ·obtain⟨b,off,e1,hc⟩:=hr hl
  have hb:S b:=by
   rw[e1]at h5
   exact(h5 b).2 (.inl rfl)
  exact⟨b,off,e1,hS b hb,fun i hi=>⟨f' i,h0' i,hp i hi S2' _ (fun b hb=>hS b (h4' b hb).1) (h3' i hi),fun j hj=>hc i hi j hj⟩⟩
def ES(R:Res): Prop:=∀x S w,R.φ x S w→∀b,S b→b<w.heap.size
theorem VF{α:Type}{e k:Nat}{c:α→List Value}{l:List α}{A:Option Addr}{cp:Nat}: ES (Qd e k c l A cp):=fun x S w h b hb=>by
 obtain⟨_,h2,h3⟩:=(show _∧_∧_ from h)
 exact(h2.lt b ((h3 b).1 hb)).2
theorem H4{e m n:Nat}{L:LP}{A:Option Addr}{cp:Nat}: ES (QN e m n L A cp):=fun x S w h b hb=>by
 obtain⟨_,f,S2,_,h2,_,h4,h5⟩:=(show _∧_ from h)
 rcases(h5 b).1 hb with h6|h6
 ·exact(h2.lt b h6).2
 ·exact(h4 b h6).2
theorem Gz{α:Type}: ∀(l:List α) (k:Nat) (vs:List α) (j:Nat),k+vs.length≤l.length→(VR l k vs)[j]?=if k≤j∧j<k+vs.length then vs[j-k]? else l[j]?
 | [],k,vs,j,h=>by
  have h1:vs=[]:=Sr (by rw[Rs]at h;omega)
  subst h1
  simp[VR]
 | x::l,k,[],j,h=>by
  rw[ZW,if_neg fun h=>Nat.not_lt.2 h.1 (by simpa using h.2)]
 | x::l,0,v::vs,j,h=>by
  show(v::VR l 0 vs)[j]?=_
  cases j with
  | zero=>simp
  | succ j =>
   rw[List.getElem?_cons_succ,Gz l 0 vs j (by simp at h ⊢;omega)]
   simp
 | x::l,k+1,v::vs,j,h=>by
  show(x::VR l k (v::vs))[j]?=_
  cases j with
  | zero=>simp
  | succ j =>
   rw[List.getElem?_cons_succ,Gz l k (v::vs) j (by simp at h ⊢;omega)]
   by_cases h1:k≤j∧j<k+(v::vs).length
   ·rw[if_pos h1,if_pos (by omega),Nat.succ_sub_succ]
   ·rw[if_neg h1,if_neg (by omega),List.getElem?_cons_succ]
theorem Wl{f:Nat→List Value}{m n i o:Nat}{vs:List Value}(h0:∀j,(f j).length=m)(hin:i<n)(ho:o+vs.length≤m): VR ((List.range n).flatMap f) (i*m+o) vs=(List.range n).flatMap (fun j=>if j=i then VR (f j) o vs else f j):=by
 have h0':∀j,((fun j=>if j=i then VR (f j) o vs else f j) j).length=m:=fun j=>by
  dsimp only
  split
  ·rw[Vp,h0]
  ·exact h0 j
 have hl:((List.range n).flatMap f).length=n*m:=by rw[QP h0,S7]
 have him:(i+1)*m≤n*m:=Lo _ (by omega)
 rw[Rr]at him
 apply List.ext_getElem?
 intro j
 rw[Gz _ _ _ _ (by rw[hl];omega)]
 by_cases hj:j<n*m
 ·have hm:0<m:=by
   rcases Ss m with h|h
   ·rw[h]at hj;simp at hj
   ·exact h
  have e1:j=j / m*m+j % m:=by rw[Lh];exact(S8 j m).symm
  have hq:j / m<n:=(Li hm).2 hj
  have hr:j % m<m:=Ly _ hm
  generalize hqe:j / m=q at *
  generalize hre:j % m=r at *
  subst e1
  have a1:=YZ (c:=f) h0 (l:=List.range n) (j:=q) (i:=r) (by simpa using hq) hr
  have a2:=YZ (c:=fun j=>if j=i then VR (f j) o vs else f j) h0' (l:=List.range n) (j:=q) (i:=r) (by simpa using hq) hr
  rw[Tg]at a1 a2
  rw[a1,a2]
  by_cases hqi:q=i
  ·subst hqi
   rw[if_pos rfl,Gz _ _ _ _ (by rw[h0];exact ho)]
   by_cases hc:o≤r∧r<o+vs.length
   ·rw[if_pos hc,if_pos (by omega)]
    congr 1;omega
   ·rw[if_neg hc,if_neg (by omega)]
  ·rw[if_neg hqi,if_neg]
   rcases Nat.lt_or_gt_of_ne hqi with h|h
   ·have:=Lo m (show q+1≤i by omega)
    rw[Rr]at this
    omega
   ·have:=Lo m (show i+1≤q by omega)
    rw[Rr]at this
    omega
 ·rw[if_neg (by omega),List.getElem?_eq_none (by rw[hl];omega),List.getElem?_eq_none (by rw[QP h0',S7];omega)]
theorem di{α:Type}(l:List α)(k N:Nat)(vs:List α)(h:k+vs.length≤N)(hN:N≤l.length): (VR l k vs).take N=VR (l.take N) k vs:=by
 apply List.ext_getElem?
 intro j
 have hl:(l.take N).length=N:=by rw[Rt];omega
 rw[Gz _ _ _ _ (by rw[hl];exact h)]
 by_cases hj:j<N
 ·rw[List.getElem?_take_of_lt hj,Gz _ _ _ _ (by omega)]
  split
  ·rfl
  ·rw[List.getElem?_take_of_lt hj]
 ·rw[List.getElem?_eq_none (by rw[Rt,Vp];omega),if_neg (by omega),List.getElem?_eq_none (by rw[hl];omega)]
theorem Bx.setL{g:Nat}{t:TypeId}: ∀(vs:List Value) (k:Nat) {w:World} {l:List Value},Bx w g t l.toArray→Bx (VQ w g k vs) g t (VR l k vs).toArray
 | [],k,w,l,h=>by rw[ZW];exact h
 | v::vs,k,w,l,h=>by
  show Bx (VQ (w.setCell ⟨g,k,none⟩ v) g (k+1) vs) g t _
  rw[DA]
  have h1:=h.set k v
  rw[Rp]at h1
  exact Bx.setL vs (k+1) h1
section
variable {P:Program} {w0:World}
theorem EX{w:World}{S:Nat→Prop}{g:Nat}(hg:S g): ∀(vs:List Value) (k:Nat),Trn S w (VQ w g k vs)
 | [],_=>Trn.refl _ _
 | v::vs,k=>by
  show Trn S w (VQ (w.setCell ⟨g,k,none⟩ v) g (k+1) vs)
  exact(Trn.setCell (p:=⟨g,k,none⟩) hg v).trans (EX hg vs (k+1))
theorem TX{e m n t i o:Nat}{ti:TI}{L L':LP}{A:Option Addr}{cp:Nat}{R2:Res}{v:Value}{vs:List Value}(hi:XT P t=some ti)(hv:v.cells.toList=vs)(hs:vs.length=ti.size)(hin:i<n)(ho:o+vs.length≤m)(h1:∀u,u∈vs→u.oneCell'=true)(hF:ES R2)(hL:∀j,j<n→j≠i→∀S w cs,L.p j S w cs→L'.p j S w cs)(hL2:∀S1 S2 x2 w cs,cs.length=m→L.p i S1 w cs→R2.φ x2 S2 w→L'.p i (fun b=>S1 b∨S2 b) w (VR cs o vs)):
  ∀W x S,(QD (QN e m n L A cp) R2).φ x S W→VP P W (fun _:Unit=>undef) (fun _:Unit=>QN e m n L' A cp) x S (FU t [.pointer (some (QJ A (i*m+o))),v]):=fun W x S hφ=>by
 obtain⟨S1,S3,x2,hG,hR,hdis,hSS⟩:=(show ∃S1 S2 x2,_ from hφ)
 obtain⟨hx0,f,S2,h0,hown,h3,h4,h5⟩:=(show _∧_ from hG)
 rcases hown.2 with⟨e1,e2⟩|⟨g,cap,cur,e1,hb0,hg,hnc,hcm,hcs,htake⟩
 ·omega
 injection e1 with e1 _ e3
 subst e1
 subst e3
 subst hv
 have hbx:Bx W g e cur.toList.toArray:=by simpa [Bx]using hg
 have him:(i+1)*m≤n*m:=Lo _ (by omega)
 rw[Rr]at him
 have hnm:n*m≤cp*m:=Lo _ hnc
 have hcl:cur.toList.length=cp*m:=by rw[Tc,hcs]
 have hrun:=BI (P:=P) (t:=t) (o:=i*m+o) (v:=v) hi hbx (by rw[← Tc];exact hs) (by rw[hcl,← hs];omega) h1
 have hSg:S g:=(hSS g).2 (.inl ((h5 g).2 (.inl rfl)))
 have htr:Trn S W (VQ W g (i*m+o) v.cells.toList):=EX hSg _ _
 have hother:∀b,b≠g→(VQ W g (i*m+o) v.cells.toList).heap[b]?=W.heap[b]?:=fun b hb=>Vt _ _ _ _ _ hb
 have hS2:∀b,S2 b→b≠g:=fun b hb e=>(h4 b hb).1 (by rw[e];rfl)
 have hS3:∀b,S3 b→b≠g:=fun b hb e=>hdis g ((h5 g).2 (.inl rfl)) (e▸hb)
 have hsz:(VQ W g (i*m+o) v.cells.toList).heap.size=W.heap.size:=GQ _ _ _ _
 refine⟨(),S,_,?_,htr,(show _∧_ from⟨hx0,fun j=>if j=i then VR (f j) o v.cells.toList else f j,fun b=>S2 b∨S3 b,fun j=>?_,⟨?_,?_⟩,fun j hj=>?_,fun b hb=>?_,fun b=>?_⟩),fun b hb=>?_⟩
 ·unfold FU
  have ea:QJ (some ⟨g,0,none⟩) (i*m+o)=⟨g,i*m+o,none⟩:=by simp[QJ]
  rw[ea,Sem.run_bind,hrun]
  rfl
 ·dsimp only
  split
  ·rw[Vp,h0]
  ·exact h0 j
 ·rw[QP (k:=m) (fun j=>by
   split
   ·rw[Vp,h0]
   ·exact h0 j),S7]
 ·refine .inr ⟨g,cp,(VR cur.toList (i*m+o) v.cells.toList).toArray,rfl,hb0,hbx.setL _ _,hnc,hcm,?_,?_⟩
  ·rw[U1,Vp,hcl]
  ·show(VR cur.toList (i*m+o) v.cells.toList).take (n*m)=_
   rw[di _ _ _ _ (by omega) (by rw[hcl];exact hnm),htake,Wl h0 hin ho]
 ·dsimp only
  have k1:L.p j S2 (VQ W g (i*m+o) v.cells.toList) (f j):=L.loc j S2 W _ _ (fun b hb=>hother b (hS2 b hb)) (h3 j hj)
  by_cases hji:j=i
  ·subst hji
   rw[if_pos rfl]
   exact hL2 S2 S3 x2 _ _ (h0 j) k1 (R2.loc _ _ _ _ (fun b hb=>hother b (hS3 b hb)) hR)
  ·rw[if_neg hji]
   exact L'.mono j S2 _ _ _ (fun b hb=>.inl hb) (hL j hj hji _ _ _ k1)
 ·rw[hsz]
  rcases hb with hb|hb
  ·exact h4 b hb
  ·exact⟨fun e=>hS3 b hb (by injection e with e;exact e.symm),hF _ _ _ hR b hb⟩
 ·rw[hSS,h5]
  constructor
  ·rintro((h|h)|h)
   ·exact .inl h
   ·exact .inr (.inl h)
   ·exact .inr (.inr h)
  ·rintro(h|h|h)
   ·exact .inl (.inl h)
   ·exact .inl (.inr h)
   ·exact .inr h
 ·rw[hsz]
  refine⟨.inl hb,?_⟩
  rcases(hSS b).1 hb with h|h
  ·exact H4 _ _ _ hG b h
  ·exact hF _ _ _ hR b h
end
theorem Ov{α:Type}{e k:Nat}{c:α→List Value}{l:List α}{A:Option Addr}{cp:Nat}{x x':Value}{S:Nat→Prop}{w:World}(hx:x'.oneCell'=true)(h:(Qd e k c l A cp).φ x S w): (Qd e k c l A cp).φ x' S w:=by
 obtain⟨_,h2,h3⟩:=(show _∧_∧_ from h)
 exact(show _∧_∧_ from⟨hx,h2,h3⟩)
theorem Hq{α:Type}{lo e m:Nat}{c:α→List Value}{l:List α}{A:Option Addr}{cp:Nat}(hc:∀x,(c x).length=m)(d:α){x:Value}{S:Nat→Prop}{w:World}(hφ:(Qd e m c l A cp).φ x S w)(hS:∀b,S b→lo≤b): SlV lo m (fun _ x cs=>cs=c x) w l (.slice A l.length cp) :=
 AR (L:=LP.known fun j=>c (l.getD j d)) rfl (Di hc d (fun i hi S w=>rfl) hφ) hS fun i h S2 cs _ hp=>by
  rw[show cs=c (l.getD i d)from hp,List.getD,List.getElem?_eq_getElem h];rfl
