/- The walks and plain laws beneath the statements. -/
import Derived.Deep.Upon
import Derived.Test.YtaelfkdjlioegaaGreatDoorQG38
namespace Go.Proofs.YtaelfkdjlioegaaGreatDoor
open Tryz
set_option maxRecDepth 100000
open Go Go.RowKit
variable{α β:Type}{e k cp t t2 ty bytes m lo n:Nat}{A:Option Addr}{x x' u:Value}{S:Nat→Prop}
def QK{α:Type}(e k:Nat)(c:α→List Value)(l:List α)(A:Option Addr)(cp:Nat): Res where
 φ x S w:=(Qd e k c l A cp).φ x S w∨(x.oneCell'=true∧l=[]∧cp=0∧(∃g,A=some ⟨g,0,none⟩)∧∀b,¬ S b)
 one x S w h:=by
  rcases h with h|h
  ·exact(Qd e k c l A cp).one x S w h
  ·exact h.1
 loc x S w w' h hφ:=by
  rcases hφ with h1|h1
  ·exact .inl ((Qd e k c l A cp).loc x S w w' h h1)
  ·exact .inr h1
theorem VA{c:α→List Value}{l:List α}{w:World}(hx:x'.oneCell'=true)(h:(QK e k c l A cp).φ x S w): (QK e k c l A cp).φ x' S w:=by
 rcases(show _∨_ from h)with h|h
 ·exact(show _∨_ from .inl (Ov hx h))
 ·exact(show _∨_ from .inr ⟨hx,h.2⟩)
theorem Vx{c:α→List Value}{l l':List α}(hl:l=l'){w:World}(h:(QK e k c l A cp).φ x S w): (QK e k c l' A cp).φ x S w:=by
 subst hl;exact h
theorem bM{c:α→List Value}(hc:∀x,(c x).length=k){l:List α}(d:α){w:World}(h:(QK e k c l A cp).φ x S w): RdK w A l.length k (fun j=>c (l.getD j d)):=by
 rcases(show _∨_ from h)with h|h
 ·have h2:=Di (L:=LP.known fun j=>c (l.getD j d)) hc d (fun i hi S w=>rfl) h
  obtain⟨f,S2,_,h3,h4,_⟩:=Of h2
  exact RdK.congr h3 fun j hj=>h4 j hj
 ·intro h0
  rw[h.2.1]at h0
  exact absurd h0 (Nat.lt_irrefl 0)
section
variable {P:Program} {w0:World}
theorem Zm{c:α→List Value}(hc:∀x,(c x).length=k){l:List α}(d:α){M:Sem Value}{R:Value}(h:∀W,RdK W A l.length k (fun j=>c (l.getD j d))→Qt P W M R): Cy P w0 [QK e k c l A cp] M R:=fun W _ x S hφ=>h W (bM hc d hφ) W (Below.refl _ _)
theorem FA{c:α→List Value}{l2:List α}(hT:RowT P t t2 e k bytes)(hc:∀x,(c x).length=k)(h1:∀x u,u∈c x→u.oneCell'=true)(hb:l2.length*bytes≤140737488355328){W:World}(hx:JN c l2 W u)(g:Nat):
  ∃A' cp' w',(Builtin.append_ #[t,t2] ty #[.slice (some ⟨g,0,none⟩) 0 0,u]).run P W=.ok (.slice A' l2.length cp') w'∧W.grownBy w' none∧((l2=[]∧A'=some ⟨g,0,none⟩∧cp'=0∧w'=W)∨w'.ownsRow W.heap.size e k (.slice A' l2.length cp') l2.length (l2.flatMap c)):=by
 obtain⟨inf,z,e1,e2,e3,e4,e5⟩:=hT.info
 obtain⟨e2',ht2⟩:=hT.ht2
 by_cases h0:l2=[]
 ·subst h0
  refine⟨some ⟨g,0,none⟩,0,W,?_,⟨rfl,rfl,rfl,L3 _,fun _ _ _=>rfl⟩,.inl ⟨rfl,rfl,rfl,rfl⟩⟩
  rcases hx with⟨ad,cp2,ex,_⟩|⟨ex,_⟩
  ·rw[ex]
   refine run_append_nothing (P:=P) W t t2 ty e inf hT.ht e1 _ 0 0 (L3 _) _ ⟨.inl ⟨_,ht2⟩,fun _=>?_,?_,?_,?_,fun u hu=>(by cases hu)⟩
   ·simp[Builtin.lenOf]
   ·simp[Builtin.firstCells,loadCells,loadCellsFrom]
   ·simp[Builtin.firstCells,loadCells,loadCellsFrom]
   ·simp
  ·rw[ex]
   refine run_append_nothing (P:=P) W t t2 ty e inf hT.ht e1 _ 0 0 (L3 _) _ ⟨.inl ⟨_,ht2⟩,fun _=>?_,?_,?_,?_,fun u hu=>(by cases hu)⟩
   ·simp[Builtin.lenOf]
   ·simp[Builtin.firstCells,loadCells,loadCellsFrom]
   ·simp[Builtin.firstCells,loadCells,loadCellsFrom]
   ·simp
 ·have hpos:0<l2.length:=by
   rcases Ss l2.length with h|h
   ·exact absurd (Sr h) h0
   ·exact h
  rcases hx with⟨ad,cp2,ex,hcell⟩|⟨_,e0⟩
  ·have hl2:(l2.flatMap c).length=l2.length*inf.size:=by rw[QP hc,e3]
   have hm:l2.length≤maxLen:=by
    have h3:l2.length≤l2.length*bytes:=S5 _ hT.hb
    simp only[maxLen];omega
   have hbb:(0+l2.length)*inf.bytes≤140737488355328:=by rw[Ld,e4];exact hb
   have hr:=run_append_grow (P:=P) W t ty e inf z hT.ht e1 e2 ⟨g,0,none⟩ 0 0 [] (by simp) (fun j v h=>by cases j<;>cases h) ad l2.length cp2 (l2.flatMap c) hl2 hcell (by omega) (by simp only[maxLen]at hm;omega) (growslice_fits (by omega) hbb)
   rw[Ld]at hr
   refine⟨some ⟨W.heap.size,0,none⟩,grownCap W l2.length 0 e,W.drew.alloc (.cells (([]:List Value).toArray++(l2.flatMap c).toArray++Builtin.zeroCells z.cells (grownCap W l2.length 0 e-l2.length)) e),?_,?_,.inr ⟨QP hc l2,.inr ⟨W.heap.size,_,_,rfl,L3 _,heap_alloc_new W.drew _,grownCap_ge W l2.length 0 e,grownCap_le_maxLen W l2.length 0 e hm,?_,?_⟩⟩⟩
   ·rw[ex,K2 hT.ht ht2]
    exact hr
   ·exact⟨rfl,rfl,rfl,by simp,fun k hk _=>heap_alloc_old W.drew _ hk⟩
   ·have hge:=grownCap_ge W l2.length 0 e
    simp only[Array.size_append,U1,size_zeroCells,e5,QP hc l2,Rs,Ld,← Rv]
    congr 1
    omega
   ·simp only[Array.toList_append,Ry]
    rw[show l2.length*k=(l2.flatMap c).length from(QP hc l2).symm]
    exact List.take_left
  ·exact absurd e0 h0
theorem Dw{c:α→List Value}{l2:List α}(hT:RowT P t t2 e k bytes)(hc:∀x,(c x).length=k)(h1:∀x u,u∈c x→u.oneCell'=true)(hb:l2.length*bytes≤140737488355328){W:World}(hx:JN c l2 W u)(g:Nat):
  NL P W (fun y:Hp=>.slice y.1 l2.length y.2) (fun y:Hp=>QK e k c l2 y.1 y.2) (Kt .append #[t,t2] ty [.slice (some ⟨g,0,none⟩) 0 0,u]):=by
 obtain⟨A',cp',w',h2,h3,h4⟩:=FA (ty:=ty) hT hc h1 hb hx g
 have hbel:Below W.heap.size W w':=by
  obtain⟨a1,a2,a3,a4,a5⟩:=h3
  exact⟨a1,a2,a3,a4,fun k hk=>a5 k hk (by simp)⟩
 rcases h4 with⟨h5,h6,h7,h8⟩|h4
 ·exact⟨(A',cp'),.bool false,fun _=>False,w',h2,hbel,(show _∨_ from .inr ⟨rfl,h5,h7,⟨g,h6⟩,fun _ h=>h⟩),fun _ h=>h.elim⟩
 ·refine⟨(A',cp'),.bool false,fun b=>(Value.slice A' l2.length cp').ownBlock=some b,w',h2,hbel,(show _∨_ from .inl (show _∧_∧_ from⟨rfl,h4.mono (L9 _),fun b=>Iff.rfl⟩)),fun b hb=>h4.lt b hb⟩
theorem PA{c:α→List Value}{l l2 l':List α}(hT:RowT P t t2 e k bytes)(hc:∀x,(c x).length=k)(h1:∀x u,u∈c x→u.oneCell'=true)(hl:l++l2=l')(hb:l'.length*bytes≤140737488355328){W:World}(hx:JN c l2 W u)(hφ:(QK e k c l A cp).φ x S W): VP P W (fun y:Hp=>.slice y.1 l'.length y.2) (fun y:Hp=>QK e k c l' y.1 y.2) x S (Kt .append #[t,t2] ty [.slice A l.length cp,u]):=by
 rcases(show _∨_ from hφ)with h|⟨hx0,h2,h3,⟨g,h4⟩,h5⟩
 ·obtain⟨y,S',w',k1,k2,k3,k4⟩:=AT (ty:=ty) hT hc h1 hl hb hx h
  exact⟨y,S',w',k1,k2,(show _∨_ from .inl k3),k4⟩
 ·subst h2 h3 h4
  have hl':l2=l':=hl
  subst hl'
  obtain⟨A',cp',w',k2,k3,k4⟩:=FA (ty:=ty) hT hc h1 hb hx g
  rcases k4 with⟨k5,k6,k7,k8⟩|k4
  ·exact⟨(A',cp'),fun _=>False,w',k2,Trn.of_grown k3 (fun k hk=>nomatch hk),(show _∨_ from .inr ⟨hx0,k5,k7,⟨g,k6⟩,fun _ h=>h⟩),fun _ h=>h.elim⟩
  ·exact⟨(A',cp'),fun b=>(Value.slice A' l2.length cp').ownBlock=some b,w',k2,Trn.of_grown k3 (fun k hk=>nomatch hk),(show _∨_ from .inl (show _∧_∧_ from⟨hx0,k4.mono (L9 _),fun b=>Iff.rfl⟩)),fun b hb=>⟨.inr (k4.lt b hb).1,(k4.lt b hb).2⟩⟩
theorem H8{c:α→List Value}{l l2 l':List α}(hT:RowT P t t2 e k bytes)(hc:∀x,(c x).length=k)(h1:∀x u,u∈c x→u.oneCell'=true)(hl:l++l2=l')(hb:l'.length*bytes≤140737488355328)(hx:∀W,Below w0.heap.size w0 W→JN c l2 W u):
  ∀W,Below w0.heap.size w0 W→∀x S,(QK e k c l A cp).φ x S W→VP P W (fun y:Hp=>.slice y.1 l'.length y.2) (fun y:Hp=>QK e k c l' y.1 y.2) x S (Kt .append #[t,t2] ty [.slice A l.length cp,u]) :=
 fun W hW x S hφ=>PA hT hc h1 hl hb (hx W hW) hφ
theorem Pz{bt cp2:Nat}{c:α→List Value}{l l2 l':List α}{cs:List Value}(hT:RowT P t t2 e k bytes)(hc:∀x,(c x).length=k)(h1:∀x u,u∈c x→u.oneCell'=true)(hl:l++l2=l')(hb:l'.length*bytes≤140737488355328)(hcs:cs=l2.flatMap c)(hm:m=l2.length):
  ∀W,Below w0.heap.size w0 W→∀g,Bx W g bt cs.toArray→∀x S,(QK e k c l A cp).φ x S W→VP P W (fun y:Hp=>.slice y.1 l'.length y.2) (fun y:Hp=>QK e k c l' y.1 y.2) x S (Kt .append #[t,t2] ty [.slice A l.length cp,.slice (some ⟨g,0,none⟩) m cp2]) :=
 fun W _ g hg x S hφ=>by
  subst hm
  refine PA hT hc h1 hl hb (.inl ⟨⟨g,0,none⟩,cp2,rfl,fun j u hj=>?_⟩) hφ
  rw[Q9,Ld,hg.cel,hcs]
  simpa using hj
end
theorem V5{f:α→List β}{l:List α}{M:Nat}(h:∀x,x∈l→(f x).length≤M): (l.flatMap f).length≤l.length*M:=by
 induction l with
 | nil=>simp
 | cons x l ih =>
  rw[Rm,Lg,Rb,Rr]
  have:=ih fun y hy=>h y (by simp[hy])
  have:=h x (by simp)
  omega
theorem Oo{f:α→List β}{l:List α}{M:Nat}(k:Nat)(h:∀x,x∈l→(f x).length≤M): ((l.take k).flatMap f).length≤l.length*M :=
 L8 (V5 fun x hx=>h x (List.mem_of_mem_take hx)) (Lo _ (by simp;omega))
def Qg(eps delta:Nm)(bx:List (Nm×Nm))(pts:List (List Nm))(ct:List Nd): List Nm:=(([eps,delta]++bx.flatMap fun s=>[s.1,s.2])++pts.flatMap fun p=>p)++ct.flatMap fun n=>[n.scale]
structure okL0 (bx:List (Nm×Nm)) (pts:List (List Nm)) (ct:List Nd):Prop where
 hb:bx.length≤1048576
 hs:pts.length≤1048576
 hp:∀p,p∈pts→p.length≤1048576
 hc:ct.length≤1048576
section
variable {eps delta:Nm} {bx:List (Nm×Nm)} {pts:List (List Nm)} {ct:List Nd}
theorem dg(h:okL0 bx pts ct)(k:Nat): ([eps,delta]++(bx.take k).flatMap fun s=>[s.1,s.2]).length*32≤140737488355328:=by
 have h1:=Oo (f:=fun s:Nm×Nm=>[s.1,s.2]) (M:=2) k (fun(x:Nm×Nm) (_:x∈bx)=>L3 _)
 have:=h.hb
 rw[Lg]
 simp only[Rb,Rs]
 omega
theorem bg(h:okL0 bx pts ct)(k:Nat): (([eps,delta]++bx.flatMap fun s=>[s.1,s.2])++(pts.take k).flatMap fun p=>p).length*32≤140737488355328:=by
 have h1:=V5 (f:=fun s:Nm×Nm=>[s.1,s.2]) (M:=2) (fun(x:Nm×Nm) (_:x∈bx)=>L3 _)
 have h2:=Oo (f:=fun p:List Nm=>p) (M:=1048576) k h.hp
 have:=h.hb
 have h3:=h.hs
 rw[Lg,Lg]
 simp only[Rb,Rs]
 omega
theorem Ok(h:okL0 bx pts ct)(k:Nat): ((([eps,delta]++bx.flatMap fun s=>[s.1,s.2])++pts.flatMap fun p=>p)++(ct.take k).flatMap fun n=>[n.scale]).length*32≤140737488355328:=by
 have h1:=V5 (f:=fun s:Nm×Nm=>[s.1,s.2]) (M:=2) (fun(x:Nm×Nm) (_:x∈bx)=>L3 _)
 have h2:=V5 (f:=fun p:List Nm=>p) (M:=1048576) h.hp
 have h4:=Oo (f:=fun n:Nd=>[n.scale]) (M:=1) k (fun(x:Nd) (_:x∈ct)=>L3 _)
 have:=h.hb
 have h3:=h.hs
 have:=h.hc
 rw[Lg,Lg,Lg]
 simp only[Rb,Rs]
 omega
end
theorem Wn{c:α→List Value}(hc:∀x,(c x).length=k)(hk:0<k)(d:α){w:World}{l:List α}{v:Value}(h:SlV lo k (fun _ x cs=>cs=c x) w l v): JN c l w v:=by
 obtain⟨A,cp,rfl,h1,h2,h3⟩:=h.enc d
 exact ZA hc hk (d:=d) h3 h2
theorem Ed{Ab As Ac:Option Addr}{cb cs cc:Nat}{us uc:Nat→Value}{eps delta:Nm}{bx:List (Nm×Nm)}{pts:List (List Nm)}{ct:List Nd}{kind vars budget:Int}{Ap Ar:Option Addr}{np kp nr kr:Nat}(hok:okL0 bx pts ct)(w:World)(hb:RdK w Ab bx.length 6 (fun j=>YH (Qw bx j)))(hs:RdK w As pts.length 1 (fun j=>[us j]))(hp:∀j,j<pts.length→SlV lo 3 Jm w (Qe pts j) (us j))(hc:RdK w Ac ct.length 6 (iu ct uc)): NewIn prog w [] 17 #[tA kind vars Ab bx.length cb As pts.length cs Ap np kp Ar nr kr eps delta budget Ac ct.length cc] (fun(y:Hp)=>Value.slice y.1 (Qg eps delta bx pts ct).length y.2) (fun(y:Hp)=>Qd 32 3 QF (Qg eps delta bx pts ct) y.1 y.2) :=
 let Z0:OB:=some (35,(tS kind vars Ab bx.length cb As pts.length cs Ap np kp Ar nr kr eps delta budget Ac ct.length cc));BG (β:=Hp) Qk mixed (fun a w=>call17 a w) func17 ntmps17 results17 _ rfl 0 _ _ [.row 2 99999 1 [3,11] 32 3 QF ([eps,delta]) (fun(y1:Hp)=>[Vs (fun(q1:Nat×Hp)=>(⟨70,[(1,.ptr 0 0),(3,lV q1.2.1 (([eps,delta]++(bx.take q1.1).flatMap fun s=>[s.1,s.2])).length q1.2.2),(4,iV (q1.1:Int))],[none],[some (Qd 32 3 QF ([eps,delta]++(bx.take q1.1).flatMap fun s=>[s.1,s.2]) q1.2.1 q1.2.2)]⟩:St)) bx.length (0,y1) (fun(q1:Nat×Hp)=>[.both [.reg 16 [],.o 5 5 (.set (.pointer (some (QJ Ab (q1.1*6+0))))),.o 5 6 (.set (.pointer (some (QJ Ab (q1.1*6+0))))),.o 5 7 (.set (nA ((Qw bx q1.1).1))),.o 5 12 (.set (.pointer (some (QJ Ab (q1.1*6+0))))),.o 5 13 (.set (.pointer (some (QJ Ab (q1.1*6+3))))),.o 5 14 (.set (nA ((Qw bx q1.1).2))),.eff 5 16 0 (fun(y2:Hp)=>Value.slice y2.1 (([eps,delta]++(bx.take (q1.1+1)).flatMap fun s=>[s.1,s.2])).length y2.2) (fun(y2:Hp)=>Qd 32 3 QF ([eps,delta]++(bx.take (q1.1+1)).flatMap fun s=>[s.1,s.2]) y2.1 y2.2) (fun(y2:Hp)=>[.o 4 1 (.eq (iV ((q1.1+1:Nat):Int))),.nxt [y2]])] [Vs (fun(q2:Nat×Hp)=>(⟨70,[(1,.ptr 0 0),(3,lV q2.2.1 ((([eps,delta]++bx.flatMap fun s=>[s.1,s.2])++(pts.take q2.1).flatMap fun p=>p)).length q2.2.2),(5,iV (q2.1:Int))],[none],[some (Qd 32 3 QF (([eps,delta]++bx.flatMap fun s=>[s.1,s.2])++(pts.take q2.1).flatMap fun p=>p) q2.2.1 q2.2.2)]⟩:St)) pts.length (0,q1.2) (fun(q2:Nat×Hp)=>[.both [.o 9 5 (.set (.pointer (some (QJ As (q2.1*1+0))))),.o 9 6 (.set (us q2.1)),.eff 9 7 0 (fun(y3:Hp)=>Value.slice y3.1 ((([eps,delta]++bx.flatMap fun s=>[s.1,s.2])++(pts.take (q2.1+1)).flatMap fun p=>p)).length y3.2) (fun(y3:Hp)=>Qd 32 3 QF (([eps,delta]++bx.flatMap fun s=>[s.1,s.2])++(pts.take (q2.1+1)).flatMap fun p=>p) y3.1 y3.2) (fun(y3:Hp)=>[.o 8 1 (.eq (iV ((q2.1+1:Nat):Int))),.nxt [y3]])] [Vs (fun(q3:Nat×Hp)=>(⟨70,[(1,.ptr 0 0),(3,lV q3.2.1 (((([eps,delta]++bx.flatMap fun s=>[s.1,s.2])++pts.flatMap fun p=>p)++(ct.take q3.1).flatMap fun n=>[n.scale])).length q3.2.2),(6,iV (q3.1:Int))],[none],[some (Qd 32 3 QF ((([eps,delta]++bx.flatMap fun s=>[s.1,s.2])++pts.flatMap fun p=>p)++(ct.take q3.1).flatMap fun n=>[n.scale]) q3.2.1 q3.2.2)]⟩:St)) ct.length (0,q2.2) (fun(q3:Nat×Hp)=>[.both [.o 13 4 (.set (.pointer (some (QJ Ac (q3.1*6+0))))),.o 13 5 (.set (.pointer (some (QJ Ac (q3.1*6+1))))),.o 13 6 (.set (nA ((Qc ct q3.1).scale))),.eff 13 8 0 (fun(y4:Hp)=>Value.slice y4.1 (((([eps,delta]++bx.flatMap fun s=>[s.1,s.2])++pts.flatMap fun p=>p)++(ct.take (q3.1+1)).flatMap fun n=>[n.scale])).length y4.2) (fun(y4:Hp)=>Qd 32 3 QF ((([eps,delta]++bx.flatMap fun s=>[s.1,s.2])++pts.flatMap fun p=>p)++(ct.take (q3.1+1)).flatMap fun n=>[n.scale]) y4.1 y4.2) (fun(y4:Hp)=>[.o 12 1 (.eq (iV ((q3.1+1:Nat):Int))),.nxt [y4]])] []])]])]])])] (fun W hW=>have HB:=hb.up hW (fun _=>rfl);have HS:=hs.up hW (fun _=>rfl);(fun(HP:∀j,j<pts.length→SlV lo 3 Jm W (Qe pts j) (us j))=>have HC:=hc.up hW (fun _=>rfl);ai (show([.bool eps.b,.string eps.s,.int .i64 eps.e,.bool delta.b,.string delta.s,.int .i64 delta.e]:List Value)=List.flatMap QF ([eps,delta])from rfl)<|ai (And.intro QE (show([eps,delta]).length≤maxLen from(by simp[maxLen]))) fun(y1:Hp)=>Jj (show(.slice y1.1 ([eps,delta]).length y1.2:Value)=(.slice y1.1 (([eps,delta]++(bx.take 0).flatMap fun s=>[s.1,s.2])).length y1.2)from(by simp)) (qI ((0:Nat):Int)) (qk Z0) (Kl (Qd 32 3 QF ([eps,delta]) y1.1 y1.2) (Qd 32 3 QF ([eps,delta]++(bx.take 0).flatMap fun s=>[s.1,s.2]) y1.1 y1.2) fun _ _ _ h=>Xe (by simp) (by simp) h)<|ai (show 0≤bx.length from L9 _) fun(q1:Nat×Hp) (hk1:(q1.1≤bx.length))=>Q4 (decide ((q1.1:Int)<(bx.length:Int))) (fun hl1=>KW (JQ (c:=cb) (i:=q1.1) HB (Qm hl1)) (GC (w0:=W) (A:=Ab) (i:=q1.1) (k:=6) (o:=0)) (Yb (i:=q1.1) (o:=0) HB (Qm hl1) (by decide) rfl rfl) (JQ (c:=cb) (i:=q1.1) HB (Qm hl1)) (Fh (w0:=W) (A:=Ab) (i:=q1.1) (k:=6) (o:=0)) (Yb (i:=q1.1) (o:=3) HB (Qm hl1) (by decide) rfl rfl)<|ai (Jv (w0:=W) (ty:=44) (c:=QF) (l:=([eps,delta]++(bx.take q1.1).flatMap fun s=>[s.1,s.2])) (l2:=[(Qw bx q1.1).1,(Qw bx q1.1).2]) (l':=([eps,delta]++(bx.take (q1.1+1)).flatMap fun s=>[s.1,s.2])) (A:=q1.2.1) (cp:=q1.2.2) (bt:=32) (m:=2) (cp2:=2) (cs:=[.bool ((Qw bx q1.1).1.b),.string ((Qw bx q1.1).1.s),.int .i64 ((Qw bx q1.1).1.e),.bool ((Qw bx q1.1).2.b),.string ((Qw bx q1.1).2.s),.int .i64 ((Qw bx q1.1).2.e)]) XV QE Zy (tk (f:=fun s=>[s.1,s.2]) (nm0,nm0) (Qm hl1) [eps,delta]) (dg hok (q1.1+1)) rfl rfl) fun(y2:Hp)=>ZP (Qq (n:=q1.1) (by have:=L1 hl1;have:=hok.hb;have:=hok.hs;have:=hok.hc;omega)) (qV (.slice y2.1 (([eps,delta]++(bx.take (q1.1+1)).flatMap fun s=>[s.1,s.2])).length y2.2)) (qI (((q1.1+1):Nat):Int)) (qk Z0) (Kl (Qd 32 3 QF ([eps,delta]++(bx.take (q1.1+1)).flatMap fun s=>[s.1,s.2]) y2.1 y2.2) (Qd 32 3 QF ([eps,delta]++(bx.take (q1.1+1)).flatMap fun s=>[s.1,s.2]) y2.1 y2.2) fun _ _ _ h=>h)<|ai (show q1.1+1≤bx.length from Qm hl1) (show bx.length-(q1.1+1)<bx.length-q1.1 from by have:=L1 hl1;omega)) fun hl1=>Jj (show(.slice q1.2.1 (([eps,delta]++(bx.take q1.1).flatMap fun s=>[s.1,s.2])).length q1.2.2:Value)=(.slice q1.2.1 ((([eps,delta]++bx.flatMap fun s=>[s.1,s.2])++(pts.take 0).flatMap fun p=>p)).length q1.2.2)from(by rw[YU (f:=fun s=>[s.1,s.2]) (show bx.length≤q1.1 by have:=La hl1;omega) [eps,delta]];simp)) (qI ((0:Nat):Int)) (qk Z0) (Kl (Qd 32 3 QF ([eps,delta]++(bx.take q1.1).flatMap fun s=>[s.1,s.2]) q1.2.1 q1.2.2) (Qd 32 3 QF (([eps,delta]++bx.flatMap fun s=>[s.1,s.2])++(pts.take 0).flatMap fun p=>p) q1.2.1 q1.2.2) fun _ _ _ h=>Xe (by rw[YU (f:=fun s=>[s.1,s.2]) (show bx.length≤q1.1 by have:=La hl1;omega) [eps,delta]];simp) (by rw[YU (f:=fun s=>[s.1,s.2]) (show bx.length≤q1.1 by have:=La hl1;omega) [eps,delta]];simp) h)<|ai (show 0≤pts.length from L9 _) fun(q2:Nat×Hp) (hk2:(q2.1≤pts.length))=>Q4 (decide ((q2.1:Int)<(pts.length:Int))) (fun hl2=>ZG (Q2 (c:=cs) (i:=q2.1) HS (Qm hl2)) (Xp (i:=q2.1) (o:=0) HS (Qm hl2) (by decide) rfl)<|ai (JW (w0:=W) (ty:=44) (c:=QF) (l:=(([eps,delta]++bx.flatMap fun s=>[s.1,s.2])++(pts.take q2.1).flatMap fun p=>p)) (l2:=(Qe pts q2.1)) (l':=(([eps,delta]++bx.flatMap fun s=>[s.1,s.2])++(pts.take (q2.1+1)).flatMap fun p=>p)) (A:=q2.2.1) (cp:=q2.2.2) (u:=us q2.1) GW QE Zy (tk (f:=fun p=>p) [] (Qm hl2) ([eps,delta]++bx.flatMap fun s=>[s.1,s.2])) (bg hok (q2.1+1)) (fun W' hW'=>Wn QE (by decide) nm0 ((HP q2.1 (by have:=L1 hl2;omega)).below Xx hW'))) fun(y3:Hp)=>ZP (Qq (n:=q2.1) (by have:=L1 hl2;have:=hok.hb;have:=hok.hs;have:=hok.hc;omega)) (qV (.slice y3.1 ((([eps,delta]++bx.flatMap fun s=>[s.1,s.2])++(pts.take (q2.1+1)).flatMap fun p=>p)).length y3.2)) (qI (((q2.1+1):Nat):Int)) (qk Z0) (Kl (Qd 32 3 QF (([eps,delta]++bx.flatMap fun s=>[s.1,s.2])++(pts.take (q2.1+1)).flatMap fun p=>p) y3.1 y3.2) (Qd 32 3 QF (([eps,delta]++bx.flatMap fun s=>[s.1,s.2])++(pts.take (q2.1+1)).flatMap fun p=>p) y3.1 y3.2) fun _ _ _ h=>h)<|ai (show q2.1+1≤pts.length from Qm hl2) (show pts.length-(q2.1+1)<pts.length-q2.1 from by have:=L1 hl2;omega)) fun hl2=>Jj (show(.slice q2.2.1 ((([eps,delta]++bx.flatMap fun s=>[s.1,s.2])++(pts.take q2.1).flatMap fun p=>p)).length q2.2.2:Value)=(.slice q2.2.1 (((([eps,delta]++bx.flatMap fun s=>[s.1,s.2])++pts.flatMap fun p=>p)++(ct.take 0).flatMap fun n=>[n.scale])).length q2.2.2)from(by rw[YU (f:=fun p=>p) (show pts.length≤q2.1 by have:=La hl2;omega) ([eps,delta]++bx.flatMap fun s=>[s.1,s.2])];simp)) (qI ((0:Nat):Int)) (qk Z0) (Kl (Qd 32 3 QF (([eps,delta]++bx.flatMap fun s=>[s.1,s.2])++(pts.take q2.1).flatMap fun p=>p) q2.2.1 q2.2.2) (Qd 32 3 QF ((([eps,delta]++bx.flatMap fun s=>[s.1,s.2])++pts.flatMap fun p=>p)++(ct.take 0).flatMap fun n=>[n.scale]) q2.2.1 q2.2.2) fun _ _ _ h=>Xe (by rw[YU (f:=fun p=>p) (show pts.length≤q2.1 by have:=La hl2;omega) ([eps,delta]++bx.flatMap fun s=>[s.1,s.2])];simp) (by rw[YU (f:=fun p=>p) (show pts.length≤q2.1 by have:=La hl2;omega) ([eps,delta]++bx.flatMap fun s=>[s.1,s.2])];simp) h)<|ai (show 0≤ct.length from L9 _) fun(q3:Nat×Hp) (hk3:(q3.1≤ct.length))=>Q4 (decide ((q3.1:Int)<(ct.length:Int))) (fun hl3=>Kr (Xb (c:=cc) (i:=q3.1) HC (Qm hl3)) (Gw (w0:=W) (A:=Ac) (i:=q3.1) (k:=6) (o:=0)) (Yb (i:=q3.1) (o:=1) HC (Qm hl3) (by decide) rfl rfl)<|ai (Jv (w0:=W) (ty:=44) (c:=QF) (l:=((([eps,delta]++bx.flatMap fun s=>[s.1,s.2])++pts.flatMap fun p=>p)++(ct.take q3.1).flatMap fun n=>[n.scale])) (l2:=[(Qc ct q3.1).scale]) (l':=((([eps,delta]++bx.flatMap fun s=>[s.1,s.2])++pts.flatMap fun p=>p)++(ct.take (q3.1+1)).flatMap fun n=>[n.scale])) (A:=q3.2.1) (cp:=q3.2.2) (bt:=32) (m:=1) (cp2:=1) (cs:=[.bool ((Qc ct q3.1).scale.b),.string ((Qc ct q3.1).scale.s),.int .i64 ((Qc ct q3.1).scale.e)]) XV QE Zy (tk (f:=fun n=>[n.scale]) lk (Qm hl3) (([eps,delta]++bx.flatMap fun s=>[s.1,s.2])++pts.flatMap fun p=>p)) (Ok hok (q3.1+1)) rfl rfl) fun(y4:Hp)=>ZP (Qq (n:=q3.1) (by have:=L1 hl3;have:=hok.hb;have:=hok.hs;have:=hok.hc;omega)) (qV (.slice y4.1 (((([eps,delta]++bx.flatMap fun s=>[s.1,s.2])++pts.flatMap fun p=>p)++(ct.take (q3.1+1)).flatMap fun n=>[n.scale])).length y4.2)) (qI (((q3.1+1):Nat):Int)) (qk Z0) (Kl (Qd 32 3 QF ((([eps,delta]++bx.flatMap fun s=>[s.1,s.2])++pts.flatMap fun p=>p)++(ct.take (q3.1+1)).flatMap fun n=>[n.scale]) y4.1 y4.2) (Qd 32 3 QF ((([eps,delta]++bx.flatMap fun s=>[s.1,s.2])++pts.flatMap fun p=>p)++(ct.take (q3.1+1)).flatMap fun n=>[n.scale]) y4.1 y4.2) fun _ _ _ h=>h)<|ai (show q3.1+1≤ct.length from Qm hl3) (show ct.length-(q3.1+1)<ct.length-q3.1 from by have:=L1 hl3;omega)) fun hl3=>(show ∃y:Hp,SV.val (.slice q3.2.1 (((([eps,delta]++bx.flatMap fun s=>[s.1,s.2])++pts.flatMap fun p=>p)++(ct.take q3.1).flatMap fun n=>[n.scale])).length q3.2.2)=SV.val ((fun(y:Hp)=>Value.slice y.1 (Qg eps delta bx pts ct).length y.2) y)∧∀(x:Value) (S:Nat→Prop) (w:World),(Qd 32 3 QF ((([eps,delta]++bx.flatMap fun s=>[s.1,s.2])++pts.flatMap fun p=>p)++(ct.take q3.1).flatMap fun n=>[n.scale]) q3.2.1 q3.2.2).φ x S w→((fun(y:Hp)=>Qd 32 3 QF (Qg eps delta bx pts ct) y.1 y.2) y).φ x S w from⟨q3.2,(by rw[YU (f:=fun n=>[n.scale]) (show ct.length≤q3.1 by have:=La hl3;omega) (([eps,delta]++bx.flatMap fun s=>[s.1,s.2])++pts.flatMap fun p=>p)];rfl),fun x S w h=>Xe (by rw[YU (f:=fun n=>[n.scale]) (show ct.length≤q3.1 by have:=La hl3;omega) (([eps,delta]++bx.flatMap fun s=>[s.1,s.2])++pts.flatMap fun p=>p)];rfl) (by rw[YU (f:=fun n=>[n.scale]) (show ct.length≤q3.1 by have:=La hl3;omega) (([eps,delta]++bx.flatMap fun s=>[s.1,s.2])++pts.flatMap fun p=>p)];rfl) h⟩)) (fun j hj=>(hp j hj).below Xx hW)) fun W=>by kernel_rfl
theorem OU{l:List α}{f g:α→List β}(h:∀a,a∈l→f a=g a): l.flatMap f=l.flatMap g:=by
 induction l with
 | nil=>rfl
 | cons a l ih=>rw[Rm,Rm,h a (by simp),ih fun b hb=>h b (by simp[hb])]
def jB{α:Type}(e k:Nat)(c:α→List Value)(pre:Nat→List Value)(ls:Nat→List α): LP where
 p j S w cs:=∃A cp S',(∀b,S' b→S b)∧cs=pre j++[.slice A (ls j).length cp]∧(QK e k c (ls j) A cp).φ (.bool false) S' w
 loc:=by
  rintro j S w w' cs h ⟨A,cp,S',h3,h4,h5⟩
  exact⟨A,cp,S',h3,h4,(QK e k c (ls j) A cp).loc _ _ _ _ (fun b hb=>h b (h3 b hb)) h5⟩
 mono:=by
  rintro j S S2 w cs h ⟨A,cp,S',h3,h4,h5⟩
  exact⟨A,cp,S',fun b hb=>h b (h3 b hb),h4,h5⟩
theorem P2{c:α→List Value}{l:List α}: ES (QK e k c l A cp):=fun x S w h b hb=>by
 rcases(show _∨_ from h)with h|h
 ·exact VF _ _ _ h b hb
 ·exact absurd hb (h.2.2.2.2 b)
theorem mV{L:LP}{w:World}(hx:x'.oneCell'=true)(h:(QN e m n L A cp).φ x S w): (QN e m n L A cp).φ x' S w:=by
 obtain⟨_,h2⟩:=(show _∧_ from h)
 exact(show _∧_ from⟨hx,h2⟩)
section
variable {P:Program} {w0:World}
theorem AI{bt e2 n' cp2:Nat}{c:α→List Value}{pre:Nat→List Value}{ls:Nat→List α}{A2:Option Addr}{cq:Nat}{cs:List Value}{R3:Res}(h3':∀x S w,R3.φ x S w→(QK e2 k c (ls n) A2 cq).φ x S w)(hT:RowT P t t2 e m bytes)(hp:∀u,u∈pre n→u.oneCell'=true)(hn:n'=n+1)(hb:(n+1)*bytes≤140737488355328)(hcs:cs=pre n++[.slice A2 (ls n).length cq])(hm:cs.length=m):
  ∀W,Below w0.heap.size w0 W→∀g,Bx W g bt cs.toArray→∀x S,(QD (QN e m n (jB e2 k c pre ls) A cp) R3).φ x S W→VP P W (fun y:Hp=>.slice y.1 n' y.2) (fun y:Hp=>QN e m n' (jB e2 k c pre ls) y.1 y.2) x S (Kt .append #[t,t2] ty [.slice A n cp,.slice (some ⟨g,0,none⟩) 1 cp2]):=fun W _ g hg x S hφ=>by
 subst hn
 obtain⟨S1,S3,x2,hG,hR3,hdis,hSS⟩:=(show ∃S1 S2 x2,_ from hφ)
 have hR:=h3' _ _ _ hR3
 obtain⟨hx0,f,S2,h0,hown,h3,h4,h5⟩:=(show _∧_ from hG)
 obtain⟨inf,z,e1,e2',e3,e4,e5⟩:=hT.info
 obtain⟨e2'',ht2⟩:=hT.ht2
 have hone:∀u∈cs,u.oneCell'=true:=fun u hu=>by
  rw[hcs]at hu
  rcases Rj.1 hu with h|h
  ·exact hp u h
  ·rw[Rx.1 h];rfl
 have hcell:∀j u,cs[j]?=some u→W.cell? ((⟨g,0,none⟩:Addr).add j)=some u:=fun j u hj=>by
  rw[Q9,Ld,hg.cel]
  simpa using hj
 have hmax:n+1≤maxLen:=by
  have h2:=hT.hb
  have h3:n+1≤(n+1)*bytes:=S5 _ h2
  simp only[maxLen];omega
 have hl1:cs.length=1*m:=by rw[hm,To]
 obtain⟨v',w',hrun,hown',hgr,_⟩:=run_append_own (P:=P) W 0 t ty e inf z m bytes hT.ht e1 e2' e3 e4 e5 hT.hk _ _ _ hown ⟨g,0,none⟩ 1 cp2 cs hl1 hcell hone hmax hb (L9 _)
 obtain⟨A',cp',rfl⟩:∃A' cp',v'=.slice A' (n+1) cp':=by
  rcases hown'.2 with⟨rfl,e6⟩|⟨g,cap,cur,rfl,_⟩
  ·exact absurd e6 (Nat.succ_ne_zero n)
  ·exact⟨_,_,rfl⟩
 have hT1:Trn (fun b=>(Value.slice A n cp).ownBlock=some b) W w':=Trn.of_grown hgr fun k hk=>hk
 have hwh:=BL hT.ht e1 e2' e3 e4 e5 hT.hk hown hl1 hcell hone hmax hb hrun
 have old:∀b,b<W.heap.size→(Value.slice A n cp).ownBlock≠some b→w'.heap[b]?=W.heap[b]?:=fun b hb hn=>hT1.block b hb hn
 have hS2:∀b,S2 b→w'.heap[b]?=W.heap[b]?:=fun b hb=>old b (h4 b hb).2 (h4 b hb).1
 have hS3:∀b,S3 b→w'.heap[b]?=W.heap[b]?:=fun b hb=>old b (P2 _ _ _ hR b hb) fun e=>hdis b ((h5 b).2 (.inl e)) hb
 have hnew:∀b,S2 b∨S3 b→(Value.slice A' (n+1) cp').ownBlock≠some b∧b<w'.heap.size:=fun b hb=>by
  have hlt:b<W.heap.size:=hb.elim (fun h=>(h4 b h).2) (fun h=>P2 _ _ _ hR b h)
  have hne:(Value.slice A n cp).ownBlock≠some b:=hb.elim (fun h=>(h4 b h).1) (fun h e=>hdis b ((h5 b).2 (.inl e)) h)
  refine⟨fun e=>?_,Lb hlt hT1.size⟩
  rcases hwh b e with h|h|h
  ·exact hne h
  ·omega
  ·omega
 have hfl:((List.range n).flatMap f++cs)=(List.range (n+1)).flatMap (fun j=>if j=n then cs else f j):=by
  rw[List.range_succ,Tv]
  congr 1
  ·refine OU fun j hj=>?_
   rw[if_neg (by have:=Lm.1 hj;omega)]
  ·simp
 rw[hfl]at hown'
 refine⟨(A',cp'),fun b=>(Value.slice A' (n+1) cp').ownBlock=some b∨S2 b∨S3 b,w',?_,⟨hT1.os,hT1.tape,hT1.output,hT1.size,fun b hb hn=>old b hb fun e=>hn ((hSS b).2 (.inl ((h5 b).2 (.inl e))))⟩,(show _∧_ from⟨hx0,fun j=>if j=n then cs else f j,fun b=>S2 b∨S3 b,fun j=>?_,hown',fun j hj=>?_,hnew,fun b=>Iff.rfl⟩),fun b hb=>?_⟩
 ·simp only[Kt]
  rw[K2 hT.ht ht2]
  exact hrun
 ·dsimp only
  split
  ·exact hm
  ·exact h0 j
 ·dsimp only
  by_cases hjn:j=n
  ·subst hjn
   rw[if_pos rfl]
   exact⟨A2,cq,S3,fun b hb=>.inr hb,hcs,(QK e2 k c (ls j) A2 cq).loc _ _ _ _ hS3 (VA rfl hR)⟩
  ·rw[if_neg hjn]
   exact(jB e2 k c pre ls).mono j S2 _ _ _ (fun b hb=>.inl hb) ((jB e2 k c pre ls).loc j S2 W _ _ hS2 (h3 j (by omega)))
 ·rcases hb with hb|hb
  ·refine⟨?_,(hown'.lt b hb).2⟩
   rcases hwh b hb with h|h|h
   ·exact .inl ((hSS b).2 (.inl ((h5 b).2 (.inl h))))
   ·exact .inr (Nat.le_of_eq h.symm)
   ·exact .inr h
  ·refine⟨.inl ((hSS b).2 (hb.elim (fun h=>.inl ((h5 b).2 (.inr h))) .inr)),(hnew b hb).2⟩
end
theorem Pr{c:α→List Value}{l:List α}(hc:∀x,(c x).length=m)(d:α){w:World}(hφ:(QK e m c l A cp).φ x S w)(hS:∀b,S b→lo≤b): SlV lo m (fun _ x cs=>cs=c x) w l (.slice A l.length cp):=by
 rcases(show _∨_ from hφ)with h|⟨_,rfl,rfl,⟨g,rfl⟩,_⟩
 ·exact Hq hc d h hS
 ·exact⟨_,_,rfl,L3 _,fun h=>(nomatch h),fun h=>absurd h (Nat.lt_irrefl _)⟩
theorem Ht{e2:Nat}{p:Rdg β}{l:List β}{c:α→List Value}{pre:Nat→List Value}{ls:Nat→List α}{w:World}(hc:∀x,(c x).length=k)(d:α)(hn:n=l.length)(hφ:(QN e m n (jB e2 k c pre ls) A cp).φ x S w)(hS:∀b,S b→lo≤b)(hp:∀j (h:j<l.length) v,SlV lo k (fun _ x cs=>cs=c x) w (ls j) v→p w l[j] (pre j++[v])): SlV lo m p w l (.slice A n cp) :=
 AR hn hφ hS fun j h S2 cs hS2 h2=>by
  obtain⟨A',cp',S',k1,k2,k3⟩:=h2
  rw[k2]
  exact hp j h _ (Pr hc d k3 fun b hb=>hS2 b (k1 b hb))
