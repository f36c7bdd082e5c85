/- The walks and plain laws beneath the statements. -/
import Derived.Test.YtaelfkdjlioegaaGreatDoorQO17
import Derived.Deep.Upon
namespace Go.Proofs.YtaelfkdjlioegaaGreatDoor
open Go Go.RowKit
def cloX{α:Type}(e k:Nat)(c:α→List Value)(l:List α)(A:Option Addr)(cp:Nat): Res where
 φ x S w:=(rowR e k c l A cp).φ x S w∨(x.oneCell'=true∧l=[]∧cp=0∧(∃g,A=some ⟨g,0,none⟩)∧∀b,¬ S b)
 one x S w h:=by
  rcases h with h|h
  ·exact(rowR e k c l A cp).one x S w h
  ·exact h.1
 loc x S w w' h hφ:=by
  rcases hφ with h1|h1
  ·exact .inl ((rowR e k c l A cp).loc x S w w' h h1)
  ·exact .inr h1
theorem cloX_x{α:Type}{e k:Nat}{c:α→List Value}{l:List α}{A:Option Addr}{cp:Nat}{x x':Value}{S:Nat→Prop}{w:World}(hx:x'.oneCell'=true)(h:(cloX e k c l A cp).φ x S w): (cloX e k c l A cp).φ x' S w:=by
 rcases(show _∨_ from h)with h|h
 ·exact(show _∨_ from .inl (rowR_x hx h))
 ·exact(show _∨_ from .inr ⟨hx,h.2⟩)
theorem cloX_congr{α:Type}{e k:Nat}{c:α→List Value}{l l':List α}{A:Option Addr}{cp:Nat}(hl:l=l'){x:Value}{S:Nat→Prop}{w:World}(h:(cloX e k c l A cp).φ x S w): (cloX e k c l' A cp).φ x S w:=by
 subst hl;exact h
theorem clo_rd{α:Type}{e k:Nat}{c:α→List Value}(hc:∀x,(c x).length=k){l:List α}(d:α){A:Option Addr}{cp:Nat}{x:Value}{S:Nat→Prop}{w:World}(h:(cloX e k c l A cp).φ x S w): RdK w A l.length k (fun j=>c (l.getD j d)):=by
 rcases(show _∨_ from h)with h|h
 ·have h2:=gen_of_row (L:=LP.known fun j=>c (l.getD j d)) hc d (fun i hi S w=>rfl) h
  obtain⟨f,S2,_,h3,h4,_⟩:=gen_rd h2
  exact RdK.congr h3 fun j hj=>h4 j hj
 ·intro h0
  rw[h.2.1]at h0
  exact absurd h0 (Nat.lt_irrefl 0)
section
variable {P:Program} {w0:World}
theorem clo_in{α:Type}{e k:Nat}{c:α→List Value}(hc:∀x,(c x).length=k){l:List α}(d:α){A:Option Addr}{cp:Nat}{M:Sem Value}{R:Value}(h:∀W,RdK W A l.length k (fun j=>c (l.getD j d))→RunOk P W M R): RunIn P w0 [cloX e k c l A cp] M R:=fun W _ x S hφ=>h W (clo_rd hc d hφ) W (Below.refl _ _)
theorem app_empty{α:Type}{t t2 ty e k bytes:Nat}{c:α→List Value}{l2:List α}{u:Value}(hT:RowT P t t2 e k bytes)(hc:∀x,(c x).length=k)(h1:∀x u,u∈c x→u.oneCell'=true)(hb:l2.length*bytes≤140737488355328){W:World}(hx:AppArg c l2 W u)(g:Nat):
  ∃A' cp' w',(Builtin.append_ #[t,t2] ty #[.slice (some ⟨g,0,none⟩) 0 0,u]).run P W=.ok (.slice A' l2.length cp') w'∧W.grownBy w' none∧((l2=[]∧A'=some ⟨g,0,none⟩∧cp'=0∧w'=W)∨w'.ownsRow W.heap.size e k (.slice A' l2.length cp') l2.length (l2.flatMap c)):=by
 obtain⟨inf,z,e1,e2,e3,e4,e5⟩:=hT.info
 obtain⟨e2',ht2⟩:=hT.ht2
 by_cases h0:l2=[]
 ·subst h0
  refine⟨some ⟨g,0,none⟩,0,W,?_,⟨rfl,rfl,rfl,Nat.le_refl _,fun _ _ _=>rfl⟩,.inl ⟨rfl,rfl,rfl,rfl⟩⟩
  rcases hx with⟨ad,cp2,ex,_⟩|⟨ex,_⟩
  ·rw[ex]
   refine run_append_nothing (P:=P) W t t2 ty e inf hT.ht e1 _ 0 0 (Nat.le_refl _) _ ⟨.inl ⟨_,ht2⟩,fun _=>?_,?_,?_,?_,fun u hu=>(by cases hu)⟩
   ·simp[Builtin.lenOf]
   ·simp[Builtin.firstCells,loadCells,loadCellsFrom]
   ·simp[Builtin.firstCells,loadCells,loadCellsFrom]
   ·simp
  ·rw[ex]
   refine run_append_nothing (P:=P) W t t2 ty e inf hT.ht e1 _ 0 0 (Nat.le_refl _) _ ⟨.inl ⟨_,ht2⟩,fun _=>?_,?_,?_,?_,fun u hu=>(by cases hu)⟩
   ·simp[Builtin.lenOf]
   ·simp[Builtin.firstCells,loadCells,loadCellsFrom]
   ·simp[Builtin.firstCells,loadCells,loadCellsFrom]
   ·simp
 ·have hpos:0<l2.length:=by
   rcases Nat.eq_zero_or_pos l2.length with h|h
   ·exact absurd (List.eq_nil_of_length_eq_zero h) h0
   ·exact h
  rcases hx with⟨ad,cp2,ex,hcell⟩|⟨_,e0⟩
  ·have hl2:(l2.flatMap c).length=l2.length*inf.size:=by rw[flatMap_len hc,e3]
   have hm:l2.length≤maxLen:=by
    have h3:l2.length≤l2.length*bytes:=Nat.le_mul_of_pos_right _ hT.hb
    simp only[maxLen];omega
   have hbb:(0+l2.length)*inf.bytes≤140737488355328:=by rw[Nat.zero_add,e4];exact hb
   have hr:=run_append_grow (P:=P) W t ty e inf z hT.ht e1 e2 ⟨g,0,none⟩ 0 0 [] (by simp) (fun j v h=>by cases j<;>cases h) ad l2.length cp2 (l2.flatMap c) hl2 hcell (by omega) (by simp only[maxLen]at hm;omega) (growslice_fits (by omega) hbb)
   rw[Nat.zero_add]at hr
   refine⟨some ⟨W.heap.size,0,none⟩,grownCap W l2.length 0 e,W.drew.alloc (.cells (([]:List Value).toArray++(l2.flatMap c).toArray++Builtin.zeroCells z.cells (grownCap W l2.length 0 e-l2.length)) e),?_,?_,.inr ⟨flatMap_len hc l2,.inr ⟨W.heap.size,_,_,rfl,Nat.le_refl _,heap_alloc_new W.drew _,grownCap_ge W l2.length 0 e,grownCap_le_maxLen W l2.length 0 e hm,?_,?_⟩⟩⟩
   ·rw[ex,append_ty hT.ht ht2]
    exact hr
   ·exact⟨rfl,rfl,rfl,by simp,fun k hk _=>heap_alloc_old W.drew _ hk⟩
   ·have hge:=grownCap_ge W l2.length 0 e
    simp only[Array.size_append,List.size_toArray,size_zeroCells,e5,flatMap_len hc l2,List.length_nil,Nat.zero_add,← Nat.add_mul]
    congr 1
    omega
   ·simp only[Array.toList_append,List.nil_append]
    rw[show l2.length*k=(l2.flatMap c).length from(flatMap_len hc l2).symm]
    exact List.take_left
  ·exact absurd e0 h0
theorem app_new{α:Type}{t t2 ty e k bytes:Nat}{c:α→List Value}{l2:List α}{u:Value}(hT:RowT P t t2 e k bytes)(hc:∀x,(c x).length=k)(h1:∀x u,u∈c x→u.oneCell'=true)(hb:l2.length*bytes≤140737488355328){W:World}(hx:AppArg c l2 W u)(g:Nat):
  NewR P W (fun y:Hp=>.slice y.1 l2.length y.2) (fun y:Hp=>cloX e k c l2 y.1 y.2) (bsem .append #[t,t2] ty [.slice (some ⟨g,0,none⟩) 0 0,u]):=by
 obtain⟨A',cp',w',h2,h3,h4⟩:=app_empty (ty:=ty) hT hc h1 hb hx g
 have hbel:Below W.heap.size W w':=by
  obtain⟨a1,a2,a3,a4,a5⟩:=h3
  exact⟨a1,a2,a3,a4,fun k hk=>a5 k hk (by simp)⟩
 rcases h4 with⟨h5,h6,h7,h8⟩|h4
 ·exact⟨(A',cp'),.bool false,fun _=>False,w',h2,hbel,(show _∨_ from .inr ⟨rfl,h5,h7,⟨g,h6⟩,fun _ h=>h⟩),fun _ h=>h.elim⟩
 ·refine⟨(A',cp'),.bool false,fun b=>(Value.slice A' l2.length cp').ownBlock=some b,w',h2,hbel,(show _∨_ from .inl (show _∧_∧_ from⟨rfl,h4.mono (Nat.zero_le _),fun b=>Iff.rfl⟩)),fun b hb=>h4.lt b hb⟩
theorem clo_run{α:Type}{t t2 ty e k bytes:Nat}{c:α→List Value}{l l2 l':List α}{A:Option Addr}{cp:Nat}{u:Value}(hT:RowT P t t2 e k bytes)(hc:∀x,(c x).length=k)(h1:∀x u,u∈c x→u.oneCell'=true)(hl:l++l2=l')(hb:l'.length*bytes≤140737488355328){W:World}(hx:AppArg c l2 W u){x:Value}{S:Nat→Prop}(hφ:(cloX e k c l A cp).φ x S W): EffR P W (fun y:Hp=>.slice y.1 l'.length y.2) (fun y:Hp=>cloX e k c l' y.1 y.2) x S (bsem .append #[t,t2] ty [.slice A l.length cp,u]):=by
 rcases(show _∨_ from hφ)with h|⟨hx0,h2,h3,⟨g,h4⟩,h5⟩
 ·obtain⟨y,S',w',k1,k2,k3,k4⟩:=eff_run (ty:=ty) hT hc h1 hl hb hx h
  exact⟨y,S',w',k1,k2,(show _∨_ from .inl k3),k4⟩
 ·subst h2 h3 h4
  have hl':l2=l':=hl
  subst hl'
  obtain⟨A',cp',w',k2,k3,k4⟩:=app_empty (ty:=ty) hT hc h1 hb hx g
  rcases k4 with⟨k5,k6,k7,k8⟩|k4
  ·exact⟨(A',cp'),fun _=>False,w',k2,Trn.of_grown k3 (fun k hk=>nomatch hk),(show _∨_ from .inr ⟨hx0,k5,k7,⟨g,k6⟩,fun _ h=>h⟩),fun _ h=>h.elim⟩
  ·exact⟨(A',cp'),fun b=>(Value.slice A' l2.length cp').ownBlock=some b,w',k2,Trn.of_grown k3 (fun k hk=>nomatch hk),(show _∨_ from .inl (show _∧_∧_ from⟨hx0,k4.mono (Nat.zero_le _),fun b=>Iff.rfl⟩)),fun b hb=>⟨.inr (k4.lt b hb).1,(k4.lt b hb).2⟩⟩
theorem clo_app{α:Type}{t t2 ty e k bytes:Nat}{c:α→List Value}{l l2 l':List α}{A:Option Addr}{cp:Nat}{u:Value}(hT:RowT P t t2 e k bytes)(hc:∀x,(c x).length=k)(h1:∀x u,u∈c x→u.oneCell'=true)(hl:l++l2=l')(hb:l'.length*bytes≤140737488355328)(hx:∀W,Below w0.heap.size w0 W→AppArg c l2 W u):
  ∀W,Below w0.heap.size w0 W→∀x S,(cloX e k c l A cp).φ x S W→EffR P W (fun y:Hp=>.slice y.1 l'.length y.2) (fun y:Hp=>cloX e k c l' y.1 y.2) x S (bsem .append #[t,t2] ty [.slice A l.length cp,u]) :=
 fun W hW x S hφ=>clo_run hT hc h1 hl hb (hx W hW) hφ
theorem clo_lit{α:Type}{t t2 ty e k bytes bt m cp2:Nat}{c:α→List Value}{l l2 l':List α}{A:Option Addr}{cp:Nat}{cs:List Value}(hT:RowT P t t2 e k bytes)(hc:∀x,(c x).length=k)(h1:∀x u,u∈c x→u.oneCell'=true)(hl:l++l2=l')(hb:l'.length*bytes≤140737488355328)(hcs:cs=l2.flatMap c)(hm:m=l2.length):
  ∀W,Below w0.heap.size w0 W→∀g,Bx W g bt cs.toArray→∀x S,(cloX e k c l A cp).φ x S W→EffR P W (fun y:Hp=>.slice y.1 l'.length y.2) (fun y:Hp=>cloX e k c l' y.1 y.2) x S (bsem .append #[t,t2] ty [.slice A l.length cp,.slice (some ⟨g,0,none⟩) m cp2]) :=
 fun W _ g hg x S hφ=>by
  subst hm
  refine clo_run hT hc h1 hl hb (.inl ⟨⟨g,0,none⟩,cp2,rfl,fun j u hj=>?_⟩) hφ
  rw[add_plain,Nat.zero_add,hg.cel,hcs]
  simpa using hj
end
open Go Go.RowKit
theorem flatMap_cg{α β:Type}{l:List α}{f g:α→List β}(h:∀a,a∈l→f a=g a): l.flatMap f=l.flatMap g:=by
 induction l with
 | nil=>rfl
 | cons a l ih=>rw[List.flatMap_cons,List.flatMap_cons,h a (by simp),ih fun b hb=>h b (by simp[hb])]
def apL{α:Type}(e k:Nat)(c:α→List Value)(pre:Nat→List Value)(ls:Nat→List α): LP where
 p j S w cs:=∃A cp S',(∀b,S' b→S b)∧cs=pre j++[.slice A (ls j).length cp]∧(cloX e k c (ls j) A cp).φ (.bool false) S' w
 loc:=by
  rintro j S w w' cs h ⟨A,cp,S',h3,h4,h5⟩
  exact⟨A,cp,S',h3,h4,(cloX e k c (ls j) A cp).loc _ _ _ _ (fun b hb=>h b (h3 b hb)) h5⟩
 mono:=by
  rintro j S S2 w cs h ⟨A,cp,S',h3,h4,h5⟩
  exact⟨A,cp,S',fun b hb=>h b (h3 b hb),h4,h5⟩
theorem clo_fin{α:Type}{e k:Nat}{c:α→List Value}{l:List α}{A:Option Addr}{cp:Nat}: Fin' (cloX e k c l A cp):=fun x S w h b hb=>by
 rcases(show _∨_ from h)with h|h
 ·exact row_fin _ _ _ h b hb
 ·exact absurd hb (h.2.2.2.2 b)
theorem gen_x{e m n:Nat}{L:LP}{A:Option Addr}{cp:Nat}{x x':Value}{S:Nat→Prop}{w:World}(hx:x'.oneCell'=true)(h:(genR e m n L A cp).φ x S w): (genR e m n L A cp).φ x' S w:=by
 obtain⟨_,h2⟩:=(show _∧_ from h)
 exact(show _∧_ from⟨hx,h2⟩)
section
variable {P:Program} {w0:World}
theorem gen_lit{α:Type}{t t2 ty e m bytes bt e2 k n n' cp2:Nat}{c:α→List Value}{pre:Nat→List Value}{ls:Nat→List α}{A A2:Option Addr}{cp cq:Nat}{cs:List Value}{R3:Res}(h3':∀x S w,R3.φ x S w→(cloX e2 k c (ls n) A2 cq).φ x S w)(hT:RowT P t t2 e m bytes)(hp:∀u,u∈pre n→u.oneCell'=true)(hn:n'=n+1)(hb:(n+1)*bytes≤140737488355328)(hcs:cs=pre n++[.slice A2 (ls n).length cq])(hm:cs.length=m):
  ∀W,Below w0.heap.size w0 W→∀g,Bx W g bt cs.toArray→∀x S,(pairR (genR e m n (apL e2 k c pre ls) A cp) R3).φ x S W→EffR P W (fun y:Hp=>.slice y.1 n' y.2) (fun y:Hp=>genR e m n' (apL e2 k c pre ls) y.1 y.2) x S (bsem .append #[t,t2] ty [.slice A n cp,.slice (some ⟨g,0,none⟩) 1 cp2]):=fun W _ g hg x S hφ=>by
 subst hn
 obtain⟨S1,S3,x2,hG,hR3,hdis,hSS⟩:=(show ∃S1 S2 x2,_ from hφ)
 have hR:=h3' _ _ _ hR3
 obtain⟨hx0,f,S2,h0,hown,h3,h4,h5⟩:=(show _∧_ from hG)
 obtain⟨inf,z,e1,e2',e3,e4,e5⟩:=hT.info
 obtain⟨e2'',ht2⟩:=hT.ht2
 have hone:∀u∈cs,u.oneCell'=true:=fun u hu=>by
  rw[hcs]at hu
  rcases List.mem_append.1 hu with h|h
  ·exact hp u h
  ·rw[List.mem_singleton.1 h];rfl
 have hcell:∀j u,cs[j]?=some u→W.cell? ((⟨g,0,none⟩:Addr).add j)=some u:=fun j u hj=>by
  rw[add_plain,Nat.zero_add,hg.cel]
  simpa using hj
 have hmax:n+1≤maxLen:=by
  have h2:=hT.hb
  have h3:n+1≤(n+1)*bytes:=Nat.le_mul_of_pos_right _ h2
  simp only[maxLen];omega
 have hl1:cs.length=1*m:=by rw[hm,Nat.one_mul]
 obtain⟨v',w',hrun,hown',hgr,_⟩:=run_append_own (P:=P) W 0 t ty e inf z m bytes hT.ht e1 e2' e3 e4 e5 hT.hk _ _ _ hown ⟨g,0,none⟩ 1 cp2 cs hl1 hcell hone hmax hb (Nat.zero_le _)
 obtain⟨A',cp',rfl⟩:∃A' cp',v'=.slice A' (n+1) cp':=by
  rcases hown'.2 with⟨rfl,e6⟩|⟨g,cap,cur,rfl,_⟩
  ·exact absurd e6 (Nat.succ_ne_zero n)
  ·exact⟨_,_,rfl⟩
 have hT1:Trn (fun b=>(Value.slice A n cp).ownBlock=some b) W w':=Trn.of_grown hgr fun k hk=>hk
 have hwh:=app_where hT.ht e1 e2' e3 e4 e5 hT.hk hown hl1 hcell hone hmax hb hrun
 have old:∀b,b<W.heap.size→(Value.slice A n cp).ownBlock≠some b→w'.heap[b]?=W.heap[b]?:=fun b hb hn=>hT1.block b hb hn
 have hS2:∀b,S2 b→w'.heap[b]?=W.heap[b]?:=fun b hb=>old b (h4 b hb).2 (h4 b hb).1
 have hS3:∀b,S3 b→w'.heap[b]?=W.heap[b]?:=fun b hb=>old b (clo_fin _ _ _ hR b hb) fun e=>hdis b ((h5 b).2 (.inl e)) hb
 have hnew:∀b,S2 b∨S3 b→(Value.slice A' (n+1) cp').ownBlock≠some b∧b<w'.heap.size:=fun b hb=>by
  have hlt:b<W.heap.size:=hb.elim (fun h=>(h4 b h).2) (fun h=>clo_fin _ _ _ hR b h)
  have hne:(Value.slice A n cp).ownBlock≠some b:=hb.elim (fun h=>(h4 b h).1) (fun h e=>hdis b ((h5 b).2 (.inl e)) h)
  refine⟨fun e=>?_,Nat.lt_of_lt_of_le hlt hT1.size⟩
  rcases hwh b e with h|h|h
  ·exact hne h
  ·omega
  ·omega
 have hfl:((List.range n).flatMap f++cs)=(List.range (n+1)).flatMap (fun j=>if j=n then cs else f j):=by
  rw[List.range_succ,List.flatMap_append]
  congr 1
  ·refine flatMap_cg fun j hj=>?_
   rw[if_neg (by have:=List.mem_range.1 hj;omega)]
  ·simp
 rw[hfl]at hown'
 refine⟨(A',cp'),fun b=>(Value.slice A' (n+1) cp').ownBlock=some b∨S2 b∨S3 b,w',?_,⟨hT1.os,hT1.tape,hT1.output,hT1.size,fun b hb hn=>old b hb fun e=>hn ((hSS b).2 (.inl ((h5 b).2 (.inl e))))⟩,(show _∧_ from⟨hx0,fun j=>if j=n then cs else f j,fun b=>S2 b∨S3 b,fun j=>?_,hown',fun j hj=>?_,hnew,fun b=>Iff.rfl⟩),fun b hb=>?_⟩
 ·simp only[bsem]
  rw[append_ty hT.ht ht2]
  exact hrun
 ·dsimp only
  split
  ·exact hm
  ·exact h0 j
 ·dsimp only
  by_cases hjn:j=n
  ·subst hjn
   rw[if_pos rfl]
   exact⟨A2,cq,S3,fun b hb=>.inr hb,hcs,(cloX e2 k c (ls j) A2 cq).loc _ _ _ _ hS3 (cloX_x rfl hR)⟩
  ·rw[if_neg hjn]
   exact(apL e2 k c pre ls).mono j S2 _ _ _ (fun b hb=>.inl hb) ((apL e2 k c pre ls).loc j S2 W _ _ hS2 (h3 j (by omega)))
 ·rcases hb with hb|hb
  ·refine⟨?_,(hown'.lt b hb).2⟩
   rcases hwh b hb with h|h|h
   ·exact .inl ((hSS b).2 (.inl ((h5 b).2 (.inl h))))
   ·exact .inr (Nat.le_of_eq h.symm)
   ·exact .inr h
  ·refine⟨.inl ((hSS b).2 (hb.elim (fun h=>.inl ((h5 b).2 (.inr h))) .inr)),(hnew b hb).2⟩
end
theorem clo_slv{α:Type}{lo e m:Nat}{c:α→List Value}{l:List α}{A:Option Addr}{cp:Nat}(hc:∀x,(c x).length=m)(d:α){x:Value}{S:Nat→Prop}{w:World}(hφ:(cloX e m c l A cp).φ x S w)(hS:∀b,S b→lo≤b): SlV lo m (fun _ x cs=>cs=c x) w l (.slice A l.length cp):=by
 rcases(show _∨_ from hφ)with h|⟨_,rfl,rfl,⟨g,rfl⟩,_⟩
 ·exact row_slv hc d h hS
 ·exact⟨_,_,rfl,Nat.le_refl _,fun h=>(nomatch h),fun h=>absurd h (Nat.lt_irrefl _)⟩
theorem ap_slv{α β:Type}{lo e m n e2 k:Nat}{p:Rdg β}{l:List β}{c:α→List Value}{pre:Nat→List Value}{ls:Nat→List α}{A:Option Addr}{cp:Nat}{x:Value}{S:Nat→Prop}{w:World}(hc:∀x,(c x).length=k)(d:α)(hn:n=l.length)(hφ:(genR e m n (apL e2 k c pre ls) A cp).φ x S w)(hS:∀b,S b→lo≤b)(hp:∀j (h:j<l.length) v,SlV lo k (fun _ x cs=>cs=c x) w (ls j) v→p w l[j] (pre j++[v])): SlV lo m p w l (.slice A n cp) :=
 gen_slv hn hφ hS fun j h S2 cs hS2 h2=>by
  obtain⟨A',cp',S',k1,k2,k3⟩:=h2
  rw[k2]
  exact hp j h _ (clo_slv hc d k3 fun b hb=>hS2 b (k1 b hb))
