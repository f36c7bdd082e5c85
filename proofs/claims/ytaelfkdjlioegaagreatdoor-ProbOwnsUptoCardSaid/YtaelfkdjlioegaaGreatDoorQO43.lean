/- The walks and plain laws beneath the statements. -/
import Derived.Test.YtaelfkdjlioegaaGreatDoorQO42
namespace Go.Proofs.YtaelfkdjlioegaaGreatDoor
open Go Go.RowKit
def bigR(w:World)(e k n:Nat)(A:Option Addr)(S:Nat→Prop): Prop:=n=0∨∃g cur,A=some ⟨g,0,none⟩∧S g∧Bx w g e cur∧n*k≤cur.size
theorem bigR.frz{w w':World}{e k n:Nat}{A:Option Addr}{S:Nat→Prop}(h:bigR w e k n A S)(hb:∀b,S b→w'.heap[b]?=w.heap[b]?): bigR w' e k n A S:=by
 rcases h with h|⟨g,cur,h1,hg,hB,hn⟩
 ·exact .inl h
 ·exact .inr ⟨g,cur,h1,hg,(hb g hg).trans hB,hn⟩
theorem bigR.mono{w:World}{e k n:Nat}{A:Option Addr}{S T:Nat→Prop}(h:bigR w e k n A S)(hb:∀b,S b→T b): bigR w e k n A T:=by
 rcases h with h|⟨g,cur,h1,hg,hB,hn⟩
 ·exact .inl h
 ·exact .inr ⟨g,cur,h1,hb g hg,hB,hn⟩
theorem bigR.set{w:World}{e k n:Nat}{A:Option Addr}{S:Nat→Prop}(h:bigR w e k n A S)(g o:Nat)(vs:List Value): bigR (setN w g o vs) e k n A S:=by
 rcases h with h|⟨g',cur,h1,hg,hB,hn⟩
 ·exact .inl h
 ·by_cases hgg:g'=g
  ·subst hgg
   have hB2:Bx w g' e cur.toList.toArray:=by simpa using hB
   refine .inr ⟨g',_,h1,hg,Bx.setL vs o hB2,?_⟩
   rw[List.size_toArray,spl_len,Array.length_toList]
   exact hn
  ·exact .inr ⟨g',cur,h1,hg,(setN_block vs o w g g' hgg).trans hB,hn⟩
theorem main_frz{w w':World}{e k k' n:Nat}{A:Option Addr}{f:Nat→List Value}{Mn:Nat→Prop}(hB:bigR w e k n A Mn)(h:RdK w A n k' f)(hb:∀b,Mn b→w'.heap[b]?=w.heap[b]?): RdK w' A n k' f:=fun h0=>by
 rcases hB with h1|⟨g,cur,h1,hg,_⟩
 ·omega
 ·obtain⟨b,off,e,hc⟩:=h h0
  refine⟨b,off,e,fun j hj i hi=>?_⟩
  rw[h1]at e
  injection e with e
  injection e with e _ _
  subst e
  have hh:=hb _ hg
  rw[← hc j hj i hi]
  simp only[World.cell?,hh]
theorem clear_run{P:Program}{t ty e k n cp:Nat}{z:Value}{A:Option Addr}{S:Nat→Prop}{w:World}(ht:P.underlying t=some (.slice e))(hv:∀w,(zeroValue e).run P w=.ok z w)(hz:z.cells.size=k)(hk:0<k)(h1:∀u,u∈z.cells.toList→u.oneCell'=true)(h:bigR w e k n A S):
  ∃w',(bsem .clear #[t] ty [.slice A n cp]).run P w=.ok (.tuple #[]) w'∧(w'=w∨∃g vs,S g∧w'=setN w g 0 vs):=by
 cases n with
 | zero=>exact⟨w,by cases A<;>simp[bsem,Builtin.clear_,run_underlying ht],.inl rfl⟩
 | succ n =>
  rcases h with h|⟨g,cur,rfl,hg,hB,hn⟩
  ·omega
  ·have hl:(Builtin.zeroCells z.cells (n+1)).toList.length=(n+1)*k:=by simp[Builtin.zeroCells,hz]
   have hst:=store_cells (P:=P) (g:=g) (bt:=e) (o:=0) (Builtin.zeroCells z.cells (n+1)).toList 0 w cur hB (by rw[hl];omega) (fun u hu=>by
    simp only[Builtin.zeroCells,Array.toList_map,List.mem_map]at hu
    obtain⟨i,_,rfl⟩:=hu
    have hi:i % z.cells.size<z.cells.size:=Nat.mod_lt _ (by omega)
    rw[getElem!_pos z.cells (i % z.cells.size) hi]
    exact h1 _ (by simp))
   refine⟨_,?_,.inr ⟨g,(Builtin.zeroCells z.cells (n+1)).toList,hg,rfl⟩⟩
   simp only[Nat.add_zero]at hst
   simp[bsem,Builtin.clear_,run_underlying ht,hv,hst]
structure Fam (w:World) (x:PV) (y:Hp5) (U:Nat→Nat→Hp) (Mn Inn:Nat→Prop):Prop where
 b:bigR w 58 6 x.box.length y.1.1 Inn
 s:bigR w 45 1 x.pts.length y.2.1.1 Mn
 s':RdK w y.2.1.1 x.pts.length 1 (fun j=>[.slice (U 0 j).1 (ptAt x.pts j).length (U 0 j).2])
 si:∀j,j<x.pts.length→bigR w 32 3 (ptAt x.pts j).length (U 0 j).1 Inn
 p:bigR w 48 2 x.ps.length y.2.2.1.1 Mn
 p':RdK w y.2.2.1.1 x.ps.length 2 (fun j=>[.int .i64 (pyAt x.ps j).vars,.slice (U 1 j).1 (pyAt x.ps j).ts.length (U 1 j).2])
 pi:∀j,j<x.ps.length→bigR w 54 4 (pyAt x.ps j).ts.length (U 1 j).1 Inn
 r:bigR w 48 2 x.rules.length y.2.2.2.1.1 Mn
 r':RdK w y.2.2.2.1.1 x.rules.length 2 (fun j=>[.int .i64 (pyAt x.rules j).vars,.slice (U 2 j).1 (pyAt x.rules j).ts.length (U 2 j).2])
 ri:∀j,j<x.rules.length→bigR w 54 4 (pyAt x.rules j).ts.length (U 2 j).1 Inn
 c:bigR w 50 6 x.cert.length y.2.2.2.2.1 Mn
 c':RdK w y.2.2.2.2.1 x.cert.length 6 (fun j=>[.int .i64 (ndAt x.cert j).split,.bool (ndAt x.cert j).scale.b,.string (ndAt x.cert j).scale.s,.int .i64 (ndAt x.cert j).scale.e,.int .i64 (ndAt x.cert j).sum.vars,.slice (U 3 j).1 (ndAt x.cert j).sum.ts.length (U 3 j).2])
 ci:∀j,j<x.cert.length→bigR w 54 4 (ndAt x.cert j).sum.ts.length (U 3 j).1 Inn
section
variable {w w':World} {x:PV} {y:Hp5} {U:Nat→Nat→Hp} {Mn Inn:Nat→Prop}
theorem Fam.frz(h:Fam w x y U Mn Inn)(hm:∀b,Mn b→w'.heap[b]?=w.heap[b]?)(hi:∀b,Inn b→w'.heap[b]?=w.heap[b]?): Fam w' x y U Mn Inn :=
 ⟨h.b.frz hi,h.s.frz hm,main_frz h.s h.s' hm,fun j hj=>(h.si j hj).frz hi,h.p.frz hm,main_frz h.p h.p' hm,fun j hj=>(h.pi j hj).frz hi,h.r.frz hm,main_frz h.r h.r' hm,fun j hj=>(h.ri j hj).frz hi,h.c.frz hm,main_frz h.c h.c' hm,fun j hj=>(h.ci j hj).frz hi⟩
theorem Fam.set(h:Fam w x y U Mn Inn){g:Nat}(hg:¬ Mn g)(vs:List Value): Fam (setN w g 0 vs) x y U Mn Inn :=
 have hm:∀b,Mn b→(setN w g 0 vs).heap[b]?=w.heap[b]?:=fun b hb=>setN_block _ _ _ _ _ fun e=>hg (e▸hb)
 ⟨h.b.set _ _ _,h.s.set _ _ _,main_frz h.s h.s' hm,fun j hj=>(h.si j hj).set _ _ _,h.p.set _ _ _,main_frz h.p h.p' hm,fun j hj=>(h.pi j hj).set _ _ _,h.r.set _ _ _,main_frz h.r h.r' hm,fun j hj=>(h.ri j hj).set _ _ _,h.c.set _ _ _,main_frz h.c h.c' hm,fun j hj=>(h.ci j hj).set _ _ _⟩
end
def famX(x:PV)(y:Hp5): Res where
 φ v S w:=v=.bool false∧∃lo w0 U Mn Inn,Five lo w0 x (.slice y.1.1 x.box.length y.1.2) (.slice y.2.1.1 x.pts.length y.2.1.2) (.slice y.2.2.1.1 x.ps.length y.2.2.1.2) (.slice y.2.2.2.1.1 x.rules.length y.2.2.2.1.2) (.slice y.2.2.2.2.1 x.cert.length y.2.2.2.2.2)∧Fam w0 x y U Mn Inn∧(∀b,Mn b→S b∧¬ Inn b)∧(∀b,Inn b→S b)∧(∀b,S b↔lo≤b∧b<w0.heap.size)∧∀b,S b→w.heap[b]?=w0.heap[b]?
 one _ _ _ h:=by rw[h.1];rfl
 loc v S w w' h hφ:=by
  obtain⟨h1,lo,w0,U,Mn,Inn,h2,h3,h4,h5,h6,h7⟩:=hφ
  exact⟨h1,lo,w0,U,Mn,Inn,h2,h3,h4,h5,h6,fun b hb=>(h b hb).trans (h7 b hb)⟩
theorem fam_fiv{x:PV}{y:Hp5}{v:Value}{S:Nat→Prop}{w:World}(h:(famX x y).φ v S w): (fivR x y).φ v S w:=by
 obtain⟨h1,lo,w0,U,Mn,Inn,h2,h3,h4,h5,h6,h7⟩:=(show _∧_ from h)
 exact(show _∧_ from⟨by rw[h1];rfl,lo,w0,h2,h6,h7⟩)
def famU(x:PV)(y:Hp5)(U:Nat→Nat→Hp): Res where
 φ v S w:=v=.bool false∧∃Mn Inn,Fam w x y U Mn Inn∧(∀b,Mn b→S b∧¬ Inn b)∧(∀b,Inn b→S b)∧∀b,S b→b<w.heap.size
 one _ _ _ h:=by rw[h.1];rfl
 loc v S w w' h hφ:=by
  obtain⟨h1,Mn,Inn,h2,h3,h4,h5⟩:=hφ
  refine⟨h1,Mn,Inn,h2.frz (fun b hb=>h b (h3 b hb).1) (fun b hb=>h b (h4 b hb)),h3,h4,fun b hb=>?_⟩
  have h6:=h b hb
  rcases Nat.lt_or_ge b w'.heap.size with h8|h8
  ·exact h8
  ·rw[Array.getElem?_eq_none h8,Array.getElem?_eq_getElem (h5 b hb)]at h6
   cases h6
theorem fam_open{x:PV}{y:Hp5}: ∀(v:Value) (S:Nat→Prop) (w:World),(famX x y).φ v S w→∃U:Nat→Nat→Hp,v=.bool false∧(famU x y U).φ v S w:=fun v S w h=>by
 obtain⟨h1,lo,w0,U,Mn,Inn,h2,h3,h4,h5,h6,h7⟩:=(show _∧_ from h)
 refine⟨U,h1,(show _∧_ from⟨h1,Mn,Inn,h3.frz (fun b hb=>h7 b (h4 b hb).1) (fun b hb=>h7 b (h5 b hb)),h4,h5,fun b hb=>?_⟩)⟩
 have k:=h7 b hb
 have k2:=((h6 b).1 hb).2
 rcases Nat.lt_or_ge b w.heap.size with h8|h8
 ·exact h8
 ·rw[Array.getElem?_eq_none h8,Array.getElem?_eq_getElem k2]at k
  cases k
def fam3(x:PV)(y:Hp5): Res where
 φ v S w:=v=.bool false∧bigR w 48 2 x.ps.length y.2.2.1.1 S∧bigR w 48 2 x.rules.length y.2.2.2.1.1 S∧bigR w 50 6 x.cert.length y.2.2.2.2.1 S∧∀b,S b→b<w.heap.size
 one _ _ _ h:=by rw[h.1];rfl
 loc v S w w' h hφ:=by
  obtain⟨h1,h2,h3,h4,h5⟩:=hφ
  refine⟨h1,h2.frz h,h3.frz h,h4.frz h,fun b hb=>?_⟩
  have h6:=h b hb
  rcases Nat.lt_or_ge b w'.heap.size with h8|h8
  ·exact h8
  ·rw[Array.getElem?_eq_none h8,Array.getElem?_eq_getElem (h5 b hb)]at h6
   cases h6
theorem fam_rest{x:PV}{y:Hp5}{U:Nat→Nat→Hp}(v:Value)(S:Nat→Prop)(w:World)(h:(famU x y U).φ v S w): (fam3 x y).φ v S w:=by
 obtain⟨h1,Mn,Inn,h2,h3,h4,h5⟩:=(show _∧_ from h)
 exact(show _∧_ from⟨h1,h2.p.mono fun b hb=>(h3 b hb).1,h2.r.mono fun b hb=>(h3 b hb).1,h2.c.mono fun b hb=>(h3 b hb).1,h5⟩)
section
variable {P:Program} {w0:World} {x:PV} {y:Hp5} {U:Nat→Nat→Hp}
theorem fam_in{M:Sem Value}{R:Value}(h:∀W' Mn Inn,Fam W' x y U Mn Inn→RunOk P W' M R): RunIn P w0 [famU x y U] M R:=fun W _ v S hφ=>by
 obtain⟨_,Mn,Inn,h2,_⟩:=(show _∧_ from hφ)
 exact h W Mn Inn h2 W (Below.refl _ _)
theorem famU_clear{t ty e k n cp:Nat}{z:Value}{A:Option Addr}(ht:P.underlying t=some (.slice e))(hv:∀w,(zeroValue e).run P w=.ok z w)(hz:z.cells.size=k)(hk:0<k)(h1:∀u,u∈z.cells.toList→u.oneCell'=true)(hsel:∀w Mn Inn,Fam w x y U Mn Inn→bigR w e k n A Inn):
  ∀W v S,(famU x y U).φ v S W→EffR P W (fun _:Unit=>.tuple #[]) (fun _:Unit=>famU x y U) v S (bsem .clear #[t] ty [.slice A n cp]):=fun W v S hφ=>by
 obtain⟨hx,Mn,Inn,h2,h3,h4,h5⟩:=(show _∧_ from hφ)
 obtain⟨w',hr,he⟩:=clear_run (ty:=ty) (cp:=cp) ht hv hz hk h1 (hsel W Mn Inn h2)
 rcases he with rfl|⟨g,vs,hg,rfl⟩
 ·exact⟨(),S,_,hr,Trn.refl _ _,hφ,fun b hb=>⟨.inl hb,h5 b hb⟩⟩
 ·refine⟨(),S,_,hr,setNG_trn (h4 g hg) vs 0,(show _∧_ from⟨hx,Mn,Inn,h2.set (fun hm=>(h3 g hm).2 hg) vs,h3,h4,fun b hb=>?_⟩),fun b hb=>⟨.inl hb,?_⟩⟩<;>(rw[setN_size];exact h5 b hb)
theorem fam3_clear{t ty e k n cp:Nat}{z:Value}{A:Option Addr}(ht:P.underlying t=some (.slice e))(hv:∀w,(zeroValue e).run P w=.ok z w)(hz:z.cells.size=k)(hk:0<k)(h1:∀u,u∈z.cells.toList→u.oneCell'=true)(hsel:∀w v S,(fam3 x y).φ v S w→bigR w e k n A S):
  ∀W v S,(fam3 x y).φ v S W→EffR P W (fun _:Unit=>.tuple #[]) (fun _:Unit=>fam3 x y) v S (bsem .clear #[t] ty [.slice A n cp]):=fun W v S hφ=>by
 obtain⟨hx,h2,h3,h4,h5⟩:=(show _∧_∧_∧_∧_ from hφ)
 obtain⟨w',hr,he⟩:=clear_run (ty:=ty) (cp:=cp) ht hv hz hk h1 (hsel W v S hφ)
 rcases he with rfl|⟨g,vs,hg,rfl⟩
 ·exact⟨(),S,_,hr,Trn.refl _ _,hφ,fun b hb=>⟨.inl hb,h5 b hb⟩⟩
 ·refine⟨(),S,_,hr,setNG_trn hg vs 0,(show _∧_∧_∧_∧_ from⟨hx,h2.set _ _ _,h3.set _ _ _,h4.set _ _ _,fun b hb=>?_⟩),fun b hb=>⟨.inl hb,?_⟩⟩<;>(rw[setN_size];exact h5 b hb)
end
theorem row_big{α:Type}{e k:Nat}{c:α→List Value}{l:List α}{A:Option Addr}{cp:Nat}{v:Value}{S T:Nat→Prop}{w:World}(h:(rowR e k c l A cp).φ v S w)(hT:∀b,S b→T b): bigR w e k l.length A T:=by
 obtain⟨_,h2,h3⟩:=(show _∧_∧_ from h)
 rcases h2.2 with⟨_,e2⟩|⟨g,cap,cur,e1,_,hg,hnc,_,hcs,_⟩
 ·exact .inl e2
 ·injection e1 with e1 _ _
  subst e1
  refine .inr ⟨g,cur,rfl,hT g ((h3 g).2 rfl),hg,?_⟩
  rw[hcs]
  exact Nat.mul_le_mul_right _ hnc
theorem own_rdK{w:World}{e m n cp:Nat}{A:Option Addr}{f:Nat→List Value}(h0:∀j,(f j).length=m)(h2:w.ownsRow 0 e m (.slice A n cp) n ((List.range n).flatMap f)): RdK w A n m f:=fun hn=>by
 rcases h2.2 with⟨e1,e2⟩|⟨g,cap,cur,e1,_,hg,hnc,_,hcs,htake⟩
 ·omega
 ·injection e1 with e1 _ _
  refine⟨g,0,e1,fun j hj i hi=>?_⟩
  have hl:∀j,(f j).length=m:=h0
  have hat:=flatMap_at (c:=f) hl (l:=List.range n) (j:=j) (i:=i) (by simpa using hj) hi
  rw[List.getElem_range]at hat
  rw[Nat.zero_add,cell_of_row w g (j*m+i) cur e (0,0) hg,← Array.getElem?_toList,← hat,← htake,List.getElem?_take_of_lt]
  have h2:(j+1)*m≤n*m:=Nat.mul_le_mul_right _ (by omega)
  rw[Nat.succ_mul]at h2
  omega
theorem gen_fam{α:Type}{e m n e2 k i:Nat}{c:α→List Value}{pre:Nat→List Value}{ls:Nat→List α}{us:Nat→Value}{A:Option Addr}{cp:Nat}{v:Value}{S:Nat→Prop}{w:World}(hni:n≤i)(hφ:(genR e m n (ownL e2 k c pre ls us i) A cp).φ v S w):
  ∃(U:Nat→Hp) (Mn T:Nat→Prop),bigR w e m n A Mn∧RdK w A n m (fun j=>pre j++[.slice (U j).1 (ls j).length (U j).2])∧(∀j,j<n→bigR w e2 k (ls j).length (U j).1 T)∧(∀b,Mn b→S b∧¬ T b)∧∀b,T b→S b:=by
 obtain⟨h1,f,S2,h0,h2,h3,h4,h5⟩:=(show _∧_ from hφ)
 have key:∀j,∃u:Hp,j<n→f j=pre j++[.slice u.1 (ls j).length u.2]∧bigR w e2 k (ls j).length u.1 S2:=fun j=>by
  by_cases hj:j<n
  ·obtain⟨A',cp',S',k1,k2,k3⟩:=(h3 j hj).1 (by omega)
   exact⟨(A',cp'),fun _=>⟨k2,row_big k3 k1⟩⟩
  ·exact⟨(none,0),fun h=>absurd h hj⟩
 refine⟨fun j=>Classical.choose (key j),fun b=>(Value.slice A n cp).ownBlock=some b,S2,?_,(own_rdK h0 h2).congr fun j hj=>(Classical.choose_spec (key j) hj).1,fun j hj=>(Classical.choose_spec (key j) hj).2,fun b hb=>⟨(h5 b).2 (.inl hb),fun hs=>(h4 b hs).1 hb⟩,fun b hb=>(h5 b).2 (.inr hb)⟩
 rcases h2.2 with⟨_,e2⟩|⟨g,cap,cur,e1,_,hg,hnc,_,hcs,_⟩
 ·exact .inl e2
 ·injection e1 with e1 _ _
  subst e1
  refine .inr ⟨g,cur,rfl,rfl,hg,?_⟩
  rw[hcs]
  exact Nat.mul_le_mul_right _ hnc
