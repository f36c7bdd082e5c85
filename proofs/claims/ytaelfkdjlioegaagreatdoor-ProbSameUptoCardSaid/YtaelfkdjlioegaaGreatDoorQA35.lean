/- The walks and plain laws beneath the statements. -/
import Derived.Test.YtaelfkdjlioegaaGreatDoorQA25
import Derived.Test.YtaelfkdjlioegaaGreatDoorQA34
import Derived.RegionTactic
namespace Go.Proofs.YtaelfkdjlioegaaGreatDoor
set_option maxRecDepth 100000
open Go Go.RowKit
def dN(x:Dyadic): Nm:=⟨neg (dm x),mag (dm x),de x⟩
def dfN(pts:List (List Nm))(i j:Nat): Nm:=dN (nv (nmAt (ptAt pts (i+1)) j)-nv (nmAt (ptAt pts 0) j))
def dfR(pts:List (List Nm))(N i:Nat): List Nm:=(List.range N).map (dfN pts i)
def dfT(pts:List (List Nm))(N:Nat): List (List Nm):=(List.range N).map (dfR pts N)
theorem rsucc{α:Type}(f:Nat→α)(k:Nat): (List.range k).map f++[f k]=(List.range (k+1)).map f:=by
 rw[List.range_succ,List.map_append];rfl
def tlA(A:Option Addr)(c sz:Nat): Option Addr:=A.map fun a=>⟨a.block,if c=1 then a.off else a.off+sz,none⟩
theorem sl_tl{t e sz n c:Nat}{ag:Option Bool}{A:Option Addr}{ti:TI}{w0:World}{f:Nat→List Value}(hi:tiOf Tryz.prog t=some ti)(hk:ti.k=.slice e sz ag)(hz:sz≠0)(hn:n+1≤c)(hr:RdK w0 A (n+1) sz f):
  RunOk Tryz.prog w0 (Instr.sliceAt t (.slice A (n+1) c) (some (.int .i64 1)) none none) (.slice (tlA A c sz) n (c-1)):=fun W _=>by
 obtain⟨b,off,rfl,_⟩:=hr (Nat.succ_pos _)
 have h:=slice_sli (P:=Tryz.prog) (w:=W) (g:=b) (o:=off) (n:=n+1) (c:=c) (l:=1) (h:=n+1) (lo:=some (.int .i64 1)) (hi:=none) hi hk hz (.inr ⟨.i64,rfl⟩) (.inl ⟨rfl,rfl⟩) (by omega) hn
 rw[h,Nat.one_mul]
 rfl
theorem rd_tl{n c sz:Nat}{A:Option Addr}{w:World}{f:Nat→List Value}(hn:n+1≤c)(hr:RdK w A (n+1) sz f): RdK w (tlA A c sz) n sz (fun j=>f (j+1)):=fun h0=>by
 obtain⟨b,off,rfl,hc⟩:=hr (Nat.succ_pos _)
 have hne:c≠1:=by omega
 refine⟨b,off+sz,by simp[tlA,hne],fun j hj i hi=>?_⟩
 have h:=hc (j+1) (by omega) i hi
 rw[Nat.succ_mul]at h
 rw[← h]
 congr 2
 omega
def cell1(v:Value): List Value:=[v]
theorem tab_step{α:Type}{P:Program}{w0:World}{t t2 ty e e1 k bytes bt cp3:Nat}{c:α→List Value}{ll ll':List (List α)}{l l':List α}{A A2:Option Addr}{cp cp2:Nat}(hT:RowT P t t2 e1 1 bytes)(hc:∀x,(c x).length=k)(hl:l=l')(hll:ll++[l']=ll')(hb:ll'.length*bytes≤140737488355328):
  ∀W,Below w0.heap.size w0 W→∀g,Bx W g bt #[.slice A2 l.length cp2]→∀x S,(pairR (tabR e1 k c ll A cp) (rowR e k c l A2 cp2)).φ x S W →
   EffR P W (fun y:Hp=>.slice y.1 ll'.length y.2) (fun y:Hp=>tabR e1 k c ll' y.1 y.2) x S (bsem .append #[t,t2] ty [.slice A ll.length cp,.slice (some ⟨g,0,none⟩) 1 cp3]):=by
 subst hl
 subst hll
 exact tab_app hT hc hb
theorem trows_n{As:Option Addr}{cs:Nat}{Au:Nat→Option Addr}{cu:Nat→Nat}{pts:List (List Nm)}{N:Nat}(hN:N≤1048576)(hcs:N+1≤cs)(hpN:pts.length=N+1)(hpl:∀j,j<N+1→(ptAt pts j).length=N)(hok:∀p,p∈pts→∀x,x∈p→okN x)(w:World)(hT0:Tab0 w)(hs:RdK w As (N+1) 1 (fun j=>[.slice (Au j) N (cu j)]))(hp:∀j,j<N+1→RdK w (Au j) N 3 (fun k=>nmC (nmAt (ptAt pts j) k))): NewIn Tryz.prog w [] 102 #[.slice As (N+1) cs] (fun(y:Hp)=>Value.slice y.1 (dfT pts N).length y.2) (fun(y:Hp)=>tabR 44 3 nmC (dfT pts N) y.1 y.2) :=
 new_at (β:=Hp) ttOk mixed (fun a w=>Tryz.call102 a w) Tryz.func102 Tryz.ntmps102 Tryz.results102 _ rfl 0 _ _ [.o 2 1 (.set (.slice (tlA As cs 1) N (cs-1))),.nil 3 99999 44 1 cell1,.cnv 3 99999 0 (tabR 44 3 nmC ((List.range 0).map (dfR pts N)) none 0),.lop (fun(q1:Nat×Hp)=>(⟨41,[(0,lV As (N+1) cs),(3,lV q1.2.1 (((List.range q1.1).map (dfR pts N))).length q1.2.2),(9,lV (tlA As cs 1) N (cs-1)),(10,iV (N:Int)),(11,iV (q1.1:Int))],[],[some (tabR 44 3 nmC ((List.range q1.1).map (dfR pts N)) q1.2.1 q1.2.2)]⟩:St)) (fun(q1:Nat×Hp)=>(q1.1≤N)) (fun(q1:Nat×Hp)=>(N-q1.1)) (((0,none,0):Nat×Hp):Nat×Hp) (fun(q1:Nat×Hp) (u:List Hp)=>(q1.1+1,u.headD (none,0))) (fun(q1:Nat×Hp)=>[.both [.o 4 0 (.set (.pointer (some (adr (tlA As cs 1) (q1.1*1+0))))),.o 4 1 (.set (.slice (Au (q1.1+1)) N (cu (q1.1+1)))),.nil 7 99999 32 3 nmC,.lop (fun(q2:Nat×Hp)=>(⟨41,[(0,lV As (N+1) cs),(3,lV q1.2.1 (((List.range q1.1).map (dfR pts N))).length q1.2.2),(5,lV (Au (q1.1+1)) N (cu (q1.1+1))),(6,lV q2.2.1 (((List.range q2.1).map (dfN pts q1.1))).length q2.2.2),(9,lV (tlA As cs 1) N (cs-1)),(10,iV (N:Int)),(11,iV (q1.1:Int)),(16,iV (N:Int)),(17,iV (q2.1:Int))],[],[none,some (rowR 32 3 nmC ((List.range q2.1).map (dfN pts q1.1)) q2.2.1 q2.2.2)]⟩:St)) (fun(q2:Nat×Hp)=>(q2.1≤N)) (fun(q2:Nat×Hp)=>(N-q2.1)) (((0,none,0):Nat×Hp):Nat×Hp) (fun(q2:Nat×Hp) (u:List Hp)=>(q2.1+1,u.headD (none,0))) (fun(q2:Nat×Hp)=>[.both [.reg 13 [],.o 9 3 (.set (.pointer (some (adr (Au (q1.1+1)) (q2.1*3+0))))),.o 9 4 (.set (.agg #[.bool ((nmAt (ptAt pts (q1.1+1)) q2.1).b),.string ((nmAt (ptAt pts (q1.1+1)) q2.1).s),.int .i64 ((nmAt (ptAt pts (q1.1+1)) q2.1).e)])),.o 9 6 (.set (.pointer (some (adr As (0*1+0))))),.o 9 7 (.set (.slice (Au 0) N (cu 0))),.o 9 9 (.set (.pointer (some (adr (Au 0) (q2.1*3+0))))),.o 9 10 (.set (.agg #[.bool ((nmAt (ptAt pts 0) q2.1).b),.string ((nmAt (ptAt pts 0) q2.1).s),.int .i64 ((nmAt (ptAt pts 0) q2.1).e)])),.o 9 11 (.ret (.agg [bV ((dfN pts q1.1 q2.1).b),sV ((dfN pts q1.1 q2.1).s),iV ((dfN pts q1.1 q2.1).e)])),.eff 9 13 1 (fun(y1:Hp)=>Value.slice y1.1 (((List.range (q2.1+1)).map (dfN pts q1.1))).length y1.2) (fun(y1:Hp)=>rowR 32 3 nmC ((List.range (q2.1+1)).map (dfN pts q1.1)) y1.1 y1.2) (fun(y1:Hp)=>[.o 10 0 (.eq (iV ((q2.1+1:Nat):Int))),.nxt [y1]])] [.join 11 3 0 1,.eff 11 3 0 (fun(y2:Hp)=>Value.slice y2.1 (((List.range (q1.1+1)).map (dfR pts N))).length y2.2) (fun(y2:Hp)=>tabR 44 3 nmC ((List.range (q1.1+1)).map (dfR pts N)) y2.1 y2.2) (fun(y2:Hp)=>[.o 12 0 (.eq (iV ((q1.1+1:Nat):Int))),.nxt [y2]])]])] []])] (fun W hW=>have hT:=tab_keep hT0 hW;have HS:=hs.up hW (fun _=>rfl);have HT:=(rd_tl (f:=fun j=>[.slice (Au j) N (cu j)]) hcs hs).up hW (fun _=>rfl);(fun(HP:∀j,j<N+1→RdK W (Au j) N 3 (fun k=>nmC (nmAt (ptAt pts j) k)))=>aj8 (sl_tl (ttOk 25 _ rfl) rfl (by decide) hcs HS) (show ∀(x:Value) (S:Nat→Prop) (w:World),(rowR 44 1 cell1 ([]:List Value) none 0).φ x S w→(tabR 44 3 nmC ((List.range 0).map (dfR pts N)) none 0).φ x S w from tab_nil _ 3 nmC _) (qV (.slice As (N+1) cs)) (qV (.slice ((0,none,0):Nat×Hp).2.1 (((List.range (((0,none,0):Nat×Hp).1)).map (dfR pts N))).length ((0,none,0):Nat×Hp).2.2)) (qV (.slice (tlA As cs 1) N (cs-1))) (qI (N:Int)) (qI ((((0,none,0):Nat×Hp).1:Nat):Int)) (fun(xφ:Value) (Sφ:Nat→Prop) (wφ:World) (h:(tabR 44 3 nmC ((List.range 0).map (dfR pts N)) none 0).φ xφ Sφ wφ)=>(show(tabR 44 3 nmC ((List.range (((0,none,0):Nat×Hp).1)).map (dfR pts N)) ((0,none,0):Nat×Hp).2.1 ((0,none,0):Nat×Hp).2.2).φ xφ Sφ wφ from h))<|ai (show 0≤N from Nat.zero_le _) fun(q1:Nat×Hp) (hk1:(q1.1≤N))=>ai (fun hl1:(decide ((q1.1:Int)<(N:Int)))=true=>aj8 (ix_Simplex (c:=(cs-1)) (i:=q1.1) HT (ltq hl1)) (la_Point (i:=q1.1) (o:=0) HT (ltq hl1) (by decide) rfl) (qV (.slice As (N+1) cs)) (qV (.slice q1.2.1 (((List.range q1.1).map (dfR pts N))).length q1.2.2)) (qV (.slice (Au (q1.1+1)) N (cu (q1.1+1)))) (qV (.slice ((0,none,0):Nat×Hp).2.1 (((List.range (((0,none,0):Nat×Hp).1)).map (dfN pts q1.1))).length ((0,none,0):Nat×Hp).2.2)) (qV (.slice (tlA As cs 1) N (cs-1))) (qI (N:Int))<|aj5 (qI (q1.1:Int)) (qI (N:Int)) (qI ((((0,none,0):Nat×Hp).1:Nat):Int)) (idR (tabR 44 3 nmC ((List.range q1.1).map (dfR pts N)) q1.2.1 q1.2.2)) (fun(xφ:Value) (Sφ:Nat→Prop) (wφ:World) (h:(rowR 32 3 nmC ([]:List Nm) none 0).φ xφ Sφ wφ)=>(show(rowR 32 3 nmC ((List.range (((0,none,0):Nat×Hp).1)).map (dfN pts q1.1)) (((0,none,0):Nat×Hp).2.1) (((0,none,0):Nat×Hp).2.2)).φ xφ Sφ wφ from h))<|ai (show 0≤N from Nat.zero_le _) fun(q2:Nat×Hp) (hk2:(q2.1≤N))=>ai (fun hl2:(decide ((q2.1:Int)<(N:Int)))=true=>aj7 (ix_Point (c:=(cu (q1.1+1))) (i:=q2.1) (HP (q1.1+1) (Nat.succ_lt_succ (ltq hl1))) (ltq hl2)) (la_Num (i:=q2.1) (o:=0) (HP (q1.1+1) (Nat.succ_lt_succ (ltq hl1))) (ltq hl2) (by decide) rfl rfl) (ix_Simplex (c:=cs) (i:=0) HS (Nat.succ_pos N)) (la_Point (i:=0) (o:=0) HS (Nat.succ_pos N) (by decide) rfl) (ix_Point (c:=(cu 0)) (i:=q2.1) (HP 0 (Nat.succ_pos N)) (ltq hl2)) (la_Num (i:=q2.1) (o:=0) (HP 0 (Nat.succ_pos N)) (ltq hl2) (by decide) rfl rfl) (show RetAt Tryz.prog W 128 #[.agg #[.bool ((nmAt (ptAt pts (q1.1+1)) q2.1).b),.string ((nmAt (ptAt pts (q1.1+1)) q2.1).s),.int .i64 ((nmAt (ptAt pts (q1.1+1)) q2.1).e)],.agg #[.bool ((nmAt (ptAt pts 0) q2.1).b),.string ((nmAt (ptAt pts 0) q2.1).s),.int .i64 ((nmAt (ptAt pts 0) q2.1).e)]] (.agg #[.bool ((dfN pts q1.1 q2.1).b),.string ((dfN pts q1.1 q2.1).s),.int .i64 ((dfN pts q1.1 q2.1).e)])from⟨fun a w=>Tryz.call128 a w,fun W' hW'=>dSub_any W' (hok _ (ptAt_mem (show q1.1+1<pts.length by rw[hpN];have:=of_decide_eq_true hl1;omega)) _ (nmAt_mem (show q2.1<(ptAt pts (q1.1+1)).length by rw[hpl (q1.1+1) (by have:=of_decide_eq_true hl1;omega)];exact(ltq hl2)))).nd (hok _ (ptAt_mem (show 0<pts.length by rw[hpN];omega)) _ (nmAt_mem (show q2.1<(ptAt pts 0).length by rw[hpl 0 (by omega)];exact(ltq hl2)))).nd (hok _ (ptAt_mem (show q1.1+1<pts.length by rw[hpN];have:=of_decide_eq_true hl1;omega)) _ (nmAt_mem (show q2.1<(ptAt pts (q1.1+1)).length by rw[hpl (q1.1+1) (by have:=of_decide_eq_true hl1;omega)];exact(ltq hl2)))).db (hok _ (ptAt_mem (show 0<pts.length by rw[hpN];omega)) _ (nmAt_mem (show q2.1<(ptAt pts 0).length by rw[hpl 0 (by omega)];exact(ltq hl2)))).db (by decide) (tab_keep hT hW')⟩)<|ai (eff_lit (w0:=W) (ty:=44) (c:=nmC) (l:=((List.range q2.1).map (dfN pts q1.1))) (l2:=[dfN pts q1.1 q2.1]) (l':=((List.range (q2.1+1)).map (dfN pts q1.1))) (A:=q2.2.1) (cp:=q2.2.2) (bt:=32) (m:=1) (cp2:=1) (cs:=[.bool ((dfN pts q1.1 q2.1).b),.string ((dfN pts q1.1 q2.1).s),.int .i64 ((dfN pts q1.1 q2.1).e)]) rt_sNum_sNum nmC_len nmC_one (rsucc (dfN pts q1.1) q2.1) (show(((List.range (q2.1+1)).map (dfN pts q1.1))).length*32≤140737488355328 from by rw[List.length_map,List.length_range];have:=of_decide_eq_true hl2;omega) rfl rfl) fun(y1:Hp)=>aj8 (wnat1p (n:=q2.1) (by omega)) (qV (.slice As (N+1) cs)) (qV (.slice q1.2.1 (((List.range q1.1).map (dfR pts N))).length q1.2.2)) (qV (.slice (Au (q1.1+1)) N (cu (q1.1+1)))) (qV (.slice y1.1 (((List.range (q2.1+1)).map (dfN pts q1.1))).length y1.2)) (qV (.slice (tlA As cs 1) N (cs-1))) (qI (N:Int)) (qI (q1.1:Int))<|aj4 (qI (N:Int)) (qI (((q2.1+1):Nat):Int)) (idR (tabR 44 3 nmC ((List.range q1.1).map (dfR pts N)) q1.2.1 q1.2.2)) (fun(xφ:Value) (Sφ:Nat→Prop) (wφ:World) (h:(rowR 32 3 nmC ((List.range (q2.1+1)).map (dfN pts q1.1)) y1.1 y1.2).φ xφ Sφ wφ)=>(show(rowR 32 3 nmC ((List.range (q2.1+1)).map (dfN pts q1.1)) y1.1 y1.2).φ xφ Sφ wφ from h))<|ai (show q2.1+1≤N from ltq hl2) (show N-(q2.1+1)<N-q2.1 from by have:=of_decide_eq_true hl2;omega)) fun hl2:(decide ((q2.1:Int)<(N:Int)))=false=>ai (tab_step (w0:=W) (e:=32) (ty:=132) (bt:=44) (cp3:=1) (ll:=((List.range q1.1).map (dfR pts N))) (l:=((List.range q2.1).map (dfN pts q1.1))) (l':=dfR pts N q1.1) (ll':=((List.range (q1.1+1)).map (dfR pts N))) (A:=q1.2.1) (A2:=q2.2.1) (cp:=q1.2.2) (cp2:=q2.2.2) rt_ssNum_ssNum nmC_len (show((List.range q2.1).map (dfN pts q1.1))=dfR pts N q1.1 from by rw[(show q2.1=N from by have:=of_decide_eq_false hl2;omega)];rfl) (rsucc (dfR pts N) q1.1) (show(((List.range (q1.1+1)).map (dfR pts N))).length*24≤140737488355328 from by rw[List.length_map,List.length_range];have:=of_decide_eq_true hl1;omega)) fun(y2:Hp)=>aj7 (wnat1p (n:=q1.1) (by omega)) (qV (.slice As (N+1) cs)) (qV (.slice y2.1 (((List.range (q1.1+1)).map (dfR pts N))).length y2.2)) (qV (.slice (tlA As cs 1) N (cs-1))) (qI (N:Int)) (qI (((q1.1+1):Nat):Int)) (fun(xφ:Value) (Sφ:Nat→Prop) (wφ:World) (h:(tabR 44 3 nmC ((List.range (q1.1+1)).map (dfR pts N)) y2.1 y2.2).φ xφ Sφ wφ)=>(show(tabR 44 3 nmC ((List.range (q1.1+1)).map (dfR pts N)) y2.1 y2.2).φ xφ Sφ wφ from h))<|ai (show q1.1+1≤N from ltq hl1) (show N-(q1.1+1)<N-q1.1 from by have:=of_decide_eq_true hl1;omega)) fun hl1:(decide ((q1.1:Int)<(N:Int)))=false=>(show ∃y:Hp,SV.val (.slice q1.2.1 (((List.range q1.1).map (dfR pts N))).length q1.2.2)=SV.val ((fun(y:Hp)=>Value.slice y.1 (dfT pts N).length y.2) y)∧∀(x:Value) (S:Nat→Prop) (w:World),(tabR 44 3 nmC ((List.range q1.1).map (dfR pts N)) q1.2.1 q1.2.2).φ x S w→((fun(y:Hp)=>tabR 44 3 nmC (dfT pts N) y.1 y.2) y).φ x S w from⟨q1.2,(by rw[(show q1.1=N from by have:=of_decide_eq_false hl1;omega)];rfl),fun x S w h=>(by rw[(show q1.1=N from by have:=of_decide_eq_false hl1;omega)]at h;exact h)⟩)) (fun j hj=>(hp j hj).below (fun _=>rfl) hW)) fun W=>by kernel_rfl
theorem nm0_nd:ND nm0.b nm0.s nm0.e (nv nm0):=⟨rfl,by decide,by decide,by decide⟩
theorem nm0_ok:okN nm0:=⟨by decide,by decide,by decide⟩
def tabX(pts:List (List Nm))(N i j:Nat): Dyadic:=nv (nmAt ((dfT pts N).getD i []) j)
theorem dN_nv{x:Dyadic}{L T:Nat}(h:DB L T x)(hLT:L+T≤4000000): nv (dN x)=x:=(nd_db h hLT).val
section
variable {As:Option Addr} {cs:Nat} {Au:Nat→Option Addr} {cu:Nat→Nat} {pts:List (List Nm)} {N:Nat} (hpN:pts.length=N+1) (hpl:∀j,j<N+1→(ptAt pts j).length=N) (hok:∀p,p∈pts→∀x,x∈p→okN x)
include hpN hpl hok
theorem df_ok{i j:Nat}(hi:i<N)(hj:j<N): DB 200 361 (nv (nmAt (ptAt pts (i+1)) j)-nv (nmAt (ptAt pts 0) j)):=by
 have m1:=hok _ (ptAt_mem (show i+1<pts.length by omega)) _ (nmAt_mem (show j<(ptAt pts (i+1)).length by rw[hpl (i+1) (by omega)];exact hj))
 have m0:=hok _ (ptAt_mem (show 0<pts.length by omega)) _ (nmAt_mem (show j<(ptAt pts 0).length by rw[hpl 0 (by omega)];exact hj))
 exact db_sub m1.db m0.db
omit hpN hpl hok in
theorem tab_at{i j:Nat}(hi:i<N)(hj:j<N): nmAt ((dfT pts N).getD i []) j=dfN pts i j:=by
 have h1:i<(dfT pts N).length:=by simp[dfT,hi]
 rw[getD_at2 h1]
 have h2:(dfT pts N)[i]=dfR pts N i:=by simp[dfT]
 rw[h2]
 have h3:j<(dfR pts N i).length:=by simp[dfR,hj]
 unfold nmAt
 rw[getD_at2 h3]
 simp[dfR]
theorem tabX_at{i j:Nat}(hi:i<N)(hj:j<N): tabX pts N i j=nv (nmAt (ptAt pts (i+1)) j)-nv (nmAt (ptAt pts 0) j):=by
 unfold tabX
 rw[tab_at hi hj]
 exact dN_nv (df_ok hpN hpl hok hi hj) (by decide)
theorem tab_ok(i j:Nat): ND (nmAt ((dfT pts N).getD i []) j).b (nmAt ((dfT pts N).getD i []) j).s (nmAt ((dfT pts N).getD i []) j).e (tabX pts N i j)∧DB 200 361 (tabX pts N i j):=by
 by_cases h:i<N∧j<N
 ·have h1:=df_ok hpN hpl hok h.1 h.2
  have h2:=nd_db h1 (by decide)
  rw[tabX_at hpN hpl hok h.1 h.2,tab_at h.1 h.2]
  exact⟨h2,h1⟩
 ·have h3:nmAt ((dfT pts N).getD i []) j=nm0:=by
   by_cases hi:i<N
   ·have h1:i<(dfT pts N).length:=by simp[dfT,hi]
    rw[getD_at2 h1]
    have h2:(dfT pts N)[i]=dfR pts N i:=by simp[dfT]
    rw[h2]
    unfold nmAt
    rw[List.getD,List.getElem?_eq_none (by simp[dfR];omega)]
    rfl
   ·rw[List.getD,List.getElem?_eq_none (by simp[dfT];omega)]
    rfl
  unfold tabX
  rw[h3]
  exact⟨nm0_nd,db_up nm0_ok.db (by decide) (by decide)⟩
omit hpN hpl hok in
theorem tab_m{A:Option Addr}{cp:Nat}{x:Value}{S:Nat→Prop}{w:World}(h:(tabR 44 3 nmC (dfT pts N) A cp).φ x S w): RdM w A N (fun _=>N) (fun i j=>(nmAt ((dfT pts N).getD i []) j).b) (fun i j=>(nmAt ((dfT pts N).getD i []) j).s) (fun i j=>(nmAt ((dfT pts N).getD i []) j).e):=by
 have h1:=tab_rd nmC_len nm0 h
 have hl:(dfT pts N).length=N:=by simp[dfT]
 rw[hl]at h1
 intro h0
 obtain⟨b,off,e,hc⟩:=h1 h0
 refine⟨b,off,e,fun i hi=>?_⟩
 obtain⟨Ai,ci,k1,k2,k3,k4⟩:=hc i hi
 have h2:((dfT pts N).getD i []).length=N:=by
  rw[getD_at2 (show i<(dfT pts N).length by rw[hl];exact hi)]
  simp[dfT,dfR]
 dsimp only at k1 k2 k3 k4
 rw[h2]at k1 k2 k3 k4
 exact⟨Ai,ci,k1,k2,k3,k4⟩
omit hok in
theorem trv_sq{lo:Nat}{w:World}(h1:1≤N)(h4:N≤4)(hs:RdK w As (N+1) 1 (fun j=>[.slice (Au j) N (cu j)]))(hv:∀j,j<N+1→SlV lo 3 nmR w (ptAt pts j) (.slice (Au j) N (cu j))): RetAt Tryz.prog w 100 #[.slice As (N+1) cs] (.int .i64 (N:Int)):=by
 have h:=trv_r (cs:=cs) (vs:=fun j=>.slice (Au j) N (cu j)) (l:=pts) (by omega) w (by rw[hpN];exact hs) (by rw[hpN];exact hv)
 rw[hpN]at h
 have e:trvB pts=(N:Int):=by
  unfold trvB
  have e2:((pts.length:Int)-1)=(N:Int):=by rw[hpN];omega
  rw[e2,decide_eq_false (by omega:¬(N:Int)<1),decide_eq_false (by omega:¬(N:Int)>8),anyB_no]
  ·rfl
  ·intro j hj
   rw[hpN]at hj
   unfold otherB
   rw[hpl j hj]
   simp
 rw[e]at h
 exact h
end
theorem tsize_r{lo:Nat}{As:Option Addr}{cs:Nat}{Au:Nat→Option Addr}{cu:Nat→Nat}{pts:List (List Nm)}{N:Nat}(hN:N≤1048576)(hcs:N+1≤cs)(hpN:pts.length=N+1)(hpl:∀j,j<N+1→(ptAt pts j).length=N)(hok:∀p,p∈pts→∀x,x∈p→okN x)(h1:1≤N)(h4:N≤4)(w:World)(hT0:Tab0 w)(hs:RdK w As (N+1) 1 (fun j=>[.slice (Au j) N (cu j)]))(hp:∀j,j<N+1→RdK w (Au j) N 3 (fun k=>nmC (nmAt (ptAt pts j) k)))(hv:∀j,j<N+1→SlV lo 3 nmR w (ptAt pts j) (.slice (Au j) N (cu j))): RetAt Tryz.prog w 66 #[.slice As (N+1) cs] (.tuple #[.agg #[.bool (dN (detL N (tabX pts N))).b,.string (dN (detL N (tabX pts N))).s,.int .i64 ((dN (detL N (tabX pts N))).e)],.int .i64 0]) :=
 ret_sk ttOk mixed (fun a w=>Tryz.call66 a w) Tryz.func66 Tryz.ntmps66 Tryz.results66 _ rfl _ [.o 1 1 (.ret (iV (N:Int))),.br false,.mk 3 1 [] (fun(y1:Hp)=>Value.slice y1.1 (dfT pts N).length y1.2) (fun(y1:Hp)=>tabR 44 3 nmC (dfT pts N) y1.1 y1.2) (fun(y1:Hp)=>[.o 3 2 (.retr [0] (.tuple #[.agg #[.bool ((dN (detL N (tabX pts N))).b),.string ((dN (detL N (tabX pts N))).s),.int .i64 ((dN (detL N (tabX pts N))).e)],.int .i64 0]))])] (fun W hW hR=>have hT:=tab_keep hT0 hW;have HS:=hs.up hW (fun _=>rfl);(fun(HP:∀j,j<N+1→RdK W (Au j) N 3 (fun k=>nmC (nmAt (ptAt pts j) k)))=>(fun(HV:∀j,j<N+1→SlV lo 3 nmR W (ptAt pts j) (.slice (Au j) N (cu j)))=>aj2 (trv_sq (cs:=cs) hpN hpl h1 h4 HS HV) (show((N:Int)==0)=false from beq_eq_false_iff_ne.2 (by omega))<|ai (trows_n hN hcs hpN hpl hok W hT HS HP) fun(y1:Hp)=>ai (show RetIn Tryz.prog W [tabR 44 3 nmC (dfT pts N) y1.1 y1.2] 101 #[.slice y1.1 (dfT pts N).length y1.2] (.tuple #[.agg #[.bool ((dN (detL N (tabX pts N))).b),.string ((dN (detL N (tabX pts N))).s),.int .i64 ((dN (detL N (tabX pts N))).e)],.int .i64 0])from⟨fun a w=>Tryz.call101 a w,fun W' hW' x S hφ=>(by have h:=mdet_any 200 361 (by decide) N h4 y1.1 y1.2 _ _ _ (tabX pts N) W' (fun i j=>(tab_ok hpN hpl hok i j).1) (fun i j=>(tab_ok hpN hpl hok i j).2) (tab_m hφ) (tab_keep hT hW');rw[show(dfT pts N).length=N from by simp[dfT]];exact h)⟩)<|(show(.tuple #[.agg #[.bool ((dN (detL N (tabX pts N))).b),.string ((dN (detL N (tabX pts N))).s),.int .i64 ((dN (detL N (tabX pts N))).e)],.int .i64 0]:Value)=.tuple #[.agg #[.bool (dN (detL N (tabX pts N))).b,.string (dN (detL N (tabX pts N))).s,.int .i64 ((dN (detL N (tabX pts N))).e)],.int .i64 0]from rfl)) (fun j hj=>(hv j hj).below nmR_up hW)) (fun j hj=>(hp j hj).below (fun _=>rfl) hW)) fun W=>by kernel_rfl
def triC(pts:List (List Nm))(N:Nat): Int:=bif sg (dN (detL N (tabX pts N)))==0 then 5 else 0
theorem tcheck_r{lo:Nat}{As:Option Addr}{cs:Nat}{Au:Nat→Option Addr}{cu:Nat→Nat}{pts:List (List Nm)}{N:Nat}(hN:N≤1048576)(hcs:N+1≤cs)(hpN:pts.length=N+1)(hpl:∀j,j<N+1→(ptAt pts j).length=N)(hok:∀p,p∈pts→∀x,x∈p→okN x)(h1:1≤N)(h4:N≤4)(w:World)(hT0:Tab0 w)(hs:RdK w As (N+1) 1 (fun j=>[.slice (Au j) N (cu j)]))(hp:∀j,j<N+1→RdK w (Au j) N 3 (fun k=>nmC (nmAt (ptAt pts j) k)))(hv:∀j,j<N+1→SlV lo 3 nmR w (ptAt pts j) (.slice (Au j) N (cu j))): RetAt Tryz.prog w 25 #[.slice As (N+1) cs] (.int .i64 (triC pts N)) :=
 ret_sk ttOk mixed (fun a w=>Tryz.call25 a w) Tryz.func25 Tryz.ntmps25 Tryz.results25 _ rfl _ [.o 1 1 (.ret (.tup [.agg [bV ((dN (detL N (tabX pts N))).b),sV ((dN (detL N (tabX pts N))).s),iV ((dN (detL N (tabX pts N))).e)],iV 0])),.o 2 4 (.ret (iV (sg (dN (detL N (tabX pts N)))))),.both [] []] (fun W hW hR=>have hT:=tab_keep hT0 hW;have HS:=hs.up hW (fun _=>rfl);(fun(HP:∀j,j<N+1→RdK W (Au j) N 3 (fun k=>nmC (nmAt (ptAt pts j) k)))=>(fun(HV:∀j,j<N+1→SlV lo 3 nmR W (ptAt pts j) (.slice (Au j) N (cu j)))=>aj2 (tsize_r hN hcs hpN hpl hok h1 h4 W hT HS HP HV) (rc W Tryz.call67 fun W=>dSign_any (dN (detL N (tabX pts N))).s (dN (detL N (tabX pts N))).b (dN (detL N (tabX pts N))).e W)<|ai (fun hz:((sg (dN (detL N (tabX pts N))))==0)=true=>(show(.int .i64 5:Value)=.int .i64 (triC pts N)from by unfold triC;rw[hz];rfl)) fun hz:((sg (dN (detL N (tabX pts N))))==0)=false=>(show(.int .i64 0:Value)=.int .i64 (triC pts N)from by unfold triC;rw[hz];rfl)) (fun j hj=>(hv j hj).below nmR_up hW)) (fun j hj=>(hp j hj).below (fun _=>rfl) hW)) fun W=>by kernel_rfl
theorem pts_open{lo:Nat}{pts:List (List Nm)}{v:Value}{w:World}{N:Nat}(hpN:pts.length=N+1)(hpl:∀j,j<N+1→(ptAt pts j).length=N)(h:SlV lo 1 (ptR lo) w pts v):
  ∃(As:Option Addr) (cs:Nat) (Au:Nat→Option Addr) (cu:Nat→Nat),v=.slice As (N+1) cs∧N+1≤cs∧RdK w As (N+1) 1 (fun j=>[.slice (Au j) N (cu j)])∧(∀j,j<N+1→RdK w (Au j) N 3 (fun k=>nmC (nmAt (ptAt pts j) k)))∧∀j,j<N+1→SlV lo 3 nmR w (ptAt pts j) (.slice (Au j) N (cu j)):=by
 obtain⟨As,cs,us,rfl,h1,_,h3,h4⟩:=h.rdPt
 rw[hpN]at h1 h3 h4 ⊢
 have key:∀j,∃(A:Option Addr) (c:Nat),j<N+1→us j=.slice A N c∧RdK w A N 3 (fun k=>nmC (nmAt (ptAt pts j) k)):=fun j=>by
  by_cases hj:j<N+1
  ·obtain⟨A,c,e,_,_,hr⟩:=(h4 j hj).enc nm0
   rw[hpl j hj]at e hr
   exact⟨A,c,fun _=>⟨e,hr⟩⟩
  ·exact⟨none,0,fun h=>absurd h hj⟩
 refine⟨As,cs,fun j=>Classical.choose (key j),fun j=>Classical.choose (Classical.choose_spec (key j)),rfl,h1,h3.congr fun j hj=>?_,fun j hj=>?_,fun j hj=>?_⟩
 ·rw[(Classical.choose_spec (Classical.choose_spec (key j)) hj).1]
 ·exact(Classical.choose_spec (Classical.choose_spec (key j)) hj).2
 ·rw[← (Classical.choose_spec (Classical.choose_spec (key j)) hj).1]
  exact h4 j hj
theorem tcheck_v{lo:Nat}{pts:List (List Nm)}{v:Value}{N:Nat}(hpN:pts.length=N+1)(hpl:∀j,j<N+1→(ptAt pts j).length=N)(hok:∀p,p∈pts→∀x,x∈p→okN x)(h1:1≤N)(h4:N≤4)(w:World)(hT:Tab0 w)(h:SlV lo 1 (ptR lo) w pts v): RetAt Tryz.prog w 25 #[v] (.int .i64 (triC pts N)):=by
 obtain⟨As,cs,Au,cu,rfl,k1,k2,k3,k4⟩:=pts_open hpN hpl h
 exact tcheck_r (by omega) k1 hpN hpl hok h1 h4 w hT k2 k3 k4
open Go Go.RowKit
def n1:Nm:=⟨false,⟨#[1]⟩,0⟩
theorem s_eq1(W:World)(x y:Operand): RunOk Tryz.prog W (do eqGuard .eql 9 x y (.string ⟨#[1]⟩) (.string ⟨#[]⟩);binOp .eql 9 (.string ⟨#[1]⟩) (.string ⟨#[]⟩)) (.bool false):=fun W' _=>by
 simp[go_sem,ByteArray.toList_eq]
theorem s_eq0(W:World)(x y:Operand): RunOk Tryz.prog W (do eqGuard .eql 9 x y (.string ⟨#[]⟩) (.string ⟨#[]⟩);binOp .eql 9 (.string ⟨#[]⟩) (.string ⟨#[]⟩)) (.bool true):=fun W' _=>by
 simp[go_sem]
theorem rem_1(P:Program)(w0:World)(t:TypeId)(x y:Operand): RunOk P w0 (do eqGuard .rem t x y (.int .u8 1) (.int .u8 2);binOp .rem t (.int .u8 1) (.int .u8 2)) (.int .u8 1):=fun W _=>by
 simp[eqGuard,binOp,go_sem]
theorem fm_0(W:World): RetAt Tryz.prog W 83 #[.agg #[.bool false,.string ⟨#[]⟩]] (.agg #[.bool false,.string ⟨#[]⟩]):=rc W (fun a w=>Tryz.call83 a w) fun W=>by
 have c:=rForm_any ⟨#[]⟩ false W (by decide)
 rwa [show neg (ival false (sval ⟨#[]⟩))=false from by kernel_rfl,show mag (ival false (sval ⟨#[]⟩))=⟨#[]⟩from by kernel_rfl]at c
theorem fm_1(W:World): RetAt Tryz.prog W 83 #[.agg #[.bool false,.string ⟨#[1]⟩]] (.agg #[.bool false,.string ⟨#[1]⟩]):=rc W (fun a w=>Tryz.call83 a w) fun W=>by
 have c:=rForm_any ⟨#[1]⟩ false W (by decide)
 rwa [show neg (ival false (sval ⟨#[1]⟩))=false from by kernel_rfl,show mag (ival false (sval ⟨#[1]⟩))=⟨#[1]⟩from by kernel_rfl]at c
theorem of2_0(W:World): RetAt Tryz.prog W 52 #[.int .i64 0] (.agg #[.bool false,.string ⟨#[]⟩]):=rc W (fun a w=>Tryz.call52 a w) fun W=>by
 have c:=rWOf_any 0 W (by decide) (by decide)
 rwa [show neg 0=false from by kernel_rfl,show mag 0=⟨#[]⟩from by kernel_rfl]at c
theorem of2_1(W:World): RetAt Tryz.prog W 52 #[.int .i64 1] (.agg #[.bool false,.string ⟨#[1]⟩]):=rc W (fun a w=>Tryz.call52 a w) fun W=>by
 have c:=rWOf_any 1 W (by decide) (by decide)
 rwa [show neg 1=false from by kernel_rfl,show mag 1=⟨#[1]⟩from by kernel_rfl]at c
theorem sg2_1(W:World): RetAt Tryz.prog W 108 #[.agg #[.bool false,.string ⟨#[1]⟩]] (.int .i64 1):=rc W (fun a w=>Tryz.call108 a w) fun W=>by
 have c:=rWSign_any ⟨#[1]⟩ false W (by decide)
 rwa [show sgn (ival false (sval ⟨#[1]⟩))=1 from by kernel_rfl]at c
theorem mk_0  (w:World):RetAt Tryz.prog w 51 #[.agg #[.bool false,.string ⟨#[]⟩],.int .i64 0] (.agg #[.bool false,.string ⟨#[]⟩,.int .i64 0]) :=
 ret_sk ttOk mixed (fun a w=>Tryz.call51 a w) Tryz.func51 Tryz.ntmps51 Tryz.results51 _ rfl _ [.o 1 1 (.ret (.agg [bV false,sV ⟨#[]⟩])),.o 2 2 (.set (.bool true))] (fun W hW hR=>aj2 (fm_0 W) (s_eq0 W (.tmp 8) (.const (.string ⟨#[]⟩)))<|(show(.agg #[.bool false,.string ⟨#[]⟩,.int .i64 0]:Value)=.agg #[.bool false,.string ⟨#[]⟩,.int .i64 0]from rfl)) fun W=>by kernel_rfl
theorem mk_1  (w:World):RetAt Tryz.prog w 51 #[.agg #[.bool false,.string ⟨#[1]⟩],.int .i64 0] (.agg #[.bool false,.string ⟨#[1]⟩,.int .i64 0]) :=
 ret_sk ttOk mixed (fun a w=>Tryz.call51 a w) Tryz.func51 Tryz.ntmps51 Tryz.results51 _ rfl _ [.o 1 1 (.ret (.agg [bV false,sV ⟨#[1]⟩])),.o 2 2 (.set (.bool false)),.unr 1,.o 4 4 (.eq (iV 1)),.o 4 5 (.eq (iV 0)),.o 4 6 (.set (.int .u8 1)),.unr 1,.o 7 4 (.eq (iV 1)),.o 7 5 (.eq (iV 0)),.o 7 6 (.set (.int .u8 1)),.o 7 7 (.set (.int .u8 1))] (fun W hW hR=>aj8 (fm_1 W) (s_eq1 W (.tmp 8) (.const (.string ⟨#[]⟩))) (show(((⟨#[1]⟩:ByteArray).size:Int):Int)=1 from rfl) (show IntKind.i64.wrap (1-1)=0 from by decide) (bt_idx W ⟨#[1]⟩ 0 (by decide)) (show(((⟨#[1]⟩:ByteArray).size:Int):Int)=1 from rfl) (show IntKind.i64.wrap (1-1)=0 from by decide) (bt_idx W ⟨#[1]⟩ 0 (by decide))<|ai (rem_1 Tryz.prog W 5 (.tmp 35) (.const (.int .u8 2)))<|(show(.agg #[.bool false,.string ⟨#[1]⟩,.int .i64 0]:Value)=.agg #[.bool false,.string ⟨#[1]⟩,.int .i64 0]from rfl)) fun W=>by kernel_rfl
theorem form_1  (w:World):RetAt Tryz.prog w 72 #[.agg #[.bool false,.string ⟨#[1]⟩,.int .i64 0]] (.agg #[.bool false,.string ⟨#[1]⟩,.int .i64 0]) :=
 ret_sk ttOk mixed (fun a w=>Tryz.call72 a w) Tryz.func72 Tryz.ntmps72 Tryz.results72 _ rfl _ [.o 1 4 (.ret (.agg [bV false,sV ⟨#[1]⟩,iV 0]))] (fun W hW hR=>ai (mk_1 W)<|(show(.agg #[.bool false,.string ⟨#[1]⟩,.int .i64 0]:Value)=.agg #[.bool false,.string ⟨#[1]⟩,.int .i64 0]from rfl)) fun W=>by kernel_rfl
theorem of_1  (w:World):RetAt Tryz.prog w 82 #[.int .i64 1] (.agg #[.bool false,.string ⟨#[1]⟩,.int .i64 0]) :=
 ret_sk ttOk mixed (fun a w=>Tryz.call82 a w) Tryz.func82 Tryz.ntmps82 Tryz.results82 _ rfl _ [.o 1 1 (.ret (.agg [bV false,sV ⟨#[1]⟩])),.o 1 2 (.ret (.agg [bV false,sV ⟨#[1]⟩,iV 0]))] (fun W hW hR=>aj2 (of2_1 W) (mk_1 W)<|(show(.agg #[.bool false,.string ⟨#[1]⟩,.int .i64 0]:Value)=.agg #[.bool false,.string ⟨#[1]⟩,.int .i64 0]from rfl)) fun W=>by kernel_rfl
theorem sign_1  (w:World):RetAt Tryz.prog w 73 #[.agg #[.bool false,.string ⟨#[1]⟩,.int .i64 0]] (.int .i64 1) :=
 ret_sk ttOk mixed (fun a w=>Tryz.call73 a w) Tryz.func73 Tryz.ntmps73 Tryz.results73 _ rfl _ [.o 1 2 (.ret (iV 1))] (fun W hW hR=>ai (sg2_1 W)<|(show(.int .i64 1:Value)=.int .i64 1 from rfl)) fun W=>by kernel_rfl
theorem num_0  (w:World):RetAt Tryz.prog w 19 #[.int .i64 0] (.agg #[.bool false,.string ⟨#[]⟩,.int .i64 0]) :=
 ret_sk ttOk mixed (fun a w=>Tryz.call19 a w) Tryz.func19 Tryz.ntmps19 Tryz.results19 _ rfl _ [.o 1 1 (.ret (.agg [bV false,sV ⟨#[]⟩])),.o 1 2 (.ret (.agg [bV false,sV ⟨#[]⟩,iV 0]))] (fun W hW hR=>aj2 (of2_0 W) (mk_0 W)<|(show(.agg #[.bool false,.string ⟨#[]⟩,.int .i64 0]:Value)=.agg #[.bool false,.string ⟨#[]⟩,.int .i64 0]from rfl)) fun W=>by kernel_rfl
theorem num_1  (w:World):RetAt Tryz.prog w 19 #[.int .i64 1] (.agg #[.bool false,.string ⟨#[1]⟩,.int .i64 0]) :=
 ret_sk ttOk mixed (fun a w=>Tryz.call19 a w) Tryz.func19 Tryz.ntmps19 Tryz.results19 _ rfl _ [.o 1 1 (.ret (.agg [bV false,sV ⟨#[1]⟩])),.o 1 2 (.ret (.agg [bV false,sV ⟨#[1]⟩,iV 0]))] (fun W hW hR=>aj2 (of2_1 W) (mk_1 W)<|(show(.agg #[.bool false,.string ⟨#[1]⟩,.int .i64 0]:Value)=.agg #[.bool false,.string ⟨#[1]⟩,.int .i64 0]from rfl)) fun W=>by kernel_rfl
