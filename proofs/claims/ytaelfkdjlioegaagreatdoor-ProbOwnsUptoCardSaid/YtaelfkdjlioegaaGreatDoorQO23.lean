/- The walks and plain laws beneath the statements. -/
import Derived.Laws.AppendOwnNone
import Derived.Test.YtaelfkdjlioegaaGreatDoorQO17
import Derived.Test.YtaelfkdjlioegaaGreatDoorQO8
import Derived.Deep.Slices
import Derived.Deep.Fields
import Derived.ChangeSame
import Derived.Lib.SmallJoins
namespace Go.Proofs.YtaelfkdjlioegaaGreatDoor
open Go.RowKit
theorem OwnR.one(w:World)(base:Nat)(e:TypeId)(u:Value)(hb:base≤w.heap.size): OwnR (w.alloc (.cells #[u] e)) base e (.slice (some ⟨w.heap.size,0,none⟩) 1 1) 1 (fun _=>u) :=
 ⟨by simp,.inr ⟨w.heap.size,1,#[u],rfl,hb,heap_alloc_new w _,Nat.le_refl _,by unfold maxLen;omega,rfl,rfl⟩⟩
open Go Go.RowKit
def i64C(z:Int): List Value:=[.int .i64 z]
theorem i64C_len(z:Int): (i64C z).length=1:=rfl
theorem i64C_one(z:Int)(u:Value)(h:u∈i64C z): u.oneCell'=true:=by
 obtain rfl:=List.mem_singleton.1 h
 rfl
def lst(S:List Int): Int:=S.getD (S.length-1) 0
def shStp(n:Nd)(S:List Int): List Int:=bif n.split==0 then S.take (S.length-1)else S.take (S.length-1)++[IntKind.i64.wrap (lst S+1),IntKind.i64.wrap (lst S+1)]
def stk(ct:List Nd): Nat→List Int
 | 0=>[0]
 | k+1=>shStp (ndAt ct k) (stk ct k)
def lvs(ct:List Nd): Nat→Int
 | 0=>0
 | k+1=>bif (ndAt ct k).split==0 then IntKind.i64.wrap (lvs ct k+1)else lvs ct k
def dpt(ct:List Nd): Nat→Int
 | 0=>0
 | k+1=>max (dpt ct k) (lst (stk ct k))
theorem stk_len(ct:List Nd): ∀k,(stk ct k).length≤k+1
 | 0=>Nat.le_refl _
 | k+1=>by
  have:=stk_len ct k
  show(shStp (ndAt ct k) (stk ct k)).length≤_
  unfold shStp
  cases (ndAt ct k).split==0 with
  | true=>simp;omega
  | false=>simp;omega
def shB(ct:List Nd): Bool:=bif decide ((ct.length:Int)>4096)then false else bif anyB ct.length (fun j=>(((stk ct j).length:Nat):Int)==0)then false else(((stk ct ct.length).length:Nat):Int)==0
def shV(ct:List Nd): Value:=.tuple #[.int .i64 (bif shB ct then lvs ct ct.length else 0),.int .i64 (bif shB ct then dpt ct ct.length else 0),.bool (shB ct)]
def provenB(many:Int)(ct:List Nd): Bool:=bif (ct.length:Int)==0 then true else bif shB ct then !anyB ct.length (fun j=>nodeB many (ndAt ct j))else false
theorem stk_y{ct:List Nd}{k:Nat}(h:((ndAt ct k).split==0)=true): stk ct (k+1)=(stk ct k).take ((stk ct k).length-1):=by
 show shStp _ _=_
 unfold shStp
 rw[h];rfl
theorem stk_n{ct:List Nd}{k:Nat}(h:((ndAt ct k).split==0)=false): stk ct (k+1)=(stk ct k).take ((stk ct k).length-1)++[IntKind.i64.wrap (lst (stk ct k)+1),IntKind.i64.wrap (lst (stk ct k)+1)]:=by
 show shStp _ _=_
 unfold shStp
 rw[h];rfl
theorem lvs_y{ct:List Nd}{k:Nat}(h:((ndAt ct k).split==0)=true): lvs ct (k+1)=IntKind.i64.wrap (lvs ct k+1):=by
 show(bif _ then _ else _)=_
 rw[h];rfl
theorem lvs_n{ct:List Nd}{k:Nat}(h:((ndAt ct k).split==0)=false): lvs ct (k+1)=lvs ct k:=by
 show(bif _ then _ else _)=_
 rw[h];rfl
theorem ne_len{S:List Int}(h:(((S.length:Int))==0)=false): 0<S.length:=by
 have:=beq_eq_false_iff_ne.1 h
 omega
section
variable {P:Program} {w0:World}
theorem eff_cut{α:Type}{t e k m:Nat}{ag:Option Bool}{ti:TI}(hi:tiOf P t=some ti)(hk:ti.k=.slice e k ag)(hz:k≠0){c:α→List Value}(hc:∀x,(c x).length=k){l:List α}{A:Option Addr}{cp:Nat}(hm:m≤l.length)(h0:0<l.length):
  ∀W,Below w0.heap.size w0 W→∀x S,(rowR e k c l A cp).φ x S W→EffR P W (fun y:Hp=>.slice y.1 (l.take m).length y.2) (fun y:Hp=>rowR e k c (l.take m) y.1 y.2) x S (Instr.sliceAt t (.slice A l.length cp) none (some (.int .i64 (m:Int))) none):=fun W _ x S hφ=>by
 obtain⟨h1,h2,h3⟩:=(show _∧_∧_ from hφ)
 rcases h2.2 with⟨e1,e2⟩|⟨g,cap,cur,e1,hb,hg,hn,hx,hs,hcs⟩
 ·omega
 injection e1 with e1 _ e3
 subst e1
 subst e3
 have hlm:(l.take m).length=m:=by rw[List.length_take];omega
 refine⟨(some ⟨g,0,none⟩,cp),S,W,?_,Trn.refl _ _,(show _∧_∧_ from⟨h1,⟨?_,.inr ⟨g,cp,cur,rfl,hb,hg,by rw[hlm];omega,hx,hs,?_⟩⟩,h3⟩),fun b hb2=>⟨.inl hb2,?_⟩⟩
 ·have h:=slice_sli (P:=P) (w:=W) (g:=g) (o:=0) (n:=l.length) (c:=cp) (l:=0) (h:=m) (lo:=none) (hi:=some (.int .i64 (m:Int))) hi hk hz (.inl ⟨rfl,rfl⟩) (.inr ⟨.i64,rfl⟩) (Nat.zero_le _) (by omega)
  rw[h,hlm]
  simp
 ·rw[flatMap_len hc,hlm]
 ·rw[hlm]
  have h5:m*k≤l.length*k:=Nat.mul_le_mul_right _ hm
  have h6:((cur.toList.take (l.length*k)).take (m*k))=(l.flatMap c).take (m*k):=by rw[hcs]
  rw[List.take_take,Nat.min_eq_left h5]at h6
  rw[h6]
  have h7:l.flatMap c=(l.take m).flatMap c++(l.drop m).flatMap c:=by rw[← List.flatMap_append,List.take_append_drop]
  rw[h7,List.take_append_of_le_length (by rw[flatMap_len hc,hlm];exact Nat.le_refl _),List.take_of_length_le (by rw[flatMap_len hc,hlm];exact Nat.le_refl _)]
 ·exact(h2.lt b ((h3 b).1 hb2)).2
end
open Go Go.RowKit
theorem rt_sNum_sNum:RowT Tryz.prog 44 44 32 3 32:=⟨by kernel_rfl,⟨32,by kernel_rfl⟩,by kernel_rfl,by decide,by decide⟩
theorem rt_sNum_Point:RowT Tryz.prog 44 45 32 3 32:=⟨by kernel_rfl,⟨32,by kernel_rfl⟩,by kernel_rfl,by decide,by decide⟩
theorem rt_Point_Point:RowT Tryz.prog 45 45 32 3 32:=⟨by kernel_rfl,⟨32,by kernel_rfl⟩,by kernel_rfl,by decide,by decide⟩
theorem rt_Simplex_Simplex:RowT Tryz.prog 25 25 45 1 24:=⟨by kernel_rfl,⟨45,by kernel_rfl⟩,by kernel_rfl,by decide,by decide⟩
theorem rt_Box_Box:RowT Tryz.prog 23 23 58 6 64:=⟨by kernel_rfl,⟨58,by kernel_rfl⟩,by kernel_rfl,by decide,by decide⟩
theorem rt_sPoly_sPoly:RowT Tryz.prog 28 28 48 2 32:=⟨by kernel_rfl,⟨48,by kernel_rfl⟩,by kernel_rfl,by decide,by decide⟩
theorem rt_sNode_sNode:RowT Tryz.prog 33 33 50 6 72:=⟨by kernel_rfl,⟨50,by kernel_rfl⟩,by kernel_rfl,by decide,by decide⟩
theorem rt_sTerm_sTerm:RowT Tryz.prog 46 46 54 4 48:=⟨by kernel_rfl,⟨54,by kernel_rfl⟩,by kernel_rfl,by decide,by decide⟩
theorem rt_sint_sint:RowT Tryz.prog 171 171 3 1 8:=⟨by kernel_rfl,⟨3,by kernel_rfl⟩,by kernel_rfl,by decide,by decide⟩
open Go Go.RowKit
def bytR(s:ByteArray)(A:Option Addr): Res where
 φ x S w:=x=.bool false∧∃g,A=some ⟨g,0,none⟩∧(∀j,j<s.size→w.cell? ⟨g,j,none⟩=some (.int .u8 ((bt s j:Nat):Int)))∧∀b,S b↔b=g
 one _ _ _ h:=by rw[h.1];rfl
 loc x S w w' h hφ:=by
  obtain⟨h1,g,h2,h3,h4⟩:=hφ
  exact⟨h1,g,h2,fun j hj=>(World.cell?_of_block (h g ((h4 g).2 rfl))).trans (h3 j hj),h4⟩
section
variable {P:Program} {w0:World}
theorem byt_rd{s:ByteArray}{A:Option Addr}{x:Value}{S:Nat→Prop}{w:World}(h:(bytR s A).φ x S w): RdK w A s.size 1 (fun j=>[.int .u8 ((bt s j:Nat):Int)]):=fun _=>by
 obtain⟨_,g,rfl,h3,_⟩:=(show _∧_ from h)
 refine⟨g,0,rfl,fun j hj i hi=>?_⟩
 obtain rfl:i=0:=by omega
 rw[Nat.mul_one,Nat.zero_add,Nat.add_zero,h3 j hj]
 rfl
theorem mk_bytes{src dst e:TypeId}(hs:P.underlying src=some .string)(hd:P.underlying dst=some (.slice e))(he:P.underlying e=some (.int .u8))(s:ByteArray): NewP P w0 [] (fun y:Hp=>.slice y.1 s.size y.2) (fun y:Hp=>bytR s y.1) (Go.convert src dst (.string s)):=fun W _=>by
 show NewR P W _ _ _
 have hrun:=run_bytes_of_string (P:=P) W src dst e s hs hd he
 refine⟨(some ⟨W.heap.size,0,none⟩,grownCap W s.size 0 e),.bool false,fun b=>b=W.heap.size,_,hrun,((Below.refl _ W).drew).alloc (Nat.le_refl _) _,(show _∧_ from⟨rfl,W.heap.size,rfl,fun j hj=>?_,fun b=>Iff.rfl⟩),fun b hb=>?_⟩
 ·have hn:(W.drew.alloc (.cells (bytesRow s (grownCap W s.size 0 e)) e ((bytesRow s (grownCap W s.size 0 e)).size,(bytesRow s (grownCap W s.size 0 e)).size+1))).heap[W.heap.size]?=some (.cells (bytesRow s (grownCap W s.size 0 e)) e ((bytesRow s (grownCap W s.size 0 e)).size,(bytesRow s (grownCap W s.size 0 e)).size+1)):=heap_alloc_new W.drew _
  unfold World.cell?
  rw[hn]
  show(bytesRow s (grownCap W s.size 0 e))[j]?=_
  rw[bytesRow_at s _ j hj]
  congr 2
  unfold bt
  have hj':j<s.data.toList.length:=by simpa using hj
  rw[List.getD,List.getElem?_eq_getElem hj']
  simp
 ·subst hb
  simp
end
open Go.RowKit Go.WideShapes Go.ChangeShapes Go.Deep
section
variable {H:Type} {enc:TypeId×Value→H} {w:World}
theorem cells_Int:Tryz.prog.cellsOf 30=2:=by kernel_rfl
end
