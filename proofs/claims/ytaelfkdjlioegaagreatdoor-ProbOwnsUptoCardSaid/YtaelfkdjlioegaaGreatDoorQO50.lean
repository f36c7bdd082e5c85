/- The walks and plain laws beneath the statements. -/
import Derived.Test.YtaelfkdjlioegaaGreatDoorQO48
import Derived.Test.YtaelfkdjlioegaaGreatDoorRows
namespace Go.Proofs.YtaelfkdjlioegaaGreatDoor
set_option maxRecDepth 100000
open Go.RowKit Go.WideShapes Go.ChangeShapes Go.Deep
section
variable {H:Type} {enc:TypeId×Value→H} {w:World} {B:Nat}
theorem bulk_part{d:DataW H}{l:List (DataW H)}(h:d∈l): Rows.uptoBulk d≤Rows.uptoBulkAll l:=by
 induction l with
 | nil=>cases h
 | cons x r ih =>
  simp only[Rows.uptoBulkAll]
  cases List.mem_cons.1 h with
  | inl e=>subst e;omega
  | inr e=>have:=ih e;omega
theorem bulk_one(d:DataW H): 1≤Rows.uptoBulk d:=by
 cases d with
 | lit l=>cases l<;>simp[Rows.uptoBulk]
 | nil=>simp[Rows.uptoBulk]
 | ptr d=>simp[Rows.uptoBulk]
 | slice elems spare=>simp[Rows.uptoBulk]
 | agg parts=>simp[Rows.uptoBulk]
 | iface t d=>simp[Rows.uptoBulk]
 | map entries=>simp[Rows.uptoBulk]
 | held h=>simp[Rows.uptoBulk]
theorem bulk_len(l:List (DataW H)): l.length≤Rows.uptoBulkAll l:=by
 induction l with
 | nil=>simp[Rows.uptoBulkAll]
 | cons x r ih=>have:=bulk_one x;simp only[Rows.uptoBulkAll,List.length_cons];omega
abbrev TR(enc:TypeId×Value→H)(w:World)(fuel:Nat)(t:TypeId)(cs:List Value)(x:DataW H×List MemPlace): Prop:=DataW.trod enc Tryz.prog w 0 (fun _=>true) true fuel t cs=some x
theorem tr_fields{t:TypeId}{fs:Array Field}{fuel k:Nat}{cs:List Value}{x:DataW H×List MemPlace}(ht:Tryz.prog.underlying t=some (.struct fs))(hk:Tryz.prog.cellsOf t=k)(h:TR enc w fuel t cs x)(hB:Rows.uptoBulk x.1≤B):
  cs.length=k∧∃n,∀(i:Nat) (f:Field) (m:Nat),fs[i]?=some f→Tryz.prog.cellsOf f.type=m→∃y,TR enc w n f.type ((cs.drop f.offset).take m) y∧Rows.uptoBulk y.1≤B:=by
 obtain⟨xs,n,_,rfl,hl,hlen,hf⟩:=DataW.trod_struct ht h
 refine⟨hl.trans hk,n,fun i f m hi hm=>?_⟩
 subst hm
 have h1:=hf i f hi
 have hil:i<xs.length:=by rw[hlen];exact(Array.getElem?_eq_some_iff.1 hi).1
 rw[List.getElem?_eq_getElem hil]at h1
 refine⟨_,h1,?_⟩
 have h2:(xs[i]).1∈xs.map (·.1):=List.mem_map.2 ⟨_,List.getElem_mem hil,rfl⟩
 have h3:=bulk_part h2
 simp only[Rows.uptoBulk]at hB
 omega
theorem spot_plain{a:Addr}{v:Value}(h00:w.cell? (a.add 0)=some v): ∃blk off,a=⟨blk,off,none⟩:=by
 obtain⟨blk,off,sp⟩:=a
 cases sp with
 | none=>exact⟨blk,off,rfl⟩
 | some x =>
  exfalso
  simp only[Addr.add,if_true,World.cell?]at h00
  split at h00
  ·simp at h00
  ·cases h00
theorem tr_slice{α:Type}{t e k:Nat}{p:Rdg α}{Q:α→Prop}(d:α){fuel:Nat}{cs:List Value}{x:DataW H×List MemPlace}(ht:Tryz.prog.underlying t=some (.slice e))(hk:Tryz.prog.cellsOf e=k)(h0:0<k)(he:∀fuel cs x,TR enc w fuel e cs x→Rows.uptoBulk x.1≤B→∃a:α,p w a cs∧Q a)(h:TR enc w fuel t cs x)(hB:Rows.uptoBulk x.1≤B):
  ∃(l:List α) (A:Option Addr) (c:Nat),cs=[.slice A l.length c]∧SlV 0 k p w l (.slice A l.length c)∧l.length≤B∧∀a,a∈l→Q a:=by
 rcases open_slice ht h with⟨e1,_⟩|⟨a,len,cap,m,n,D,Pl,e1,_,hl,_,hm,hx,hi⟩
 ·exact⟨[],none,0,e1,SlV.nil_ _ _ _ _,Nat.zero_le _,fun a ha=>by cases ha⟩
 ·simp only[if_true]at hm
  rw[hx]at hB
  simp only[Rows.uptoBulk]at hB
  have hlen:len≤B:=by
   have:=bulk_len ((List.range len).map D)
   simp at this
   omega
  have key:∀i,∃x:List Value×α,i<len→w.cells? 0 (a.add (i*k)) k=some x.1∧p w x.2 x.1∧Q x.2:=fun i=>by
   by_cases hin:i<len
   ·obtain⟨cs',h1,h2⟩:=hi i (by omega)
    rw[hk]at h1
    have h3:D i∈(List.range len).map D:=List.mem_map.2 ⟨i,List.mem_range.2 hin,rfl⟩
    obtain⟨b,h4,h5⟩:=he _ _ _ h2 (by have:=bulk_part h3;show Rows.uptoBulk (D i)≤B;omega)
    exact⟨(cs',b),fun _=>⟨h1,h4,h5⟩⟩
   ·exact⟨([],d),fun h=>absurd h hin⟩
  obtain⟨X,hX⟩:∃X:Nat→List Value×α,∀i,i<len→w.cells? 0 (a.add (i*k)) k=some (X i).1∧p w (X i).2 (X i).1∧Q (X i).2:=⟨fun i=>Classical.choose (key i),fun i hi=>Classical.choose_spec (key i) hi⟩
  have hll:((List.range len).map fun i=>(X i).2).length=len:=by simp
  refine⟨(List.range len).map fun i=>(X i).2,some a,cap,by rw[hll];exact e1,⟨some a,cap,rfl,by rw[hll];exact hl,(fun h=>nomatch h),fun hp=>?_⟩,by rw[hll];exact hlen,fun b hb=>?_⟩
  ·rw[hll]at hp
   obtain⟨_,hcl,hat⟩:=World.cells?_some (hX 0 hp).1
   have h00:=hat 0 h0
   rw[List.getElem?_eq_getElem (by omega),Nat.zero_mul,add_add]at h00
   obtain⟨blk,off,rfl⟩:=spot_plain h00
   refine⟨blk,off,rfl,Nat.zero_le _,fun i hi2=>?_⟩
   have hin:i<len:=by rw[hll]at hi2;exact hi2
   obtain⟨q1,q2,q3⟩:=hX i hin
   obtain⟨_,hcl',hat'⟩:=World.cells?_some q1
   refine⟨(X i).1,hcl',?_,fun j hj=>?_⟩
   ·rw[show((List.range len).map fun i=>(X i).2)[i]=(X i).2 by simp]
    exact q2
   ·have h5:=hat' j hj
    rw[add_add,add_plain]at h5
    rw[Nat.add_assoc]
    exact h5
  ·obtain⟨i,hi2,rfl⟩:=List.mem_map.1 hb
   exact(hX i (List.mem_range.1 hi2)).2.2
theorem list6{α:Type}{l:List α}(h:l.length=6): ∃a b c d e f,l=[a,b,c,d,e,f]:=by
 match l,h with | [a,b,c,d,e,f],_=>exact⟨a,b,c,d,e,f,rfl⟩
theorem list4{α:Type}{l:List α}(h:l.length=4): ∃a b c d,l=[a,b,c,d]:=by
 match l,h with | [a,b,c,d],_=>exact⟨a,b,c,d,rfl⟩
theorem list14{α:Type}{l:List α}(h:l.length=14): ∃a b c d e f g a' b' c' d' e' f' g',l=[a,b,c,d,e,f,g,a',b',c',d',e',f',g']:=by
 match l,h with | [a,b,c,d,e,f,g,a',b',c',d',e',f',g'],_=>exact⟨a,b,c,d,e,f,g,a',b',c',d',e',f',g',rfl⟩
theorem tr_Num{fuel:Nat}{cs:List Value}{x:DataW H×List MemPlace}(h:TR enc w fuel 32 cs x): ∃a:Nm,nmR w a cs:=by
 obtain⟨b,s,e,he,_⟩:=trod_Num h
 exact⟨⟨b,s,e⟩,he⟩
theorem c_Span:Tryz.prog.cellsOf 58=6:=by kernel_rfl
theorem c_Term:Tryz.prog.cellsOf 54=4:=by kernel_rfl
theorem c_Point:Tryz.prog.cellsOf 45=1:=by kernel_rfl
theorem c_Poly:Tryz.prog.cellsOf 48=2:=by kernel_rfl
theorem c_Node:Tryz.prog.cellsOf 50=6:=by kernel_rfl
theorem c_Domain:Tryz.prog.cellsOf 27=2:=by kernel_rfl
theorem c_Problem:Tryz.prog.cellsOf 35=14:=by kernel_rfl
theorem c_Box:Tryz.prog.cellsOf 23=1:=by kernel_rfl
theorem c_Simplex:Tryz.prog.cellsOf 25=1:=by kernel_rfl
theorem c_Polys:Tryz.prog.cellsOf 28=1:=by kernel_rfl
theorem c_Nodes:Tryz.prog.cellsOf 33=1:=by kernel_rfl
theorem c_Terms:Tryz.prog.cellsOf 46=1:=by kernel_rfl
abbrev BK(B:Nat)(d:DataW H): Prop:=Rows.uptoBulk d≤B
theorem tr_Span{fuel:Nat}{cs:List Value}{x:DataW H×List MemPlace}(h:TR enc w fuel 58 cs x)(hB:BK B x.1): ∃a:Nm×Nm,spR w a cs∧True:=by
 obtain⟨hl,n,hf⟩:=tr_fields Tryz.underlying58 c_Span h hB
 obtain⟨c0,c1,c2,c3,c4,c5,rfl⟩:=list6 hl
 obtain⟨y0,h0,_⟩:=(show ∃y,TR enc w n 32 [c0,c1,c2] y∧BK B y.1 from hf 0 _ 3 rfl cells_Num)
 obtain⟨y1,h1,_⟩:=(show ∃y,TR enc w n 32 [c3,c4,c5] y∧BK B y.1 from hf 1 _ 3 rfl cells_Num)
 obtain⟨a,ha⟩:=tr_Num h0
 obtain⟨b,hb⟩:=tr_Num h1
 refine⟨(a,b),?_,trivial⟩
 show[c0,c1,c2]++[c3,c4,c5]=nmC a++nmC b
 rw[show[c0,c1,c2]=nmC a from ha,show[c3,c4,c5]=nmC b from hb]
theorem tr_Term{fuel:Nat}{cs:List Value}{x:DataW H×List MemPlace}(h:TR enc w fuel 54 cs x)(hB:BK B x.1): ∃a:Tm,tmR w a cs∧a.m.size≤B:=by
 obtain⟨hl,n,hf⟩:=tr_fields Tryz.underlying54 c_Term h hB
 obtain⟨c0,c1,c2,c3,rfl⟩:=list4 hl
 obtain⟨y0,h0,hb0⟩:=(show ∃y,TR enc w n 9 [c0] y∧BK B y.1 from hf 0 _ 1 rfl cells_string)
 obtain⟨y1,h1,_⟩:=(show ∃y,TR enc w n 32 [c1,c2,c3] y∧BK B y.1 from hf 1 _ 3 rfl cells_Num)
 obtain⟨s,hs,hy,_⟩:=DataW.trod_string Tryz.underlying9 h0
 obtain⟨b,hb⟩:=tr_Num h1
 refine⟨⟨s,b⟩,?_,?_⟩
 ·show[c0]++[c1,c2,c3]=[.string s]++nmC b
  rw[hs,show[c1,c2,c3]=nmC b from hb]
 ·have h5:Rows.uptoBulk y0.1≤B:=hb0
  rw[hy]at h5
  simp[Rows.uptoBulk]at h5
  show s.size≤B
  have h6:s.data.size=s.size:=rfl
  omega
theorem tr_Point{fuel:Nat}{cs:List Value}{x:DataW H×List MemPlace}(h:TR enc w fuel 45 cs x)(hB:BK B x.1): ∃a:List Nm,ptR 0 w a cs∧a.length≤B:=by
 obtain⟨l,A,c,h1,h2,h3,_⟩:=tr_slice (p:=nmR) (Q:=fun _=>True) nm0 Tryz.underlying45 cells_Num (by decide) (fun _ _ _ h _=>by obtain⟨a,ha⟩:=tr_Num h;exact⟨a,ha,trivial⟩) h hB
 exact⟨l,⟨_,h1,h2⟩,h3⟩
def PQ(B:Nat)(p:Py): Prop:=p.ts.length≤B∧∀t,t∈p.ts→t.m.size≤B
theorem tr_int{fuel:Nat}{cs:List Value}{x:DataW H×List MemPlace}(h:TR enc w fuel 3 cs x): ∃e:Int,cs=[.int .i64 e]∧-9223372036854775808≤e∧e≤9223372036854775807:=by
 obtain⟨e,he,_,hw⟩:=DataW.trod_int Tryz.underlying3 h
 simp only[Lit.wf,Bool.and_eq_true,decide_eq_true_eq]at hw
 exact⟨e,he,hw.1,hw.2⟩
theorem one_eq{a b:Value}(h:[a]=[b]): a=b:=by injection h
theorem tr_Poly{fuel:Nat}{cs:List Value}{x:DataW H×List MemPlace}(h:TR enc w fuel 48 cs x)(hB:BK B x.1): ∃a:Py,pyR 0 w a cs∧PQ B a:=by
 obtain⟨hl,n,hf⟩:=tr_fields Tryz.underlying48 c_Poly h hB
 obtain⟨c0,c1,rfl⟩:=list2 hl
 obtain⟨y0,h0,_⟩:=(show ∃y,TR enc w n 3 [c0] y∧BK B y.1 from hf 0 _ 1 rfl cells_int)
 obtain⟨y1,h1,hb1⟩:=(show ∃y,TR enc w n 46 [c1] y∧BK B y.1 from hf 1 _ 1 rfl c_Terms)
 obtain⟨e,he,_⟩:=tr_int h0
 obtain⟨l,A,c,k1,k2,k3,k4⟩:=tr_slice (p:=tmR) (Q:=fun t=>t.m.size≤B) tmD Tryz.underlying46 c_Term (by decide) (fun _ _ _ h hB=>tr_Term h hB) h1 hb1
 rw[one_eq he,one_eq k1]
 exact⟨⟨e,l⟩,⟨_,rfl,k2⟩,k3,k4⟩
theorem tr_Node{fuel:Nat}{cs:List Value}{x:DataW H×List MemPlace}(h:TR enc w fuel 50 cs x)(hB:BK B x.1): ∃a:Nd,ndR 0 w a cs∧PQ B a.sum:=by
 obtain⟨hl,n,hf⟩:=tr_fields Tryz.underlying50 c_Node h hB
 obtain⟨c0,c1,c2,c3,c4,c5,rfl⟩:=list6 hl
 obtain⟨y0,h0,_⟩:=(show ∃y,TR enc w n 3 [c0] y∧BK B y.1 from hf 0 _ 1 rfl cells_int)
 obtain⟨y1,h1,_⟩:=(show ∃y,TR enc w n 32 [c1,c2,c3] y∧BK B y.1 from hf 1 _ 3 rfl cells_Num)
 obtain⟨y2,h2,hb2⟩:=(show ∃y,TR enc w n 48 [c4,c5] y∧BK B y.1 from hf 2 _ 2 rfl c_Poly)
 obtain⟨e,he,_⟩:=tr_int h0
 obtain⟨b,hb⟩:=tr_Num h1
 obtain⟨q,⟨v,hv,hq⟩,hQ⟩:=tr_Poly h2 hb2
 have g1:=List.cons.inj (show[c1,c2,c3]=nmC b from hb)
 have g2:=List.cons.inj g1.2
 have g3:=List.cons.inj hv
 rw[one_eq he,g1.1,g2.1,one_eq g2.2,g3.1,one_eq g3.2]
 exact⟨⟨e,b,q⟩,⟨v,rfl,hq⟩,hQ⟩
theorem open_Prob{r:Reach}{b0:Nat}{v:Value}{d:DataW H}{ps:List MemPlace}(hval:Value.okWide Tryz.prog w r b0 35 v)(h:DataW.Trod enc Tryz.prog w 0 (fun _=>true) true 35 v d ps)(hB:Rows.uptoBulk d≤1048576):
  ∃(x:PV) (Ab As Ap Ar Ac:Option Addr) (cb cs kp kr cc:Nat),v=.agg #[.int .i64 x.kind,.int .i64 x.vars,.slice Ab x.box.length cb,.slice As x.pts.length cs,.slice Ap x.ps.length kp,.slice Ar x.rules.length kr,.bool x.eps.b,.string x.eps.s,.int .i64 x.eps.e,.bool x.delta.b,.string x.delta.s,.int .i64 x.delta.e,.int .i64 x.budget,.slice Ac x.cert.length cc]∧smallX x∧Five 0 w x (.slice Ab x.box.length cb) (.slice As x.pts.length cs) (.slice Ap x.ps.length kp) (.slice Ar x.rules.length kr) (.slice Ac x.cert.length cc):=by
 obtain⟨cs,rfl,hsz⟩:=okWide_struct Tryz.underlying35 hval
 obtain⟨fuel,hf0⟩:=h
 obtain⟨hl,n,hf⟩:=tr_fields (B:=1048576) Tryz.underlying35 c_Problem hf0 hB
 obtain⟨c0,c1,c2,c3,c4,c5,c6,c7,c8,c9,c10,c11,c12,c13,hcs⟩:=list14 hl
 rw[hcs]at hf
 obtain⟨y0,h0,_⟩:=(show ∃y,TR enc w n 3 [c0] y∧BK 1048576 y.1 from hf 0 _ 1 rfl cells_int)
 obtain⟨y1,h1,_⟩:=(show ∃y,TR enc w n 3 [c1] y∧BK 1048576 y.1 from hf 1 _ 1 rfl cells_int)
 obtain⟨y2,h2,hb2⟩:=(show ∃y,TR enc w n 27 [c2,c3] y∧BK 1048576 y.1 from hf 2 _ 2 rfl c_Domain)
 obtain⟨y3,h3,hb3⟩:=(show ∃y,TR enc w n 28 [c4] y∧BK 1048576 y.1 from hf 3 _ 1 rfl c_Polys)
 obtain⟨y4,h4,hb4⟩:=(show ∃y,TR enc w n 28 [c5] y∧BK 1048576 y.1 from hf 4 _ 1 rfl c_Polys)
 obtain⟨y5,h5,_⟩:=(show ∃y,TR enc w n 32 [c6,c7,c8] y∧BK 1048576 y.1 from hf 5 _ 3 rfl cells_Num)
 obtain⟨y6,h6,_⟩:=(show ∃y,TR enc w n 32 [c9,c10,c11] y∧BK 1048576 y.1 from hf 6 _ 3 rfl cells_Num)
 obtain⟨y7,h7,_⟩:=(show ∃y,TR enc w n 3 [c12] y∧BK 1048576 y.1 from hf 7 _ 1 rfl cells_int)
 obtain⟨y8,h8,hb8⟩:=(show ∃y,TR enc w n 33 [c13] y∧BK 1048576 y.1 from hf 8 _ 1 rfl c_Nodes)
 obtain⟨_,n2,hg⟩:=tr_fields Tryz.underlying27 c_Domain h2 hb2
 obtain⟨z0,g0,gb0⟩:=(show ∃y,TR enc w n2 23 [c2] y∧BK 1048576 y.1 from hg 0 _ 1 rfl c_Box)
 obtain⟨z1,g1,gb1⟩:=(show ∃y,TR enc w n2 25 [c3] y∧BK 1048576 y.1 from hg 1 _ 1 rfl c_Simplex)
 obtain⟨kind,e0,_⟩:=tr_int h0
 obtain⟨vars,e1,ev⟩:=tr_int h1
 obtain⟨budget,e7,_⟩:=tr_int h7
 obtain⟨eps,e5⟩:=tr_Num h5
 obtain⟨delta,e6⟩:=tr_Num h6
 obtain⟨box,Ab,cb,e2,f2,n2',_⟩:=tr_slice (p:=spR) (Q:=fun _=>True) (nm0,nm0) Tryz.underlying23 c_Span (by decide) (fun _ _ _ h hB=>tr_Span h hB) g0 gb0
 obtain⟨pts,As,cs',e3,f3,n3,q3⟩:=tr_slice (p:=ptR 0) (Q:=fun l=>l.length≤1048576) [] Tryz.underlying25 c_Point (by decide) (fun _ _ _ h hB=>tr_Point h hB) g1 gb1
 obtain⟨pl,Ap,kp,e4,f4,n4,q4⟩:=tr_slice (p:=pyR 0) (Q:=PQ 1048576) pyD Tryz.underlying28 c_Poly (by decide) (fun _ _ _ h hB=>tr_Poly h hB) h3 hb3
 obtain⟨rl,Ar,kr,e8,f8,n8,q8⟩:=tr_slice (p:=pyR 0) (Q:=PQ 1048576) pyD Tryz.underlying28 c_Poly (by decide) (fun _ _ _ h hB=>tr_Poly h hB) h4 hb4
 obtain⟨ct,Ac,cc,e9,f9,n9,q9⟩:=tr_slice (p:=ndR 0) (Q:=fun a=>PQ 1048576 a.sum) ndD Tryz.underlying33 c_Node (by decide) (fun _ _ _ h hB=>tr_Node h hB) h8 hb8
 have u5:=List.cons.inj (show[c6,c7,c8]=nmC eps from e5)
 have v5:=List.cons.inj u5.2
 have u6:=List.cons.inj (show[c9,c10,c11]=nmC delta from e6)
 have v6:=List.cons.inj u6.2
 refine⟨⟨kind,vars,box,pts,pl,rl,eps,delta,budget,ct⟩,Ab,As,Ap,Ar,Ac,cb,cs',kp,kr,cc,congrArg Value.agg (Array.toList_inj.1 ?_),⟨n2',n3,n4,n8,n9,q3,fun p hp=>(q4 p hp).1,fun p hp=>(q8 p hp).1,fun p hp=>(q9 p hp).1,fun p hp t ht=>?_,ev⟩,⟨f2,f3,f4,f8,f9⟩⟩
 ·rw[show cs.toList=_ from hcs,one_eq e0,one_eq e1,one_eq e2,one_eq e3,one_eq e4,one_eq e8,u5.1,v5.1,one_eq v5.2,u6.1,v6.1,one_eq v6.2,one_eq e7,one_eq e9]
 ·unfold allP at hp
  simp only[List.mem_append,List.mem_map]at hp
  rcases hp with(hp|hp)|⟨q,hp,rfl⟩
  ·exact(q4 p hp).2 t ht
  ·exact(q8 p hp).2 t ht
  ·exact(q9 q hp).2 t ht
end
