/- The walks and plain laws beneath the statements. -/
import Derived.Test.YtaelfkdjlioegaaGreatDoorQG15
import Derived.ArgAppend
namespace Go.Proofs.YtaelfkdjlioegaaGreatDoor
open Go Go.RowKit
variable{w:World}{base k n:Nat}{e:TypeId}{f:Nat→List Value}{v:Value}{α:Type}{l:List Bool}
theorem OwnK.cel{g c:Nat}(hk:∀j,(f j).length=k)(h:OwnK w base e k (.slice (some ⟨g,0,none⟩) n c) n f):
  ∃F,Cel w g e (c*k) F∧n≤c∧c≤maxLen∧base≤g∧∀j,j<n→∀i,i<k→(f j)[i]?=some (F (j*k+i)):=by
 rcases h.2 with⟨e0,_⟩|⟨g',cap,cur,e0,hb,hh,hn,hc,hs,hx⟩
 ·cases e0
 ·injection e0 with e1 e2 e3
  injection e1 with e1
  injection e1 with e1 _ _
  subst e1 e3
  refine⟨fun j=>cur.getD j undef,⟨cur,hh,hs,fun j hj=>by simp[Array.getD,hs,hj]⟩,hn,hc,hb,fun j hj i hi=>?_⟩
  have h2:(j+1)*k≤n*k:=Lo _ (by omega)
  have h3:n*k≤c*k:=Lo _ hn
  rw[Rr]at h2
  have h4:j*k+i<cur.size:=by omega
  rw[← DW hk hj hi,← hx,List.getElem?_take_of_lt (by omega),Array.getElem?_toList]
  simp[Array.getD,h4]
theorem OwnK.lt_(h:OwnK w base e k v n f): ∀g,v.ownBlock=some g→base≤g∧g<w.heap.size:=World.ownsRow.lt h
theorem OwnK.base_{b':Nat}(h:OwnK w base e k v n f)(hb:b'≤base): OwnK w b' e k v n f:=by
 refine⟨h.1,?_⟩
 rcases h.2 with h0|⟨g,cap,cur,e1,hb1,r⟩
 ·exact .inl h0
 ·exact .inr ⟨g,cap,cur,e1,L8 hb hb1,r⟩
structure Nm where
 b:Bool
 s:ByteArray
 e:Int
structure Tm where
 m:ByteArray
 c:Nm
structure Py where
 vars:Int
 ts:List Tm
structure Nd where
 split:Int
 scale:Nm
 sum:Py
structure PV where
 kind:Int
 vars:Int
 box:List (Nm×Nm)
 pts:List (List Nm)
 ps:List Py
 rules:List Py
 eps:Nm
 delta:Nm
 budget:Int
 cert:List Nd
noncomputable instance:DecidableEq Nm:=fun a b=>Classical.propDecidable (a=b)
noncomputable instance:DecidableEq Tm:=fun a b=>Classical.propDecidable (a=b)
noncomputable instance:DecidableEq Py:=fun a b=>Classical.propDecidable (a=b)
noncomputable instance:DecidableEq Nd:=fun a b=>Classical.propDecidable (a=b)
noncomputable instance:DecidableEq PV:=fun a b=>Classical.propDecidable (a=b)
def nm0:Nm:=⟨false,⟨#[]⟩,0⟩
abbrev Rdg(α:Type):= World→α→List Value→Prop
def Rdg.up{α:Type}(p:Rdg α): Prop:=∀(w w':World) (x:α) (cs:List Value),p w x cs→Below w.heap.size w w'→p w' x cs
def SlV{α:Type}(lo k:Nat)(p:Rdg α)(w:World)(l:List α)(v:Value): Prop :=
 ∃A c,v=.slice A l.length c∧l.length≤c∧(A=none→l.length=0∧c=0) ∧
  (0<l.length→∃b off,A=some ⟨b,off,none⟩∧lo≤b∧∀i (h:i<l.length),∃cs:List Value,cs.length=k∧p w l[i] cs∧∀j,j<k→w.cell? ⟨b,off+i*k+j,none⟩=cs[j]?)
def QF(x:Nm): List Value:=[.bool x.b,.string x.s,.int .i64 x.e]
def Q7(x:Tm): List Value:=[.string x.m,.bool x.c.b,.string x.c.s,.int .i64 x.c.e]
def YH(x:Nm×Nm): List Value:=[.bool x.1.b,.string x.1.s,.int .i64 x.1.e,.bool x.2.b,.string x.2.s,.int .i64 x.2.e]
def Jm:Rdg Nm:=fun _ x cs=>cs=QF x
def Zl:Rdg Tm:=fun _ x cs=>cs=Q7 x
def WS:Rdg (Nm×Nm):=fun _ x cs=>cs=YH x
def SN(lo:Nat): Rdg (List Nm):=fun w x cs=>∃v,cs=[v]∧SlV lo 3 Jm w x v
def UJ(lo:Nat): Rdg Py:=fun w x cs=>∃v,cs=[.int .i64 x.vars,v]∧SlV lo 4 Zl w x.ts v
def eW(lo:Nat): Rdg Nd:=fun w x cs=>∃v,cs=[.int .i64 x.split,.bool x.scale.b,.string x.scale.s,.int .i64 x.scale.e,.int .i64 x.sum.vars,v]∧SlV lo 4 Zl w x.sum.ts v
abbrev nA(x:Nm): Value:=.agg #[.bool x.b,.string x.s,.int .i64 x.e]
abbrev pL(k v:Int)(b s p r:Value)(e d:Nm)(u:Int)(c:Value): List Value:=[.int .i64 k,.int .i64 v,b,s,p,r,.bool e.b,.string e.s,.int .i64 e.e,.bool d.b,.string d.s,.int .i64 d.e,.int .i64 u,c]
abbrev pA(k v:Int)(b s p r:Value)(e d:Nm)(u:Int)(c:Value): Value:=.agg (pL k v b s p r e d u c).toArray
abbrev tL(k v:Int)(b:Option Addr)(nb cb:Nat)(s:Option Addr)(ns cs:Nat)(p:Option Addr)(np cp:Nat)(r:Option Addr)(nr cr:Nat)(e d:Nm)(u:Int)(c:Option Addr)(nc cc:Nat): List Value:=pL k v (.slice b nb cb) (.slice s ns cs) (.slice p np cp) (.slice r nr cr) e d u (.slice c nc cc)
abbrev tA(k v:Int)(b:Option Addr)(nb cb:Nat)(s:Option Addr)(ns cs:Nat)(p:Option Addr)(np cp:Nat)(r:Option Addr)(nr cr:Nat)(e d:Nm)(u:Int)(c:Option Addr)(nc cc:Nat): Value:=.agg (tL k v b nb cb s ns cs p np cp r nr cr e d u c nc cc).toArray
abbrev xL(x:PV)(b:Option Addr)(cb:Nat)(s:Option Addr)(cs:Nat)(p:Option Addr)(cp:Nat)(r:Option Addr)(cr:Nat)(c:Option Addr)(cc:Nat): List Value:=tL x.kind x.vars b x.box.length cb s x.pts.length cs p x.ps.length cp r x.rules.length cr x.eps x.delta x.budget c x.cert.length cc
abbrev xA(x:PV)(b:Option Addr)(cb:Nat)(s:Option Addr)(cs:Nat)(p:Option Addr)(cp:Nat)(r:Option Addr)(cr:Nat)(c:Option Addr)(cc:Nat): Value:=.agg (xL x b cb s cs p cp r cr c cc).toArray
abbrev yL(x:PV)(b s p r c:Value): List Value:=pL x.kind x.vars b s p r x.eps x.delta x.budget c
abbrev yA(x:PV)(b s p r c:Value): Value:=.agg (yL x b s p r c).toArray
theorem Xx:Rdg.up Jm:=fun _ _ _ _ h _=>h
theorem Xo:Rdg.up Zl:=fun _ _ _ _ h _=>h
theorem j3:Rdg.up WS:=fun _ _ _ _ h _=>h
theorem SlV.below{lo:Nat}{p:Rdg α}(hp:Rdg.up p){w':World}{l:List α}(h:SlV lo k p w l v)(hb:Below w.heap.size w w'): SlV lo k p w' l v:=by
 obtain⟨A,c,h1,h2,h3,h4⟩:=h
 refine⟨A,c,h1,h2,h3,fun h0=>?_⟩
 obtain⟨b,off,e,hlo,hc⟩:=h4 h0
 refine⟨b,off,e,hlo,fun i hi=>?_⟩
 obtain⟨cs,hk,hx,hj⟩:=hc i hi
 refine⟨cs,hk,hp _ _ _ _ hx hb,fun j hjk=>?_⟩
 have h5:=hj j hjk
 obtain⟨u,hu⟩:∃u,cs[j]?=some u:=⟨_,List.getElem?_eq_getElem (by rw[hk];exact hjk)⟩
 rw[hu]at h5 ⊢
 exact L7 hb h5
theorem Oi(lo:Nat): Rdg.up (SN lo):=fun _ _ _ _ ⟨v,h1,h2⟩ hb=>⟨v,h1,h2.below Xx hb⟩
theorem bO(lo:Nat): Rdg.up (UJ lo):=fun _ _ _ _ ⟨v,h1,h2⟩ hb=>⟨v,h1,h2.below Xo hb⟩
theorem j2(lo:Nat): Rdg.up (eW lo):=fun _ _ _ _ ⟨v,h1,h2⟩ hb=>⟨v,h1,h2.below Xo hb⟩
theorem SlV.shape{lo:Nat}{p:Rdg α}{l:List α}(h:SlV lo k p w l v): ∃A c,v=.slice A l.length c∧l.length≤c:=by
 obtain⟨A,c,h1,h2,_⟩:=h
 exact⟨A,c,h1,h2⟩
theorem SlV.nil_(lo k:Nat)(p:Rdg α)(w:World): SlV lo k p w [] (.slice none 0 0):=⟨none,0,rfl,L3 _,fun _=>⟨rfl,rfl⟩,fun h=>(Nat.lt_irrefl 0 h).elim⟩
def JV:List Bool→Nat→Option (List Bool)
 | l,0=>some l
 | [],_+1=>none
 | x::r,h+1=>JV r (bif x then h+2 else h)
theorem GG(l:List Bool): JV l 0=some l:=by cases l<;>rfl
theorem CR:∀(l:List Bool) (a b:Nat),JV l (a+b)=(JV l a).bind fun r=>JV r b
 | l,0,b=>by rw[Ld,GG];rfl
 | [],a+1,b=>by rw[show a+1+b=(a+b)+1 by omega];rfl
 | x::r,a+1,b=>by
  rw[show a+1+b=(a+b)+1 by omega]
  show JV r (bif x then a+b+2 else a+b)=(JV r (bif x then a+2 else a)).bind fun r=>JV r b
  cases x with
  | true=>show JV r (a+b+2)=_;rw[show a+b+2=(a+2)+b by omega,CR r (a+2) b];rfl
  | false=>show JV r (a+b)=_;rw[CR r a b];rfl
theorem Bo:∀(l:List Bool) (h:Nat) {r:List Bool},JV l h=some r→∃k,k≤l.length∧r=l.drop k∧(0<h→0<k)
 | l,0,r,e=>by
  rw[GG]at e
  exact⟨0,L9 _,by rw[Te];exact(Option.some.inj e).symm,fun h=>h⟩
 | [],_+1,_,e=>by cases e
 | x::t,h+1,r,e=>by
  obtain⟨k,h1,h2,_⟩:=Bo t _ (show JV t (bif x then h+2 else h)=some r from e)
  exact⟨k+1,by simpa using h1,h2,fun _=>S9 _⟩
def Jn(l:List Bool)(at_:Nat): Int:=match JV (l.drop at_) 1 with
 | some r=>((l.length-r.length:Nat):Int)
 | none=>-1
theorem OG(h:k<l.length)(hx:l[k]=false): Jn l k=((k+1:Nat):Int):=by
 unfold Jn
 rw[List.drop_eq_getElem_cons h,hx]
 show(match JV (l.drop (k+1)) 0 with|some r=>((l.length-r.length:Nat):Int)|none=>-1)=_
 rw[GG]
 show((l.length-(l.drop (k+1)).length:Nat):Int)=_
 rw[Tt];omega
theorem N8(h:l.length≤k): Jn l k=-1:=by
 unfold Jn
 rw[List.drop_eq_nil_of_le h];rfl
theorem MK(h:k<l.length)(hx:l[k]=true): (Jn l (k+1)=-1∧Jn l k=-1)∨∃m:Nat,Jn l (k+1)=(m:Int)∧k+1<m∧m≤l.length∧Jn l k=Jn l m:=by
 have e0:JV (l.drop k) 1=(JV (l.drop (k+1)) 1).bind fun r=>JV r 1:=by
  rw[List.drop_eq_getElem_cons h,hx]
  show JV (l.drop (k+1)) 2=_
  exact CR (l.drop (k+1)) 1 1
 cases e1:JV (l.drop (k+1)) 1 with
 | none =>
  refine .inl ⟨?_,?_⟩
  ·unfold Jn;rw[e1]
  ·unfold Jn;rw[e0,e1];rfl
 | some r =>
  obtain⟨j,h1,h2,h3⟩:=Bo _ _ e1
  have h4:=h3 (by decide)
  rw[Tt]at h1
  rw[List.drop_drop]at h2
  refine .inr ⟨k+1+j,?_,by omega,by omega,?_⟩
  ·unfold Jn;rw[e1]
   show((l.length-r.length:Nat):Int)=_
   rw[h2,Tt];omega
  ·unfold Jn;rw[e0,e1,← h2];rfl
theorem TV: Jn l 0=(l.length:Int)↔JV l 1=some []:=by
 unfold Jn
 rw[Te]
 cases e:JV l 1 with
 | none =>
  constructor
  ·intro h;exfalso;have h1:(-1:Int)=(l.length:Int):=h;omega
  ·intro h;cases h
 | some r =>
  obtain⟨k,h1,h2,h3⟩:=Bo _ _ e
  have h4:=h3 (by decide)
  have h5:r.length=l.length-k:=by rw[h2,Tt]
  constructor
  ·intro h
   have h6:((l.length-r.length:Nat):Int)=(l.length:Int):=h
   have h7:r.length=0:=by omega
   rw[List.length_eq_zero_iff.1 h7]
  ·intro h
   obtain rfl:=Option.some.inj h
   rfl
