/- The walks and plain laws beneath the statements. -/
import Derived.Test.YtaelfkdjlioegaaGreatDoorQO14
import Derived.ArgAppend
namespace Go.Proofs.YtaelfkdjlioegaaGreatDoor
open Go Go.RowKit
theorem OwnK.cel{w:World}{base:Nat}{e:TypeId}{k g n c:Nat}{f:Nat→List Value}(hk:∀j,(f j).length=k)(h:OwnK w base e k (.slice (some ⟨g,0,none⟩) n c) n f):
  ∃F,Cel w g e (c*k) F∧n≤c∧c≤maxLen∧base≤g∧∀j,j<n→∀i,i<k→(f j)[i]?=some (F (j*k+i)):=by
 rcases h.2 with⟨e0,_⟩|⟨g',cap,cur,e0,hb,hh,hn,hc,hs,hx⟩
 ·cases e0
 ·injection e0 with e1 e2 e3
  injection e1 with e1
  injection e1 with e1 _ _
  subst e1 e3
  refine⟨fun j=>cur.getD j undef,⟨cur,hh,hs,fun j hj=>by simp[Array.getD,hs,hj]⟩,hn,hc,hb,fun j hj i hi=>?_⟩
  have h2:(j+1)*k≤n*k:=Nat.mul_le_mul_right _ (by omega)
  have h3:n*k≤c*k:=Nat.mul_le_mul_right _ hn
  rw[Nat.succ_mul]at h2
  have h4:j*k+i<cur.size:=by omega
  rw[← flatK_at hk hj hi,← hx,List.getElem?_take_of_lt (by omega),Array.getElem?_toList]
  simp[Array.getD,h4]
theorem Cel.own{w:World}{base:Nat}{e:TypeId}{k g n c:Nat}{f:Nat→List Value}{F:Nat→Value}(hk:∀j,(f j).length=k)(hk0:0<k)(h:Cel w g e (c*k) F)(hn:n≤c)(hc:c≤maxLen)(hb:base≤g)(hf:∀j,j<n→∀i,i<k→(f j)[i]?=some (F (j*k+i))): OwnK w base e k (.slice (some ⟨g,0,none⟩) n c) n f:=by
 obtain⟨cs,hh,hs,hx⟩:=h
 refine⟨flatK_len hk n,.inr ⟨g,c,cs,rfl,hb,hh,hn,hc,hs,?_⟩⟩
 have h3:n*k≤c*k:=Nat.mul_le_mul_right _ hn
 apply List.ext_getElem?
 intro j
 by_cases hj:j<n*k
 ·have e1:j=j / k*k+j % k:=by rw[Nat.mul_comm];exact(Nat.div_add_mod j k).symm
  have hjm:j / k<n:=(Nat.div_lt_iff_lt_mul hk0).2 hj
  have hjk:j % k<k:=Nat.mod_lt _ hk0
  rw[List.getElem?_take_of_lt hj,Array.getElem?_toList,hx j (by omega)]
  conv=>rhs;rw[e1]
  rw[flatK_at hk hjm hjk,hf _ hjm _ hjk,← e1]
 ·rw[List.getElem?_eq_none (by simp;omega),List.getElem?_eq_none (by rw[flatK_len hk];omega)]
open Go Go.RowKit
structure Nm where
 b:Bool
 s:ByteArray
 e:Int
structure Tm where
 m:ByteArray
 c:Nm
structure Py where
 vars:Int
 ts:List Tm
structure Nd where
 split:Int
 scale:Nm
 sum:Py
structure PV where
 kind:Int
 vars:Int
 box:List (Nm×Nm)
 pts:List (List Nm)
 ps:List Py
 rules:List Py
 eps:Nm
 delta:Nm
 budget:Int
 cert:List Nd
noncomputable instance:DecidableEq Nm:=fun a b=>Classical.propDecidable (a=b)
noncomputable instance:DecidableEq Tm:=fun a b=>Classical.propDecidable (a=b)
noncomputable instance:DecidableEq Py:=fun a b=>Classical.propDecidable (a=b)
noncomputable instance:DecidableEq Nd:=fun a b=>Classical.propDecidable (a=b)
noncomputable instance:DecidableEq PV:=fun a b=>Classical.propDecidable (a=b)
def nm0:Nm:=⟨false,⟨#[]⟩,0⟩
abbrev Rdg(α:Type):= World→α→List Value→Prop
def Rdg.up{α:Type}(p:Rdg α): Prop:=∀(w w':World) (x:α) (cs:List Value),p w x cs→Below w.heap.size w w'→p w' x cs
def SlV{α:Type}(lo k:Nat)(p:Rdg α)(w:World)(l:List α)(v:Value): Prop :=
 ∃A c,v=.slice A l.length c∧l.length≤c∧(A=none→l.length=0∧c=0) ∧
  (0<l.length→∃b off,A=some ⟨b,off,none⟩∧lo≤b∧∀i (h:i<l.length),∃cs:List Value,cs.length=k∧p w l[i] cs∧∀j,j<k→w.cell? ⟨b,off+i*k+j,none⟩=cs[j]?)
def nmC(x:Nm): List Value:=[.bool x.b,.string x.s,.int .i64 x.e]
def tmC(x:Tm): List Value:=[.string x.m,.bool x.c.b,.string x.c.s,.int .i64 x.c.e]
def spC(x:Nm×Nm): List Value:=[.bool x.1.b,.string x.1.s,.int .i64 x.1.e,.bool x.2.b,.string x.2.s,.int .i64 x.2.e]
def nmR:Rdg Nm:=fun _ x cs=>cs=nmC x
def tmR:Rdg Tm:=fun _ x cs=>cs=tmC x
def spR:Rdg (Nm×Nm):=fun _ x cs=>cs=spC x
def ptR(lo:Nat): Rdg (List Nm):=fun w x cs=>∃v,cs=[v]∧SlV lo 3 nmR w x v
def pyR(lo:Nat): Rdg Py:=fun w x cs=>∃v,cs=[.int .i64 x.vars,v]∧SlV lo 4 tmR w x.ts v
def ndR(lo:Nat): Rdg Nd:=fun w x cs=>∃v,cs=[.int .i64 x.split,.bool x.scale.b,.string x.scale.s,.int .i64 x.scale.e,.int .i64 x.sum.vars,v]∧SlV lo 4 tmR w x.sum.ts v
def PrV(lo:Nat)(w:World)(x:PV)(cs:List Value): Prop :=
 ∃vb vs vp vr vc,cs=[.int .i64 x.kind,.int .i64 x.vars,vb,vs,vp,vr,.bool x.eps.b,.string x.eps.s,.int .i64 x.eps.e,.bool x.delta.b,.string x.delta.s,.int .i64 x.delta.e,.int .i64 x.budget,vc] ∧
  SlV lo 6 spR w x.box vb∧SlV lo 1 (ptR lo) w x.pts vs∧SlV lo 2 (pyR lo) w x.ps vp∧SlV lo 2 (pyR lo) w x.rules vr∧SlV lo 6 (ndR lo) w x.cert vc
theorem nmR_up:Rdg.up nmR:=fun _ _ _ _ h _=>h
theorem tmR_up:Rdg.up tmR:=fun _ _ _ _ h _=>h
theorem spR_up:Rdg.up spR:=fun _ _ _ _ h _=>h
theorem SlV.below{α:Type}{lo k:Nat}{p:Rdg α}(hp:Rdg.up p){w w':World}{l:List α}{v:Value}(h:SlV lo k p w l v)(hb:Below w.heap.size w w'): SlV lo k p w' l v:=by
 obtain⟨A,c,h1,h2,h3,h4⟩:=h
 refine⟨A,c,h1,h2,h3,fun h0=>?_⟩
 obtain⟨b,off,e,hlo,hc⟩:=h4 h0
 refine⟨b,off,e,hlo,fun i hi=>?_⟩
 obtain⟨cs,hk,hx,hj⟩:=hc i hi
 refine⟨cs,hk,hp _ _ _ _ hx hb,fun j hjk=>?_⟩
 have h5:=hj j hjk
 obtain⟨u,hu⟩:∃u,cs[j]?=some u:=⟨_,List.getElem?_eq_getElem (by rw[hk];exact hjk)⟩
 rw[hu]at h5 ⊢
 exact cell_later hb h5
theorem ptR_up(lo:Nat): Rdg.up (ptR lo):=fun _ _ _ _ ⟨v,h1,h2⟩ hb=>⟨v,h1,h2.below nmR_up hb⟩
theorem pyR_up(lo:Nat): Rdg.up (pyR lo):=fun _ _ _ _ ⟨v,h1,h2⟩ hb=>⟨v,h1,h2.below tmR_up hb⟩
theorem ndR_up(lo:Nat): Rdg.up (ndR lo):=fun _ _ _ _ ⟨v,h1,h2⟩ hb=>⟨v,h1,h2.below tmR_up hb⟩
theorem PrV.below{lo:Nat}{w w':World}{x:PV}{cs:List Value}(h:PrV lo w x cs)(hb:Below w.heap.size w w'): PrV lo w' x cs:=by
 obtain⟨vb,vs,vp,vr,vc,h0,h1,h2,h3,h4,h5⟩:=h
 exact⟨vb,vs,vp,vr,vc,h0,h1.below spR_up hb,h2.below (ptR_up lo) hb,h3.below (pyR_up lo) hb,h4.below (pyR_up lo) hb,h5.below (ndR_up lo) hb⟩
theorem SlV.shape{α:Type}{lo k:Nat}{p:Rdg α}{w:World}{l:List α}{v:Value}(h:SlV lo k p w l v): ∃A c,v=.slice A l.length c∧l.length≤c:=by
 obtain⟨A,c,h1,h2,_⟩:=h
 exact⟨A,c,h1,h2⟩
theorem SlV.nil_{α:Type}(lo k:Nat)(p:Rdg α)(w:World): SlV lo k p w [] (.slice none 0 0):=⟨none,0,rfl,Nat.le_refl _,fun _=>⟨rfl,rfl⟩,fun h=>(Nat.lt_irrefl 0 h).elim⟩
