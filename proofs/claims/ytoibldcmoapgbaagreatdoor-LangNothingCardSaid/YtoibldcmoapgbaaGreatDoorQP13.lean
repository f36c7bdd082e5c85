/- Laws beneath the statement. -/
import Derived.Test.YtoibldcmoapgbaaGreatDoorQP12
namespace Go.Proofs.YtoibldcmoapgbaaGreatDoor
open Go Go.RowKit
variable{w:World}{base k n:Nat}{f:Nat->List Value}{v:Value}
theorem OwnK.cel{e:u6}{g c:Nat}(o:∀j,(f j).length=k)(h:OwnK w base e k (.slice (some ⟨g,0,none⟩) n c) n f):
  ∃F,Cel w g e (c*k) F/\n<=c/\c<=maxLen/\base<=g/\∀j,j<n->∀i,i<k->(f j)[i]?=some (F (j*k+i)):=by
 rcases h.2 with⟨e0,_⟩|⟨y,cap,a,e0,p,q,l,r,m,s⟩
 ·cases e0
 ·injection e0 with b z t
  injection b with b
  injection b with b _ _
  subst b t;refine⟨λj=>a.getD j undef,⟨a,q,m,λj d=>by simp[Array.getD,m,d]⟩,l,r,p,λj d i u=>?_⟩;have v:(j+1)*k<=n*k:=Lo _ x3;have A:n*k<=c*k:=Lo _ l;rw[Rm]at v;have x:j*k+i<a.size:=x3;rw[<- Ca o d u,<- s,o4 x3,Array.getElem?_toList];simp[Array.getD,x]
theorem OwnK.lt_{e:u6}(h:OwnK w base e k v n f): ∀g,v.ownBlock=some g->base<=g/\g<w.heap.size:=World.ownsRow.lt h
theorem OwnK.base_{c:Nat}{e:u6}(h:OwnK w base e k v n f)(d:c<=base): OwnK w c e k v n f:=by
 refine⟨h.1,?_⟩;rcases h.2 with i|⟨g,cap,a,j,b,r⟩
 ·exact .inl i
 ·exact .inr ⟨g,cap,a,j,L9 d b,r⟩
structure Nm where
 b:Bool
 s:ByteArray
 e:Int
structure Tm where
 m:ByteArray
 c:Nm
structure Py where
 vars:Int
 ts:List Tm
structure Nd where
 split:Int
 ο:Nm
 sum:Py
structure PV where
 δ:Int
 vars:Int
 box:List (Nm×Nm)
 κ:List (List Nm)
 ps:List Py
 θ:List Py
 ν:Nm
 ε:Nm
 ζ:Int
 ι:List Nd
noncomputable instance:DecidableEq Nm:=λa b=>Classical.propDecidable (a=b)
noncomputable instance:DecidableEq Tm:=λa b=>Classical.propDecidable (a=b)
noncomputable instance:DecidableEq Py:=λa b=>Classical.propDecidable (a=b)
noncomputable instance:DecidableEq Nd:=λa b=>Classical.propDecidable (a=b)
noncomputable instance:DecidableEq PV:=λa b=>Classical.propDecidable (a=b)
def nm0:Nm:=⟨false,⟨#[]⟩,0⟩
abbrev Rdg(α:Type):= y9->α->a8->Prop
def Rdg.up{α:Type}(p:Rdg α): Prop:=∀(w a:y9) (x:α) (cs:a8),p w x cs->Below w.heap.size w a->p a x cs
def SlV{α:Type}(a k:Nat)(p:Rdg α)(w:y9)(l:List α)(v:z0): Prop :=
 ∃A c,v=.slice A l.length c/\l.length<=c/\(A=none->l.length=0/\c=0) /\
  (0<l.length->∃b off,A=some ⟨b,off,none⟩/\a<=b/\∀i (h:i<l.length),∃cs:a8,cs.length=k/\p w l[i] cs/\∀j,j<k->w.cell? ⟨b,off+i*k+j,none⟩=cs[j]?)
def YB(x:Nm): a8:=[.bool x.b,.string x.s,.int .i64 x.e]
def QG(x:Tm): a8:=[.string x.m,.bool x.c.b,.string x.c.s,.int .i64 x.c.e]
def Jw(x:Nm×Nm): a8:=[.bool x.1.b,.string x.1.s,.int .i64 x.1.e,.bool x.2.b,.string x.2.s,.int .i64 x.2.e]
def V0:Rdg Nm:=λ_ x cs=>cs=YB x
def Vv:Rdg Tm:=λ_ x cs=>cs=QG x
def xb:Rdg (Nm×Nm):=λ_ x cs=>cs=Jw x
def kU(a:Nat): Rdg (List Nm):=λw x cs=>∃v,cs=[v]/\SlV a 3 V0 w x v
def gK(a:Nat): Rdg Py:=λw x cs=>∃v,cs=[.int .i64 x.vars,v]/\SlV a 4 Vv w x.ts v
def nh(a:Nat): Rdg Nd:=λw x cs=>∃v,cs=[.int .i64 x.split,.bool x.ο.b,.string x.ο.s,.int .i64 x.ο.e,.int .i64 x.sum.vars,v]/\SlV a 4 Vv w x.sum.ts v
abbrev nA(x:Nm): z0:=.agg #[.bool x.b,.string x.s,.int .i64 x.e]
abbrev pL(k v:Int)(b s p r:z0)(e d:Nm)(u:Int)(c:z0): a8:=[.int .i64 k,.int .i64 v,b,s,p,r,.bool e.b,.string e.s,.int .i64 e.e,.bool d.b,.string d.s,.int .i64 d.e,.int .i64 u,c]
abbrev pA(k v:Int)(b s p r:z0)(e d:Nm)(u:Int)(c:z0): z0:=.agg (pL k v b s p r e d u c).toArray
abbrev tL(k v:Int)(b:u5)(nb a:Nat)(s:u5)(f cs:Nat)(p:u5)(g h:Nat)(r:u5)(i j:Nat)(e d:Nm)(u:Int)(c:u5)(l m:Nat): a8:=pL k v (.slice b nb a) (.slice s f cs) (.slice p g h) (.slice r i j) e d u (.slice c l m)
abbrev tA(k v:Int)(b:u5)(nb a:Nat)(s:u5)(f cs:Nat)(p:u5)(g h:Nat)(r:u5)(i j:Nat)(e d:Nm)(u:Int)(c:u5)(l m:Nat): z0:=.agg (tL k v b nb a s f cs p g h r i j e d u c l m).toArray
abbrev yL(x:PV)(b s p r c:z0): a8:=pL x.δ x.vars b s p r x.ν x.ε x.ζ c
abbrev yA(x:PV)(b s p r c:z0): z0:=.agg (yL x b s p r c).toArray
theorem YR:Rdg.up V0:=λ_ _ _ _ h _=>h
theorem YD:Rdg.up Vv:=λ_ _ _ _ h _=>h
theorem wh:Rdg.up xb:=λ_ _ _ _ h _=>h
theorem SlV.below{α:Type}{f:Nat}{p:Rdg α}(q:Rdg.up p){g:y9}{l:List α}(h:SlV f k p w l v)(m:Below w.heap.size w g): SlV f k p g l v:=by
 obtain⟨A,c,r,s,t,x⟩:=h;refine⟨A,c,r,s,t,λy=>?_⟩;obtain⟨b,off,e,d,z⟩:=x y;refine⟨b,off,e,d,λi B=>?_⟩;obtain⟨cs,n,C,D⟩:=z i B;refine⟨cs,n,q _ _ _ _ C m,λj a=>?_⟩;have o:=D j a;obtain⟨u,E⟩:∃u,cs[j]?=some u:=⟨_,m0 (by rw[n];exact a)⟩
 rw[E]at o ⊢;exact Ld m o
theorem kV(a:Nat): Rdg.up (kU a):=λ_ _ _ _ ⟨v,b,c⟩ d=>⟨v,b,c.below YR d⟩
theorem kZ(a:Nat): Rdg.up (gK a):=λ_ _ _ _ ⟨v,b,c⟩ d=>⟨v,b,c.below YD d⟩
theorem uP(a:Nat): Rdg.up (nh a):=λ_ _ _ _ ⟨v,b,c⟩ d=>⟨v,b,c.below YD d⟩
theorem SlV.shape{α:Type}{a:Nat}{p:Rdg α}{l:List α}(h:SlV a k p w l v): ∃A c,v=.slice A l.length c/\l.length<=c:=by
 obtain⟨A,c,b,d,_⟩:=h;exact⟨A,c,b,d⟩
