/- Laws beneath the statement. -/
import Derived.Test.YtoibldcmoapgbaaGreatDoorBP11
namespace Go.Proofs.YtoibldcmoapgbaaGreatDoor
set_option linter.defProp false
open Go Go.RowKit
variable{w:m0}{base k:Nat}{e:o0}{f:Nat->o3}
def OwnK.cel{g n c:Nat}(o:∀j,(f j).length=k)(h:OwnK w base e k (.slice (some ⟨g,0,none⟩) n c) n f):
  ∃F,Cel w g e (c*k) F/\n<=c/\c<=maxLen/\base<=g/\∀j,j<n->∀i,i<k->(f j)[i]?=some (F (j*k+i)):=by
 rcases h.2 with⟨e0,_⟩|⟨y,cap,a,e0,p,q,l,r,m,s⟩
 ·cases e0
 ·injection e0 with b z t
  injection b with b
  injection b with b _ _
  subst b t;refine⟨λj=>a.getD j undef,⟨a,q,m,λj d=>by simp[Array.getD,m,d]⟩,l,r,p,λj d i u=>?_⟩;have v:(j+1)*k<=n*k:=Lt _ x3;have A:n*k<=c*k:=Lt _ l;rw[Ru]at v;have x:j*k+i<a.size:=x3;rw[<- Em o d u,<- s,b9 x3,Array.getElem?_toList];simp[Array.getD,x]
variable{v:y9}
def OwnK.lt_{n:Nat}(h:OwnK w base e k v n f):∀g,v.ownBlock=some g->base<=g/\g<w.heap.size:=World.ownsRow.lt h
def OwnK.base_{c:Nat}{n:Nat}(h:OwnK w base e k v n f)(d:c<=base):OwnK w c e k v n f:=by
 refine⟨h.1,?_⟩;rcases h.2 with i|⟨g,cap,a,j,b,r⟩
 ·exact .inl i
 ·exact .inr ⟨g,cap,a,j,L6 d b,r⟩
structure Nm where
 b:Bool
 s:ByteArray
 e:Int
structure Tm where
 m:ByteArray
 c:Nm
structure Py where
 vars:Int
 ts:List Tm
structure Nd where
 split:Int
 ο:Nm
 sum:Py
structure PV where
 δ:Int
 vars:Int
 box:List (Nm×Nm)
 κ:List (List Nm)
 ps:List Py
 θ:List Py
 ν:Nm
 ε:Nm
 ζ:Int
 ι:List Nd
noncomputable instance:DecidableEq Nm:=λa b=>Classical.propDecidable (a=b)
noncomputable instance:DecidableEq Tm:=λa b=>Classical.propDecidable (a=b)
noncomputable instance:DecidableEq Py:=λa b=>Classical.propDecidable (a=b)
noncomputable instance:DecidableEq Nd:=λa b=>Classical.propDecidable (a=b)
noncomputable instance:DecidableEq PV:=λa b=>Classical.propDecidable (a=b)
def nm0:Nm:=⟨false,⟨#[]⟩,0⟩
abbrev Rdg(α:Type):= m0->α->o3->Prop
variable{α:Type}
def Rdg.up(p:Rdg α):Prop:=∀(w a:m0) (x:α) (cs:o3),p w x cs->Below w.heap.size w a->p a x cs
def SlV(a k:Nat)(p:Rdg α)(w:m0)(l:List α)(v:y9):Prop :=
 ∃A c,v=.slice A l.length c/\l.length<=c/\(A=none->l.length=0/\c=0) /\
  (0<l.length->∃b off,A=some ⟨b,off,none⟩/\a<=b/\∀i (h:i<l.length),∃cs:o3,cs.length=k/\p w l[i] cs/\∀j,j<k->w.cell? ⟨b,off+i*k+j,none⟩=cs[j]?)
def Xk(x:Nm):o3:=[.bool x.b,.string x.s,.int .i64 x.e]
def QK(x:Tm):o3:=[.string x.m,.bool x.c.b,.string x.c.s,.int .i64 x.c.e]
def JR(x:Nm×Nm):o3:=[.bool x.1.b,.string x.1.s,.int .i64 x.1.e,.bool x.2.b,.string x.2.s,.int .i64 x.2.e]
def VT:Rdg Nm:=λ_ x cs=>cs=Xk x
def V7:Rdg Tm:=λ_ x cs=>cs=QK x
def yN:Rdg (Nm×Nm):=λ_ x cs=>cs=JR x
def kz(a:Nat):Rdg (List Nm):=λw x cs=>∃v,cs=[v]/\SlV a 3 VT w x v
def dX(a:Nat):Rdg Py:=λw x cs=>∃v,cs=[.int .i64 x.vars,v]/\SlV a 4 V7 w x.ts v
def lu(a:Nat):Rdg Nd:=λw x cs=>∃v,cs=[.int .i64 x.split,.bool x.ο.b,.string x.ο.s,.int .i64 x.ο.e,.int .i64 x.sum.vars,v]/\SlV a 4 V7 w x.sum.ts v
abbrev nA(x:Nm):y9:=.agg #[.bool x.b,.string x.s,.int .i64 x.e]
abbrev pL(k v:Int)(b s p r:y9)(e d:Nm)(u:Int)(c:y9):o3:=[.int .i64 k,.int .i64 v,b,s,p,r,.bool e.b,.string e.s,.int .i64 e.e,.bool d.b,.string d.s,.int .i64 d.e,.int .i64 u,c]
abbrev pA(k v:Int)(b s p r:y9)(e d:Nm)(u:Int)(c:y9):y9:=.agg (pL k v b s p r e d u c).toArray
abbrev tL(k v:Int)(b:m3)(nb a:Nat)(s:m3)(f cs:Nat)(p:m3)(g h:Nat)(r:m3)(i j:Nat)(e d:Nm)(u:Int)(c:m3)(l m:Nat):o3:=pL k v (.slice b nb a) (.slice s f cs) (.slice p g h) (.slice r i j) e d u (.slice c l m)
abbrev tA(k v:Int)(b:m3)(nb a:Nat)(s:m3)(f cs:Nat)(p:m3)(g h:Nat)(r:m3)(i j:Nat)(e d:Nm)(u:Int)(c:m3)(l m:Nat):y9:=.agg (tL k v b nb a s f cs p g h r i j e d u c l m).toArray
abbrev xL(x:PV)(b:m3)(a:Nat)(s:m3)(cs:Nat)(p:m3)(d:Nat)(r:m3)(e:Nat)(c:m3)(f:Nat):o3:=tL x.δ x.vars b x.box.length a s x.κ.length cs p x.ps.length d r x.θ.length e x.ν x.ε x.ζ c x.ι.length f
abbrev xA(x:PV)(b:m3)(a:Nat)(s:m3)(cs:Nat)(p:m3)(d:Nat)(r:m3)(e:Nat)(c:m3)(f:Nat):y9:=.agg (xL x b a s cs p d r e c f).toArray
abbrev yL(x:PV)(b s p r c:y9):o3:=pL x.δ x.vars b s p r x.ν x.ε x.ζ c
abbrev yA(x:PV)(b s p r c:y9):y9:=.agg (yL x b s p r c).toArray
def YH:Rdg.up VT:=λ_ _ _ _ h _=>h
def YS:Rdg.up V7:=λ_ _ _ _ h _=>h
def QbP:Rdg.up yN:=λ_ _ _ _ h _=>h
theorem SlV.below{d:Nat}{p:Rdg α}(g:Rdg.up p){f:m0}{l:List α}(h:SlV d k p w l v)(m:Below w.heap.size w f):SlV d k p f l v:=by
 let⟨A,c,n,o,q,r⟩:=h;refine⟨A,c,n,o,q,λs=>?_⟩;let⟨b,off,e,a,t⟩:=r s;refine⟨b,off,e,a,λi u=>?_⟩;let⟨cs,x,y,B⟩:=t i u;refine⟨cs,x,g _ _ _ _ y m,λj z=>?_⟩
 grind[Lj]
def pG(a:Nat):Rdg.up (kz a):=λ_ _ _ _ ⟨v,b,c⟩ d=>⟨v,b,c.below YH d⟩
def pP(a:Nat):Rdg.up (dX a):=λ_ _ _ _ ⟨v,b,c⟩ d=>⟨v,b,c.below YS d⟩
def QaK(a:Nat):Rdg.up (lu a):=λ_ _ _ _ ⟨v,b,c⟩ d=>⟨v,b,c.below YS d⟩
theorem SlV.shape{a:Nat}{p:Rdg α}{l:List α}(h:SlV a k p w l v):∃A c,v=.slice A l.length c/\l.length<=c:=by
 let⟨A,c,b,d,_⟩:=h
 grind
def SlV.nil_(a k:Nat)(p:Rdg α)(w:m0):SlV a k p w [] (.slice none 0 0):=⟨none,0,rfl,L4 _,λ_=>⟨rfl,rfl⟩,λh=>(T4 0 h).elim⟩
