/- Laws beneath the statement. -/
import Derived.Test.YtemkmhpfjefbmaaGreatDoorLP8
namespace Go.Proofs.YtemkmhpfjefbmaaGreatDoor
set_option linter.defProp false
open Tryz
open Go Go.RowKit
variable{w:xH}{k:Nat}
def RdK.up{a:xH}{A:xN}{n:Nat}{f:Nat->o3}(h:RdK w A n k f)(b:Below w.heap.size w a)(c:∀j,(f j).length=k):RdK a A n k f:=h.below c b
def qV(a:y9):a=a:=rfl
def qI(a:Int):a=a:=rfl
def qB(a:Bool):a=a:=rfl
def qS(a:xM):a=a:=rfl
abbrev tS(k v:Int)(b:xN)(nb a:Nat)(s:xN)(f cs:Nat)(p:xN)(g h:Nat)(r:xN)(i j:Nat)(e d:Nm)(u:Int)(c:xN)(l m:Nat):List SV:=[iV k,iV v,lV b nb a,lV s f cs,lV p g h,lV r i j,bV e.b,sV e.s,iV e.e,bV d.b,sV d.s,iV d.e,iV u,lV c l m]
abbrev xS(x:PV)(b:xN)(a:Nat)(s:xN)(cs:Nat)(p:xN)(d:Nat)(r:xN)(e:Nat)(c:xN)(f:Nat):List SV:=tS x.δ x.vars b x.box.length a s x.κ.length cs p x.ps.length d r x.θ.length e x.ν x.ε x.ζ c x.ι.length f
def XR(R:Res)(x:y9)(S:Nat->Prop)(w:xH)(h:R.φ x S w):R.φ x S w:=h
variable{a b:Nat}
theorem Qt(h:decide ((a:Int)<(b:Int))=true):a<b:=by grind
theorem geq(h:decide ((a:Int)<(b:Int))=false):b<=a:=by grind
def Q5(A:xN)(i:Nat):Addr:=⟨(A.getD ⟨0,0,none⟩).block,(A.getD ⟨0,0,none⟩).off+i,none⟩
variable{l:o3}
section
variable{P:xO}{w0:xH}{t:o0}{ti:TI}{A:xN}{n c k:Nat}{f:Nat->List y9}
theorem RdK.adr_{i o:Nat}(h:RdK w0 A n k f)(a:i<n)(c:o<k):w0.cell? (Q5 A (i*k+o))=(f i)[o]?:=by
 obtain⟨b,off,rfl,d⟩:=h x3;show w0.cell? ⟨b,off+(i*k+o),none⟩=_
 grind
def Kr{e:Nat}(sz:Nat){a:Option Bool}(d:Yw P t=some ti)(g:ti.k=.slice e sz a)(j:sz≠0)(l:RdK w0 A n k f){i:Nat}(h:i<n):
  Qp P w0 (Instr.indexAt t (.slice A n c) (.int .i64 (i:Int))) (.pointer (some (Q5 A (i*sz)))):=λW _=>by
 obtain⟨b,off,rfl,_⟩:=l x3;exact AR d g h j
def Qab{a:List (Nat×Nat×Option Bool)}{j off b o:Nat}{d:Option Bool}(e:Yw P t=some ti)(f:ti.k=.struct a)(h:Gq a j=some (off,b,d))(i:b≠0):
  Qp P w0 (Instr.fieldAt t (.pointer (some (Q5 A o))) j) (.pointer (some (Q5 A (o+off)))):=λW _=>by
 have c:=Ek (P:=P) (w:=W) (g:=(A.getD ⟨0,0,none⟩).block) (o:=(A.getD ⟨0,0,none⟩).off+o) e f h i;rw[Sf]at c;exact c
def Jk{a:List (Nat×Nat×Option Bool)}{j off:Nat}(sz:Nat){i o:Nat}{b:Option Bool}(c:Yw P t=some ti)(d:ti.k=.struct a)(h:Gq a j=some (off,sz,b))(e:sz≠0):
  Qp P w0 (Instr.fieldAt t (.pointer (some (Q5 A (i*k+o)))) j) (.pointer (some (Q5 A (i*k+(o+off))))):=by
 rw[<- Sf];exact Qab c d h e
theorem B0{i o:Nat}{v:y9}(g:Yw P t=some ti)(h:ti.k.agg=false)(b:RdK w0 A n k f)(a:i<n)(c:o<k)(d:(f i)[o]?=some v):
  Qp P w0 (Instr.loadAt t (.pointer (some (Q5 A (i*k+o))))) v:=λW e=>by
 have j:W.cell? (Q5 A (i*k+o))=some v:=Lj e ((b.adr_ a c).trans d);simp_all[Instr.loadAt,Instr.sureAddr,loadVar,SN]
theorem CS{i o:Nat}(d:Yw P t=some ti)(p:ti.k.agg=true)(e:RdK w0 A n k f)(a:i<n)(g:l.length=ti.size)(u:o+ti.size<=k)(q:((f i).drop o).take ti.size=l):
  Qp P w0 (Instr.loadAt t (.pointer (some (Q5 A (i*k+o))))) (.agg l.toArray):=λW r=>by
 have h:=run_loadCells_list (P:=P) W (Q5 A (i*k+o)) l (λj v c=>by
  have s:j<ti.size:=by rw[<- g];exact(xU.1 c).1
  have m:=e.adr_ a (show o+j<k by omega);rw[<- q,b9 s,List.getElem?_drop]at c;rw[c]at m;have w:=Lj r m;obtain⟨b,off,rfl,_⟩:=e x3
  grind[Q5,add_plain])
 rw[g]at h;simp[Instr.loadAt,Instr.sureAddr,loadVar,SN d,p,EZ d,h]
end
def bt(s:xM)(i:Nat):Nat:=(s.data.toList.getD i 0).toNat
variable{P:xO}
theorem QbA{t:o0}(s:xM)(a:P.underlying t=some .string)(i:Nat)(h:i<s.size)(W:xH):(Instr.index t (.string s) (.int .i64 (i:Int))).run P W=.ok (.int .u8 (bt s i:Nat)) W:=by
 rw[Bk s a .i64 (i:Int) i rfl h]
 grind[bt]
def By(a b:xM):Bool:=Op.bytesLess a.toList b.toList
def wM(W:World)(x y:Operand)(a b:ByteArray):Qp prog W (do eqGuard .geq 9 x y (.string a) (.string b);binOp .geq 9 (.string a) (.string b)) (.bool (!By a b)):=λc _=>by
 simp[go_sem,By]
def wP(W:World)(x y:Operand)(a b:ByteArray):Qp prog W (do eqGuard .lss 9 x y (.string a) (.string b);binOp .lss 9 (.string a) (.string b)) (.bool (By a b)):=λc _=>by
 simp[go_sem,By]
def bz(W:xH)(s:xM)(i:Nat)(h:i<s.size):Qp prog W (Instr.index 9 (.string s) (.int .i64 (i:Int))) (.int .u8 (bt s i:Nat)):=λa _=>QbA s Tryz.underlying9 i h a
theorem QD(n:Nat)(h:n<=4611686018427387904):IntKind.i64.wrap ((n:Int)+1)=((n+1:Nat):Int):=by grind[Le]
theorem Qcd{n:Nat}(h:n<=4611686018427387904)(a:0<n):IntKind.i64.wrap ((n:Int)-1)=((n-1:Nat):Int):=by grind[Le]
section
variable{P:xO}{w0:xH}{t bt':o0}{ti:TI}{g o:Nat}{cs:List y9}
def D9{v:y9}(a:Yw P t=some ti)(b:ti.k.agg=false)(c:Bx w0 g bt' cs.toArray)(d:cs[o]?=some v):
 Qp P w0 (Instr.loadAt t (.pointer (some ⟨g,o,none⟩))) v:=λW e=>Ez a b (c.later e) d
def di(a:Yw P t=some ti)(b:ti.k.agg=true)(c:Bx w0 g bt' cs.toArray)(d:o+ti.size<=cs.length):
 Qp P w0 (Instr.loadAt t (.pointer (some ⟨g,o,none⟩))) (.agg ((cs.drop o).take ti.size).toArray):=λW e=>MB a b (c.later e) d
end
def C8(W:World)(x y:Operand)(a b:Bool):Qp prog W (do eqGuard .neq 4 x y (.bool a) (.bool b);binOp .neq 4 (.bool a) (.bool b)) (.bool (a != b)):=λc _=>by
 simp[go_sem];cases a<;>cases b<;>rfl
variable{w0:xH}{R:y9}
def UW{f:FuncId}{t:o0}{cs:x0g}{args:Nat->x0g}(a:Xt prog f)(h:∀W,Below w0.heap.size w0 W->∀g,Bx W g t cs->RetAt prog W f (args g) R):Xt prog f/\∀W,Below w0.heap.size w0 W->∀g,Bx W g t cs->xP prog f (args g) W R:=⟨a,λW c g d=>(h W c g d).at⟩
def XQ(n:Nat)(f:Nat->Bool):Bool:=(List.range n).any f
variable{f:Nat->Bool}
theorem Kf{n:Nat}(h:∀j,j<n->f j=false):XQ n f=false:=by
 grind[XQ]
theorem ZG{n:Nat}(a:k<n)(h:f k=true):XQ n f=true:=List.any_eq_true.2 ⟨k,R7.2 a,h⟩
theorem anyB_iff{n:Nat}:XQ n f=true↔∃j,j<n/\f j=true:=by
 simp[XQ]
theorem jY(f:Nat->Bool)(h:∀j,j<k->f j=false)(a:f k=false):∀j,j<k+1->f j=false:=by grind
section
variable{w0:xH}{A:xN}{n c k:Nat}{f:Nat->List y9}{g:Nat}{T:o0}{cs:List y9}
def CR(c:Nat)(a:RdK w0 A n k f)(i:Nat)(h:i<n):Qp prog w0 (Instr.indexAt 23 (.slice A n c) (.int .i64 (i:Int))) (.pointer (some (Q5 A (i*6+0)))):=Kr 6 (Qm 23 _ rfl) rfl x4 a h
def Zy(c:Nat)(a:RdK w0 A n k f)(i:Nat)(h:i<n):Qp prog w0 (Instr.indexAt 25 (.slice A n c) (.int .i64 (i:Int))) (.pointer (some (Q5 A (i*1+0)))):=Kr 1 (Qm 25 _ rfl) rfl x4 a h
def Es(c:Nat)(a:RdK w0 A n k f)(i:Nat)(h:i<n):Qp prog w0 (Instr.indexAt 52 (.slice A n c) (.int .i64 (i:Int))) (.pointer (some (Q5 A (i*3+0)))):=Kr 3 (Qm 52 _ rfl) rfl x4 a h
def Gi(c:Nat)(w0:xH)(a:RdK w0 A n k f)(i:Nat)(h:i<n):Qp prog w0 (Instr.indexAt 43 (.slice A n c) (.int .i64 (i:Int))) (.pointer (some (Q5 A (i*3+0)))):=Kr 3 (Qm 43 _ rfl) rfl x4 a h
def J5(c:Nat)(a:RdK w0 A n k f)(i:Nat)(h:i<n):Qp prog w0 (Instr.indexAt 28 (.slice A n c) (.int .i64 (i:Int))) (.pointer (some (Q5 A (i*2+0)))):=Kr 2 (Qm 28 _ rfl) rfl x4 a h
def J4(c:Nat)(a:RdK w0 A n k f)(i:Nat)(h:i<n):Qp prog w0 (Instr.indexAt 33 (.slice A n c) (.int .i64 (i:Int))) (.pointer (some (Q5 A (i*6+0)))):=Kr 6 (Qm 33 _ rfl) rfl x4 a h
def Y0(c:Nat)(a:RdK w0 A n k f)(i:Nat)(h:i<n):Qp prog w0 (Instr.indexAt 45 (.slice A n c) (.int .i64 (i:Int))) (.pointer (some (Q5 A (i*4+0)))):=Kr 4 (Qm 45 _ rfl) rfl x4 a h
def Bb(c:Nat)(a:RdK w0 A n k f)(i:Nat)(h:i<n):Qp prog w0 (Instr.indexAt 165 (.slice A n c) (.int .i64 (i:Int))) (.pointer (some (Q5 A (i*1+0)))):=Kr 1 (Qm 165 _ rfl) rfl x4 a h
def uk(a:RdK w0 A n k f){i:Nat}(h:i<n):Qp prog w0 (Instr.indexAt 238 (.slice A n c) (.int .i64 (i:Int))) (.pointer (some (Q5 A (i*1+0)))):=Kr 1 (Qm 238 _ rfl) rfl x4 a h
def Fw(w0:xH)(c:Nat)(a:RdK w0 A n k f)(i:Nat)(h:i<n):Qp prog w0 (Instr.indexAt 81 (.slice A n c) (.int .i64 (i:Int))) (.pointer (some (Q5 A (i*1+0)))):=Kr 1 (Qm 81 _ rfl) rfl x4 a h
def Fv(c:Nat)(a:RdK w0 A n k f)(i:Nat)(h:i<n):Qp prog w0 (Instr.indexAt 197 (.slice A n c) (.int .i64 (i:Int))) (.pointer (some (Q5 A (i*1+0)))):=Kr 1 (Qm 197 _ rfl) rfl x4 a h
def jO{i o:Nat}:Qp prog w0 (Instr.fieldAt 66 (.pointer (some (Q5 A (i*k+o)))) 0) (.pointer (some (Q5 A (i*k+(o+0))))):=Jk 3 (Qm 66 _ rfl) rfl rfl x4
def jP{i o:Nat}:Qp prog w0 (Instr.fieldAt 66 (.pointer (some (Q5 A (i*k+o)))) 1) (.pointer (some (Q5 A (i*k+(o+3))))):=Jk 3 (Qm 66 _ rfl) rfl rfl x4
def jQ{i o:Nat}:Qp prog w0 (Instr.fieldAt 51 (.pointer (some (Q5 A (i*k+o)))) 0) (.pointer (some (Q5 A (i*k+(o+0))))):=Jk 1 (Qm 51 _ rfl) rfl rfl x4
def P6{i o:Nat}:Qp prog w0 (Instr.fieldAt 47 (.pointer (some (Q5 A (i*k+o)))) 0) (.pointer (some (Q5 A (i*k+(o+0))))):=Jk 1 (Qm 47 _ rfl) rfl rfl x4
def AM(w0:xH)(A:xN)(k:Nat)(i o:Nat):Qp prog w0 (Instr.fieldAt 47 (.pointer (some (Q5 A (i*k+o)))) 1) (.pointer (some (Q5 A (i*k+(o+1))))):=Jk 1 (Qm 47 _ rfl) rfl rfl x4
def jL(w0:xH)(A:xN)(k:Nat)(i o:Nat):Qp prog w0 (Instr.fieldAt 49 (.pointer (some (Q5 A (i*k+o)))) 0) (.pointer (some (Q5 A (i*k+(o+0))))):=Jk 1 (Qm 49 _ rfl) rfl rfl x4
def jM(w0:xH)(A:xN)(k:Nat)(i o:Nat):Qp prog w0 (Instr.fieldAt 49 (.pointer (some (Q5 A (i*k+o)))) 1) (.pointer (some (Q5 A (i*k+(o+1))))):=Jk 3 (Qm 49 _ rfl) rfl rfl x4
def jN(w0:xH)(A:xN)(k:Nat)(i o:Nat):Qp prog w0 (Instr.fieldAt 49 (.pointer (some (Q5 A (i*k+o)))) 2) (.pointer (some (Q5 A (i*k+(o+4))))):=Jk 2 (Qm 49 _ rfl) rfl rfl x4
def JW(b:RdK w0 A n k f)(i o:Nat)(a:i<n)(c:o+3<=k)(d:l.length=3)(e:((f i).drop o).take 3=l):Qp prog w0 (Instr.loadAt 32 (.pointer (some (Q5 A (i*k+o))))) (.agg l.toArray):=CS (Qm 32 _ rfl) rfl b a d c e
def nU{o:Nat}(a:Bx w0 g T cs.toArray)(b:o+3<=cs.length):Qp prog w0 (Instr.loadAt 32 (.pointer (some ⟨g,o,none⟩))) (.agg ((cs.drop o).take 3).toArray):=di (Qm 32 _ rfl) rfl a b
def Eu(b:RdK w0 A n k f)(i o:Nat)(a:i<n)(c:o+6<=k)(d:l.length=6)(e:((f i).drop o).take 6=l):Qp prog w0 (Instr.loadAt 66 (.pointer (some (Q5 A (i*k+o))))) (.agg l.toArray):=CS (Qm 66 _ rfl) rfl b a d c e
def ZE(b:RdK w0 A n k f)(i o:Nat)(a:i<n)(c:o+4<=k)(d:l.length=4)(e:((f i).drop o).take 4=l):Qp prog w0 (Instr.loadAt 51 (.pointer (some (Q5 A (i*k+o))))) (.agg l.toArray):=CS (Qm 51 _ rfl) rfl b a d c e
def D8(b:RdK w0 A n k f)(i o:Nat)(a:i<n)(c:o+2<=k)(d:l.length=2)(e:((f i).drop o).take 2=l):Qp prog w0 (Instr.loadAt 47 (.pointer (some (Q5 A (i*k+o))))) (.agg l.toArray):=CS (Qm 47 _ rfl) rfl b a d c e
def D7(b:RdK w0 A n k f)(i o:Nat)(a:i<n)(c:o+6<=k)(d:l.length=6)(e:((f i).drop o).take 6=l):Qp prog w0 (Instr.loadAt 49 (.pointer (some (Q5 A (i*k+o))))) (.agg l.toArray):=CS (Qm 49 _ rfl) rfl b a d c e
def dh{o:Nat}(a:Bx w0 g T cs.toArray)(b:o+14<=cs.length):Qp prog w0 (Instr.loadAt 35 (.pointer (some ⟨g,o,none⟩))) (.agg ((cs.drop o).take 14).toArray):=di (Qm 35 _ rfl) rfl a b
def dg{o:Nat}(a:Bx w0 g T cs.toArray){v:y9}(b:cs[o]?=some v):Qp prog w0 (Instr.loadAt 23 (.pointer (some ⟨g,o,none⟩))) v:=D9 (Qm 23 _ rfl) rfl a b
def GU{o:Nat}(a:Bx w0 g T cs.toArray){v:y9}(b:cs[o]?=some v):Qp prog w0 (Instr.loadAt 25 (.pointer (some ⟨g,o,none⟩))) v:=D9 (Qm 25 _ rfl) rfl a b
def J6(b:RdK w0 A n k f)(i o:Nat)(a:i<n)(c:o<k){v:y9}(d:(f i)[o]?=some v):Qp prog w0 (Instr.loadAt 52 (.pointer (some (Q5 A (i*k+o))))) v:=B0 (Qm 52 _ rfl) rfl b a c d
def Ew(b:RdK w0 A n k f)(i o:Nat)(a:i<n)(c:o<k){v:y9}(d:(f i)[o]?=some v):Qp prog w0 (Instr.loadAt 43 (.pointer (some (Q5 A (i*k+o))))) v:=B0 (Qm 43 _ rfl) rfl b a c d
def Mw(b:RdK w0 A n k f)(i o:Nat)(a:i<n)(c:o<k){v:y9}(d:(f i)[o]?=some v):Qp prog w0 (Instr.loadAt 28 (.pointer (some (Q5 A (i*k+o))))) v:=B0 (Qm 28 _ rfl) rfl b a c d
def J7{o:Nat}(a:Bx w0 g T cs.toArray){v:y9}(b:cs[o]?=some v):Qp prog w0 (Instr.loadAt 28 (.pointer (some ⟨g,o,none⟩))) v:=D9 (Qm 28 _ rfl) rfl a b
def Ey{o:Nat}(a:Bx w0 g T cs.toArray){v:y9}(b:cs[o]?=some v):Qp prog w0 (Instr.loadAt 33 (.pointer (some ⟨g,o,none⟩))) v:=D9 (Qm 33 _ rfl) rfl a b
def Ev(w0:xH)(b:RdK w0 A n k f)(i o:Nat)(a:i<n)(c:o<k){v:y9}(d:(f i)[o]?=some v):Qp prog w0 (Instr.loadAt 45 (.pointer (some (Q5 A (i*k+o))))) v:=B0 (Qm 45 _ rfl) rfl b a c d
def Oz(w0:xH)(b:RdK w0 A n k f)(i o:Nat)(a:i<n)(c:o<k){v:y9}(d:(f i)[o]?=some v):Qp prog w0 (Instr.loadAt 81 (.pointer (some (Q5 A (i*k+o))))) v:=B0 (Qm 81 _ rfl) rfl b a c d
def BZ(b:RdK w0 A n k f)(i o:Nat)(a:i<n)(c:o<k){v:y9}(d:(f i)[o]?=some v):Qp prog w0 (Instr.loadAt 3 (.pointer (some (Q5 A (i*k+o))))) v:=B0 (Qm 3 _ rfl) rfl b a c d
def Ze(o:Nat)(a:Bx w0 g T cs.toArray){v:y9}(b:cs[o]?=some v):Qp prog w0 (Instr.loadAt 3 (.pointer (some ⟨g,o,none⟩))) v:=D9 (Qm 3 _ rfl) rfl a b
def AT(b:RdK w0 A n k f)(i o:Nat)(a:i<n)(c:o<k){v:y9}(d:(f i)[o]?=some v):Qp prog w0 (Instr.loadAt 9 (.pointer (some (Q5 A (i*k+o))))) v:=B0 (Qm 9 _ rfl) rfl b a c d
def OX(w0:xH)(o:Nat)(a:Bx w0 g T cs.toArray){v:y9}(b:cs[o]?=some v):Qp prog w0 (Instr.loadAt 4 (.pointer (some ⟨g,o,none⟩))) v:=D9 (Qm 4 _ rfl) rfl a b
def nM(b:RdK w0 A n k f){i o:Nat}(a:i<n)(c:o<k){v:y9}(d:(f i)[o]?=some v):Qp prog w0 (Instr.loadAt 5 (.pointer (some (Q5 A (i*k+o))))) v:=B0 (Qm 5 _ rfl) rfl b a c d
end
def nv(x:Nm):Dyadic:=dy (Qe x.b (Qa x.s)) x.e
def sg(x:Nm):Int:=GP (nv x)
def Ks(x:Nm):Bool:=(neg (dm (nv x))==x.b&&(QJ (dm (nv x))).toList==x.s.toList)&&de (nv x)==x.e
structure okN (x:Nm):Prop where
 sz:x.s.size<=16384
 lo:-70000<=x.e
 hi:x.e<=70000
structure okS (x:Nm):Prop where
 sz:x.s.size<=20
 lo:-200<=x.e
 hi:x.e<=200
def Bp:Tm:=⟨⟨#[]⟩,nm0⟩
def NU:Py:=⟨0,[]⟩
def Eh:Nd:=⟨0,nm0,NU⟩
def Qb(l:List Tm)(k:Nat):Tm:=l.getD k Bp
def Xm(l:List Nm)(k:Nat):Nm:=l.getD k nm0
def QN(l:List (Nm×Nm))(k:Nat):Nm×Nm:=l.getD k (nm0,nm0)
def Qu(l:List (List Nm))(k:Nat):List Nm:=l.getD k []
def QM(l:List Py)(k:Nat):Py:=l.getD k NU
def Qn(l:List Nd)(k:Nat):Nd:=l.getD k Eh
def ZN(m:xM)(vars:Int):Bool:=bif XQ m.size (λj=>decide ((bt m j:Int)>127))then false else((m.size:Int)==vars)
def CI(vars:Int)(l:List Tm)(k:Nat):Bool:=((!ZN (Qb l k).m vars||sg (Qb l k).c==0)||!Ks (Qb l k).c)||(decide ((k:Int)>0)&&!By (Qb l (k-1)).m (Qb l k).m)
def K9(p:Py):Int:=if 0<=p.vars/\p.vars<=12 then(if 4096<p.ts.length then 3 else if XQ p.ts.length (CI p.vars p.ts)then 1 else 0)else 1
abbrev be(l:List Nd)(U:Nat->xN)(u:Nat->Nat)(j:Nat):o3:=[.int .i64 (Qn l j).split,.bool (Qn l j).ο.b,.string (Qn l j).ο.s,.int .i64 (Qn l j).ο.e,.int .i64 (Qn l j).sum.vars,.slice (U j) (Qn l j).sum.ts.length (u j)]
abbrev sC(l:List Nd)(U:Nat->xN)(n u:Nat->Nat)(j:Nat):o3:=[.int .i64 (Qn l j).split,.bool (Qn l j).ο.b,.string (Qn l j).ο.s,.int .i64 (Qn l j).ο.e,.int .i64 (Qn l j).sum.vars,.slice (U j) (n j) (u j)]
abbrev gS(l:List Nd)(v:Nat->y9)(j:Nat):o3:=[.int .i64 (Qn l j).split,.bool (Qn l j).ο.b,.string (Qn l j).ο.s,.int .i64 (Qn l j).ο.e,.int .i64 (Qn l j).sum.vars,v j]
abbrev X7(l:List Py)(U:Nat->xN)(u:Nat->Nat)(j:Nat):o3:=[.int .i64 (QM l j).vars,.slice (U j) (QM l j).ts.length (u j)]
abbrev yz(l:List Py)(v:Nat->y9)(j:Nat):o3:=[.int .i64 (QM l j).vars,v j]
abbrev yx(l:List (List Nm))(U:Nat->xN)(u:Nat->Nat)(j:Nat):o3:=[.slice (U j) (Qu l j).length (u j)]
theorem Yh{l:List Tm}(h:k<l.length):Qb l k∈l:=by
 grind[Qb]
theorem KU{l:List Nm}(h:k<l.length):Xm l k∈l:=by
 grind[Xm]
theorem ET{l:List (Nm×Nm)}(h:k<l.length):QN l k∈l:=by
 grind[QN]
theorem VK{l:List Py}(h:k<l.length):QM l k∈l:=by
 grind[QM]
theorem DK{l:List Nd}(h:k<l.length):Qn l k∈l:=by
 grind[Qn]
variable{l:List (List Nm)}
theorem Ka(h:k<l.length):Qu l k∈l:=by
 grind[Qu]
variable{α:Type}{v:y9}
theorem SlV.rd{o:Nat}{p:Rdg α}{l:List α}(h:SlV o k p w l v):
  ∃A c f,v=.slice A l.length c/\l.length<=c/\(A=none->l.length=0/\c=0)/\RdK w A l.length k f/\∀i (a:i<l.length),(f i).length=k/\p w l[i] (f i):=by
 let⟨A,c,d,g,m,q⟩:=h;by_cases n:0<l.length
 ·let⟨b,off,e,_,s⟩:=q n;have key:∀i,∃cs:o3,∀(a:i<l.length),cs.length=k/\p w l[i] cs/\∀j,j<k->w.cell? ⟨b,off+i*k+j,none⟩=cs[j]?:=λi=>by
   grind
  refine⟨A,c,λi=>Classical.choose (key i),d,g,m,λ_=>⟨b,off,e,λj r i a=>(Lq (key j) r).2.2 i a⟩,λi a=>⟨(Lq (key i) a).1,(Lq (key i) a).2.1⟩⟩
 ·exact⟨A,c,λ_=>[],d,g,m,λh=>absurd h n,λi a=>absurd a x3⟩
theorem RdK.congr{A:xN}{n:Nat}{f g:Nat->o3}(h:RdK w A n k f)(c:∀j,j<n->f j=g j):RdK w A n k g:=λa=>by
 let⟨b,off,e,d⟩:=h a
 grind
theorem Yi{l:List α}{d:α}(h:k<l.length):l.getD k d=l[k]:=by grind
def SlV.enc{α:Type}{b k:Nat}{enc:α->o3}{w:xH}{l:List α}{v:y9}(d:α)(h:SlV b k (λ_ x cs=>cs=enc x) w l v):
  ∃A c,v=.slice A l.length c/\l.length<=c/\(A=none->l.length=0/\c=0)/\RdK w A l.length k (λj=>enc (l.getD j d)):=by
 let⟨A,c,f,e,g,i,m,n⟩:=h.rd;exact⟨A,c,e,g,i,m.congr λj a=>by rw[(n j a).2,Yi a]⟩
theorem SlV.rdPy{l:List Py}(h:SlV a 2 (dX a) w l v):
  ∃(A:xN) (c:Nat) (d:Nat->y9),v=.slice A l.length c/\l.length<=c/\(A=none->l.length=0/\c=0)/\RdK w A l.length 2 (λj=>[.int .i64 (QM l j).vars,d j])/\∀j,j<l.length->SlV a 4 Ye w (QM l j).ts (d j):=by
 let⟨A,c,f,g,k,m,n,o⟩:=h.rd;have key:∀i,∃u:y9,i<l.length->f i=[.int .i64 (QM l i).vars,u]/\SlV a 4 Ye w (QM l i).ts u:=λi=>by
  by_cases e:i<l.length
  ·let⟨_,u,p,q⟩:=o i e
   grind[QM]
  ·exact⟨undef,λh=>absurd h e⟩
 exact⟨A,c,λi=>Classical.choose (key i),g,k,m,n.congr λj b=>(Lq (key j) b).1,λj b=>(Lq (key j) b).2⟩
theorem SlV.rdNd{l:List Nd}(h:SlV a 6 (lu a) w l v):
  ∃(A:xN) (c:Nat) (g:Nat->y9),v=.slice A l.length c/\l.length<=c/\(A=none->l.length=0/\c=0)/\RdK w A l.length 6 (λj=>[.int .i64 (Qn l j).split,.bool (Qn l j).ο.b,.string (Qn l j).ο.s,.int .i64 (Qn l j).ο.e,.int .i64 (Qn l j).sum.vars,g j])/\∀j,j<l.length->SlV a 4 Ye w (Qn l j).sum.ts (g j):=by
 let⟨A,c,f,m,n,o,p,q⟩:=h.rd;have key:∀i,∃u:y9,i<l.length->f i=[.int .i64 (Qn l i).split,.bool (Qn l i).ο.b,.string (Qn l i).ο.s,.int .i64 (Qn l i).ο.e,.int .i64 (Qn l i).sum.vars,u]/\SlV a 4 Ye w (Qn l i).sum.ts u:=λi=>by
  by_cases k:i<l.length
  ·let⟨_,u,r,t⟩:=q i k
   grind[Qn]
  ·exact⟨undef,λh=>absurd h k⟩
 exact⟨A,c,λi=>Classical.choose (key i),m,n,o,p.congr λj d=>(Lq (key j) d).1,λj d=>(Lq (key j) d).2⟩
theorem SlV.rdPt(h:SlV a 1 (kz a) w l v):
  ∃(A:xN) (c:Nat) (d:Nat->y9),v=.slice A l.length c/\l.length<=c/\(A=none->l.length=0/\c=0)/\RdK w A l.length 1 (λj=>[d j])/\∀j,j<l.length->SlV a 3 VT w (Qu l j) (d j):=by
 let⟨A,c,f,g,k,m,n,o⟩:=h.rd;have key:∀i,∃u:y9,i<l.length->f i=[u]/\SlV a 3 VT w (Qu l i) u:=λi=>by
  by_cases e:i<l.length
  ·let⟨_,u,p,q⟩:=o i e
   grind[Qu]
  ·exact⟨undef,λh=>absurd h e⟩
 exact⟨A,c,λi=>Classical.choose (key i),g,k,m,n.congr λj b=>(Lq (key j) b).1,λj b=>(Lq (key j) b).2⟩
def Mf(l:List (Nm×Nm))(k:Nat):Bool:=decide (GP (nv (QN l k).1-nv (QN l k).2)>=0)
def Xc(l:List (Nm×Nm)):Int:=if XQ l.length (Mf l)then 5 else if l.length=0 then 1 else 0
def ZX(n:Nat)(f:Nat->Bool):Int:=match (List.range n).find? f with|some k=>(k:Int)|none=>-1
theorem VD{n:Nat}(f:Nat->Bool)(h:∀j,j<k->f j=false)(b:k<n)(c:f k=true):ZX n f=(k:Int):=by
 have a:(List.range n).find? f=some k:=by
  simp_all
 unfold ZX;rw[a]
theorem Gg{n:Nat}(f:Nat->Bool)(h:∀j,j<n->f j=false):ZX n f=-1:=by
 grind[ZX]
theorem DG(n:Nat)(f:Nat->Bool):decide (ZX n f>=0)=XQ n f:=by
 by_cases h:∃j,j<n/\f j=true;all_goals grind[anyB_iff,ZX]
structure okP (p:Py):Prop where
 len:p.ts.length<=4294967296
 tms:∀t,t∈p.ts->t.m.size<=1048576/\okN t.c
def Yo(η:Int)(p:Py):Bool:=K9 p != 0||p.vars != η
def Xb(η:Int)(x:List Nm):Bool:=(x.length:Int) != η
def lr(x:Nm):Bool:=(x.b==false&&x.s.toList==(⟨#[]⟩:xM).toList)&&x.e==0
def Zm(η:Int)(x:Nd):Bool:=if(x.split != 0)=true then((x.split != 1||!lr x.ο)||x.sum.vars != 0)||decide ((x.sum.ts.length:Int)>0)else K9 x.sum != 0||x.sum.vars != η
def QY(δ vars:Int):Int:=if δ<1\/7<=δ\/vars<1 then 0 else if δ=5 then vars else if δ=2 then 2 else 1
def G3(x:Nm):Bool:=decide (sg x>0)
def Zd(s r c:Bool)(d b:Nm)(e:Nat)(a:Int)(f:Nat):Bool :=
 bif (s != G3 d)||(!s&&!lr d)then false else
 bif (r != G3 b)||(!r&&(!lr b||decide ((e:Int)>0)))then false else
 bif (s&&decide (a<1))||(!s&&a != 0)then false else
 c==decide ((f:Int)>0)
def Kt(nb a:Nat):Int:=bif decide ((nb:Int)>0)then 2*(nb:Int)else(a:Int)
def GR(nb:Nat)(a:List (List Nm))(vars:Int)(b:Bool):Bool :=
 bif decide ((nb:Int)>0)||b then((nb:Int)==vars)&&((a.length:Int)==0)else((a.length:Int)==vars+1)&&!XQ a.length λj=>Xb vars (Qu a j)
def OwnR.one(w:xH)(base:Nat)(e:o0)(u:y9)(a:base<=w.heap.size):OwnR (w.alloc (.cells #[u] e)) base e (.slice (some ⟨w.heap.size,0,none⟩) 1 1) 1 (λ_=>u) :=
 ⟨x6,.inr ⟨w.heap.size,1,#[u],rfl,a,heap_alloc_new w _,L4 _,by unfold maxLen;omega,rfl,rfl⟩⟩
section
variable{P:xO}{w:xH}{ops:Array Oper}{rest:List Oper}{o:Oper}{a:Act}{Q:Exit->Act->xH->Prop}
def G0(y:o.guard=none)(s x:x0h)(t:o0)(J:o.op=.call { callee:=.builtin .append,args:=#[s,x],argTypes:=#[t,t] })(base:Nat)(e:o0)(z:y9)(bytes:Nat)(K:P.underlying t=some (.slice e))(q:(P.info? e).map (λi=>(i.zero,i.size,i.bytes))=some (some z,1,bytes))(D:z.cells.size=1)(v:y9)(n:Nat)(f:Nat->y9)(A:xN)(m c:Nat)(h:Nat->y9)(L:a.eval s=v)(M:a.eval x=.slice A m c)(S:A=none->m=0/\c=0)(d:OwnR w base e v n f)(T:Rd w A m h)(U:∀j,(h j).oneCell'=true)(E:n+m<=maxLen)(p:(n+m)*bytes<=140737488355328)(g:base<=w.heap.size)(k:∀C u,OwnR u base e C (n+m) (λj=>if j<n then f j else h (j-n))->Below base w u->w.grownBy u v.ownBlock->wpList P ops Q rest (a.put o.dst C) u):
  wpList P ops Q (o::rest) a w:=by
 let⟨i,N,V,F,G⟩:=info_parts q;rcases A with _|W
 ·obtain⟨rfl,rfl⟩:=S rfl;refine wpList_append_own_none (P:=P) y s x t J base e i 1 K N v n ((List.range n).map f) L d M ?_
  refine k v w ?_ (p5 _ _) (World.grownBy.refl _ _)
  exact d.congr λj r=>by rw[if_pos r]
 ·refine wpList_append_own (P:=P) _ y s x t J base e i z 1 bytes K N V F G D x4 v n ((List.range n).map f) L d W m c ((List.range m).map h) M x6 ?_ ?_ E p g ?_
  ·intro j O r;by_cases H:j<m
   ·let⟨b,off,B,X⟩:=T x3;injection B with B
    subst B;have:O=h j:=by simp[H]at r;exact r.symm
    subst this;rw[add_plain];exact X j H
   ·simp[H]at r
  ·intro O I;obtain⟨j,_,rfl⟩:=Lv.1 I;exact U j
  ·intro C u l R _;have B:((List.range n).map f)++((List.range m).map h)=(List.range (n+m)).map (λj=>if j<n then f j else h (j-n)):=by
    rw[List.range_add,Rv,List.map_map];congr 1
    ·exact S6 λj r=>by
      have:j<n:=l3 r;rw[if_pos this]
    ·exact S6 λj _=>by
      show h j=if n+j<n then f (n+j)else h (n+j-n)
      rw[if_neg x3,Sq]
   rw[B]at l;exact k C u l ((p5 _ _).grown R g (λk Y=>(d.lt k Y).1)) R
end
def gD(u v q:Nat)(a:0<v):
  2*(u / 2^(q+1) % v)+QG 2 u q<2*v /\
  (2*(u / 2^(q+1) % v)+QG 2 u q<v->u / 2^q % v=2*(u / 2^(q+1) % v)+QG 2 u q/\QG 2 (u / v) q=0) /\
  (v<=2*(u / 2^(q+1) % v)+QG 2 u q->u / 2^q % v=2*(u / 2^(q+1) % v)+QG 2 u q-v/\QG 2 (u / v) q=1):=by
 have b:u / 2^q=2*(u / 2^(q+1))+QG 2 u q:=by
  have h:=Tc (u / 2^q) 2;rw[Rk,<- R8]at h;exact h.symm
 have c:QG 2 (u / v) q=u / 2^q / v % 2:=by
  unfold QG;rw[Rk,Ls,<- Rk]
 have g:QG 2 u q<2:=YO x4 _ _;have e:=Tc (u / 2^(q+1)) v;have i:=Re (u / 2^(q+1)) a;rw[c];generalize u / 2^(q+1) % v=r at *;generalize u / 2^(q+1) / v=t at *;generalize QG 2 u q=d at *;have f:u / 2^q=(2*r+d)+v*(2*t):=by
  rw[b,<- e,Rp,Nat.mul_left_comm];omega
 rw[f];refine⟨x3,λh=>?_,λh=>?_⟩
 ·rw[V5,Rc h,Ss _ _ a,Sg h];exact⟨rfl,x3⟩
 ·rw[V5,Nat.mod_eq_sub_mod h,Rc x3,Ss _ _ a,Nat.div_eq_sub_div a h,Sg x3];exact⟨rfl,x3⟩
def I5(r d j:Nat)(a:d<2):QG 2 (2*r+d) j=if j<1 then d else QG 2 r (j-1):=by
 by_cases h:j<1
 ·obtain rfl:j=0:=x3;rw[if_pos h];unfold QG;rw[Tx,Vf];omega
 ·rw[if_neg h];obtain⟨i,rfl⟩:∃i,j=1+i:=⟨j-1,x3⟩
  rw[Sq];unfold QG;rw[Lz,<- Rk,Tu];congr 2;omega
variable{e bytes:Nat}{S:Nat->Prop}
section
variable{P:xO}{w0:xH}{σ:St}
structure RowT (P:Program) (t t2:TypeId) (e:TypeId) (k bytes:Nat):Prop where
 ht:P.underlying t=some (.slice e)
 ht2:∃e2,P.underlying t2=some (.slice e2)
 hi:(P.info? e).map (λi=>(i.zero.map (·.cells.size),i.size,i.bytes))=some (some k,k,bytes)
 hk:0<k
 hb:0<bytes
theorem RowT.info{t c:Nat}(h:RowT P t c e k bytes):∃i z,P.info? e=some i/\i.zero=some z/\i.size=k/\i.bytes=bytes/\z.cells.size=k:=by
 have a:=h.hi;cases b:P.info? e with
 |none=>rw[b]at a;cases a
 |some i =>
  rw[b]at a;cases d:i.zero with
  |none=>simp[d]at a
  |some z =>
   grind
def Dw{t b c e f:o0}(g:P.underlying t=some (.slice e))(a:P.underlying b=some (.slice f))(A:xN)(n d:Nat)(x:y9)(w:xH):(Builtin.append_ #[t,b] c #[.slice A n d,x]).run P w=(Builtin.append_ #[t,t] c #[.slice A n d,x]).run P w:=by
 simp[Builtin.append_,run_underlying g,run_underlying a]
def BO(c:α->o3)(b:List α)(w:xH)(v:y9):Prop:=(∃a d,v=.slice (some a) b.length d/\∀j u,(b.flatMap c)[j]?=some u->w.cell? (a.add j)=some u)\/(v=.slice none 0 0/\b=[])
theorem Fa{t B e:o0}{i:TypeInfo}{z:y9}{size:Nat}{w E:xH}(F:P.underlying t=some (.slice e))(G:P.info? e=some i)(M:i.zero=some z)(h:i.size=size)(x:i.bytes=bytes)(H:z.cells.size=size)(I:0<size){C:y9}{n:Nat}{y:o3}(f:w.ownsRow 0 e size v n y){a:Addr}{m c:Nat}{d:o3}(J:d.length=m*size)(k:∀j u,d[j]?=some u->w.cell? (a.add j)=some u)(N:∀u∈d,u.oneCell'=true)(A:n+m<=maxLen)(l:(n+m)*bytes<=140737488355328)(o:(Builtin.append_ #[t,t] B #[v,.slice (some a) m c]).run P w=.ok C E):∀b,C.ownBlock=some b->v.ownBlock=some b\/b=w.heap.size\/w.heap.size<=b:=by
 intro b O;rcases f.2 with⟨rfl,rfl⟩|⟨g,cap,Q,rfl,R,X,S,T,U,K⟩
 ·have p:w.ownsRow w.heap.size e size (.slice none 0 0) 0 y:=⟨f.1,.inl ⟨rfl,rfl⟩⟩
  let⟨V,L,s,W,_⟩:=run_append_own (P:=P) w w.heap.size t B e i z size bytes F G M h x H I _ _ _ p a m c d J k N A l (L4 _);rw[o]at s;obtain⟨rfl,rfl⟩:C=V/\E=L:=by injection s with a b;exact⟨a,b⟩
  exact .inr (.inr (W.lt b O).1)
 ·by_cases q:n+m<=cap
  ·let⟨L,s,_⟩:=run_append_fits (P:=P) w 0 t B e i size F G h g n cap y f a m c d J k N q;rw[o]at s;obtain⟨rfl,rfl⟩:C=_/\E=L:=by injection s with a b;exact⟨a,b⟩
   exact .inl O
  ·subst h;subst x;have D:n+m<=9223372036854775807:=by simp only[maxLen]at A;omega
   have r:∀j u,y[j]?=some u->w.cell? ((⟨g,0,none⟩:Addr).add j)=some u:=f.cells (g:=g) rfl;have s:=run_append_grow (P:=P) w t B e i z F G M ⟨g,0,none⟩ n cap y f.1 r a m c d J k x3 x3 (growslice_fits x3 l)
   grind[Value.ownBlock]
def Ih{t N ty:Nat}{c:α->o3}{l d D:List α}{A:xN}{E:Nat}{u:y9}(n:RowT P t N e k bytes)(O:∀x,(c x).length=k)(Q:∀x u,u∈c x->u.oneCell'=true)(Z:l++d=D)(R:D.length*bytes<=140737488355328){W:xH}(v:BO c d W u){x:y9}(T:(Qc e k c l A E).φ x S W):Gc P W (λy:Hp=>.slice y.1 D.length y.2) (λy:Hp=>Qc e k c D y.1 y.2) x S (Zo .append #[t,N] ty [.slice A l.length E,u]):=by
 subst Z;let⟨w,z,G,U,V,X,Y⟩:=n.info;let⟨ag,B⟩:=n.ht2;let⟨H,f,r⟩:=(show _/\_/\_ from T)
 have C:(l.flatMap c++d.flatMap c)=(l++d).flatMap c:=x6;have i:l.length+d.length=(l++d).length:=x6;have p:(l++d).length<=maxLen:=by
  have I:=n.hb;have s:(l++d).length<=(l++d).length*bytes:=Rz _ I;simp only[maxLen];omega
 rcases v with⟨ad,J,K,j⟩|⟨K,e0⟩
 ·let⟨v',w',h,a,L,_⟩:=run_append_own (P:=P) W 0 t ty e w z k bytes n.ht G U V X Y n.hk _ _ _ f ad d.length J (d.flatMap c) (QT O d) j (λu M=>by
   let⟨x,_,v⟩:=Sa.1 M;exact Q x u v) (by rw[i];exact p) (by rw[i];exact R) (L7 _)
  rw[C,i]at a;obtain⟨F,o,rfl⟩:∃F o,v'=.slice F (l++d).length o:=by
   rcases a.2 with⟨rfl,e6⟩|⟨g,cap,ao,rfl,_⟩
   ·exact⟨none,0,by rw[e6]⟩
   ·exact⟨_,_,rfl⟩
  refine⟨(F,o),(λb=>(Value.slice F (l++d).length o).ownBlock=some b),w',?_,Trn.of_grown L λk hk=>(r k).2 hk,(show _/\_/\_ from⟨H,a,λb=>Iff.rfl⟩),λb m=>?_⟩
  ·simp only[Zo];rw[K,Dw n.ht B];exact h
  ·have I:=a.lt b m;refine⟨?_,I.2⟩;rcases Fa n.ht G U V X Y n.hk f (QT O d) j (λu M=>by
    let⟨x,_,v⟩:=Sa.1 M;exact Q x u v) (by rw[i];exact p) (by rw[i];exact R) h b m with s|s|s
   ·exact .inl ((r b).2 s)
   ·exact .inr (Su s.symm)
   ·exact .inr s
 ·subst e0;have h:=run_append_owned_none (P:=P) W 0 t ty e w k n.ht G (.slice A l.length E) l.length _ f;have q:l++[]=l:=Rq l;refine⟨(A,E),S,W,?_,Trn.refl _ _,?_,λb m=>⟨.inl m,?_⟩⟩
  ·simp only[Zo];rw[K,Dw n.ht B,q];exact h
  ·rw[q];exact T
  ·exact(f.lt b ((r b).1 m)).2
def Gf(w0:xH){t:Nat}(ty:Nat)(c:α->o3)(l l2 l':List α)(A:xN)(cp:Nat)(u:y9)(b:RowT P t a e k bytes)(d:∀x,(c x).length=k)(f:∀x u,u∈c x->u.oneCell'=true)(g:l++l2=l')(h:l'.length*bytes<=140737488355328)(i:∀W,Below w0.heap.size w0 W->BO c l2 W u):
  ∀W,Below w0.heap.size w0 W->∀x S,(Qc e k c l A cp).φ x S W->Gc P W (λy:Hp=>.slice y.1 l'.length y.2) (λy:Hp=>Qc e k c l' y.1 y.2) x S (Zo .append #[t,a] ty [.slice A l.length cp,u]) :=
 λW j x S m=>Ih b d f g h (i W j) m
theorem YJ(w0:xH){t:Nat}(ty:Nat)(bt m cp2:Nat)(c:α->o3)(l l2 l':List α)(A:xN)(cp:Nat)(cs:o3)(d:RowT P t b e k bytes)(f:∀x,(c x).length=k)(h:∀x u,u∈c x->u.oneCell'=true)(i:l++l2=l')(n:l'.length*bytes<=140737488355328)(o:m=l2.length)(a:cs=l2.flatMap c):
  ∀W,Below w0.heap.size w0 W->∀g,Bx W g bt cs.toArray->∀x S,(Qc e k c l A cp).φ x S W->Gc P W (λy:Hp=>.slice y.1 l'.length y.2) (λy:Hp=>Qc e k c l' y.1 y.2) x S (Zo .append #[t,b] ty [.slice A l.length cp,.slice (some ⟨g,0,none⟩) m cp2]) :=
 λW _ g p x S q=>by
  subst o;refine Ih d f h i n (.inl ⟨⟨g,0,none⟩,cp2,rfl,λj u r=>?_⟩) q;rw[add_plain,Lm,p.cel,a]
  grind
end
theorem YZ{l:List α}{d:α}(h:k<l.length):l.getD k d=l[k]:=by grind
def Xx(x:Nm):(Xk x).length=3:=rfl
def Q4(x:Tm):(QK x).length=4:=rfl
def iy(x:Nm×Nm):(JR x).length=6:=rfl
def Gn(x:Nm)(u:y9)(h:u∈Xk x):u.oneCell'=true:=by
 simp only[Xk,Lb,Ri,or_false]at h;rcases h with rfl|rfl|rfl<;>rfl
def K2(x:Tm)(u:y9)(h:u∈QK x):u.oneCell'=true:=by
 simp only[QK,Lb,Ri,or_false]at h;rcases h with rfl|rfl|rfl|rfl<;>rfl
def wH(x:Nm×Nm)(u:y9)(h:u∈JR x):u.oneCell'=true:=by
 simp only[JR,Lb,Ri,or_false]at h;rcases h with rfl|rfl|rfl|rfl|rfl|rfl<;>rfl
variable{β:Type}
theorem tk(f:α->List β){l:List α}(d:α)(h:k<l.length)(pre:List β):(pre++(l.take k).flatMap f)++f (l.getD k d)=pre++(l.take (k+1)).flatMap f:=by
 rw[Rl]
 grind[Rj]
def Jg(f:α->List β){l:List α}(h:l.length<=k)(pre:List β):pre++(l.take k).flatMap f=pre++l.flatMap f:=by rw[Rh h]
variable{f:FuncId}{i:Nat}
section
variable{P:xO}{w0:xH}{σ:St}
def GM{c:α->o3}(n:∀x,(c x).length=k)(o:0<k)(d:α){l2:List α}{A:xN}{w:xH}(h:RdK w A l2.length k (λj=>c (l2.getD j d)))(r:A=none->l2.length=0/\i=0):BO c l2 w (.slice A l2.length i):=by
 cases A with
 |none =>
  obtain⟨s,rfl⟩:=r rfl;have e:l2=[]:=Ry s;subst e;exact .inr ⟨rfl,rfl⟩
 |some a =>
  refine .inl ⟨a,i,rfl,λj u l=>?_⟩;have m:j<l2.length*k:=by rw[<- QT n l2];exact(xU.1 l).1
  have p:j=j / k*k+j % k:=by rw[Ls];exact(Tc j k).symm
  have b:j / k<l2.length:=(Lr o).2 m;have f:j % k<k:=Re _ o;let⟨g,off,t,v⟩:=h (Lw (L7 _) b);obtain rfl:=o7 t;rw[p,Jv n b f]at l;have q:w.cell? ⟨g,off+j / k*k+j % k,none⟩=(c (l2.getD (j / k) d))[j % k]?:=v _ b _ f;rw[YZ b]at q;rw[add_plain,p,<- Sf,q];exact l
def JN{c:α->o3}{l:List α}{A:xN}{n:Nat}(o:∀x,(c x).length=k)(d:α){x:y9}{w:xH}(h:(Qc e k c l A n).φ x S w):RdK w A l.length k (λj=>c (l.getD j d)):=by
 let⟨_,h,_⟩:=(show _/\_/\_ from h)
 intro u;rcases h.2 with⟨b,v⟩|⟨g,cap,f,b,_,p,q,_,r,a⟩
 ·omega
 ·injection b with b _ _
  refine⟨g,0,b,λj m i s=>?_⟩;show _=(c (l.getD j d))[i]?;rw[Lm,cell_of_row w g (j*k+i) f e (0,0) p,<- Array.getElem?_toList,YZ m,<- Jv o m s,<- a,b9];have t:(j+1)*k<=l.length*k:=Lt _ x3;rw[Ru]at t;omega
theorem M6{c:α->o3}{l:List α}{A:xN}{x:y9}{w:xH}(h:(Qc e k c l A b).φ x S w):(A=none->l.length=0/\b=0)/\∀a,A=some a->a.spot=none:=by
 let⟨_,h,_⟩:=(show _/\_/\_ from h)
 rcases h.2 with⟨d,i⟩|⟨g,cap,f,d,_⟩
 all_goals grind
def Jl(w0:xH)(e k:Nat)(c:α->o3)(l:List α)(A:xN)(cp:Nat){m:Sem y9}(a:∀x,(c x).length=k)(d:α)(h:∀W,RdK W A l.length k (λj=>c (l.getD j d))->Qp P W m R):GJ P w0 [Qc e k c l A cp] m R:=λW _ x S b=>h W (JN a d b) W (p5 _ _)
def Qc1(i:Nat)(val:β->y9)(ρ:β->Res)(s:SV)(σ:St):Prop:=ZO (Xq σ.rs i) λR=>∃y:β,s=.val (val y)/\∀x S w,R.φ x S w->(ρ y).φ x S w
theorem Bf(β:Type){tt:List (Nat×TI)}(l:YF P tt)(m:P.follows .mixedOrders=true){fn:Func}(n:Xt P f)(o:P.funcs[f]?=some fn){N:Nat}(p:fn.ntmps=N){rs:Array ResultVar}(q:fn.results=rs)(args:o3)(t:Nat.ble args.length N=true)(i:Nat)(val:β->y9)(ρ:β->Res)(d:List Dir){T:xH->Prop}(h:∀W,Below w0.heap.size w0 W->T W)(u:∀W,T W=C6 P tt W fn (SH N args) d λe σ _=>VV tt rs.toList e σ λs=>Qc1 i val ρ s σ):NewIn P w0 [] f args.toArray val ρ:=by
 refine⟨n,λW v=>?_⟩;have key:=u W▸h W v;subst p;subst q;unfold C6 at key;cases g:fn.body with
 |none =>
  grind
 |some c =>
  rw[g]at key;refine(H9 l m o g t (λs σ=>Qc1 i val ρ s σ) key).mono ?_
  rintro e B ⟨s,σ,r,a,rfl,w,j⟩;obtain⟨R,k,y,rfl,x⟩:=QH w;let⟨z,A⟩:=j.see.rs i R k;exact⟨y,_,_,rfl,x _ _ _ z,λb g=>⟨j.sep.ownS i R k b g,A b g⟩,j.see.low⟩
def NewIn.at{args:x0g}{val:β->y9}{ρ:β->Res}(h:NewIn P w0 [] f args val ρ):Calls P f args w0 λe a=>∃y x S,e=.returned (val y)/\(ρ y).φ x S a/\(∀b,S b->w0.heap.size<=b/\b<a.heap.size)/\Below w0.heap.size w0 a:=h.2 w0 (p5 _ _)
end
def SlS(S:Nat->Prop)(k:Nat)(c:α->o3)(w:xH)(l:List α)(v:y9):Prop :=
 ∃A a,v=.slice A l.length a/\l.length<=a/\(A=none->l.length=0/\a=0)/\(0<l.length->∃b off,A=some ⟨b,off,none⟩/\S b/\∀i (h:i<l.length),∀j,j<k->w.cell? ⟨b,off+i*k+j,none⟩=(c l[i])[j]?)
theorem SlS.loc{c:α->o3}{a:xH}{l:List α}(h:SlS S k c w l v)(i:∀b,S b->a.heap[b]?=w.heap[b]?):SlS S k c a l v:=by
 let⟨A,d,e,f,g,j⟩:=h;refine⟨A,d,e,f,g,λm=>?_⟩
 grind[World.cell?_of_block]
theorem SlS.mono{S':Nat->Prop}{c:α->o3}{l:List α}(h:SlS S k c w l v)(g:∀b,S b->S' b):SlS S' k c w l v:=by
 let⟨A,a,d,e,f,i⟩:=h;refine⟨A,a,d,e,f,λj=>?_⟩
 grind
variable{f:Nat}
theorem qh{c:α->o3}{l:List α}{A:xN}(n:∀x,(c x).length=k){x:y9}(h:(Qc e k c l A f).φ x S w):SlS S k c w l (.slice A l.length f):=by
 let⟨_,h,o⟩:=(show _/\_/\_ from h)
 refine⟨A,f,rfl,?_,?_,λv=>?_⟩
 ·rcases h.2 with⟨a,m⟩|⟨g,cap,b,a,_,_,y,_⟩
  all_goals grind
 ·rcases h.2 with⟨a,m⟩|⟨g,cap,b,a,_⟩
  all_goals grind
 ·rcases h.2 with⟨a,m⟩|⟨g,cap,b,a,_,p,q,_,r,d⟩
  ·omega
  ·injection a with a _ _
   subst a;refine⟨g,0,rfl,(o g).2 rfl,λi s j t=>?_⟩;rw[Lm,cell_of_row w g (i*k+j) b e (0,0) p,<- Array.getElem?_toList,<- Jv n s t,<- d,b9];have u:(i+1)*k<=l.length*k:=Lt _ x3;rw[Ru]at u;omega
def G4(f k:Nat)(c:α->o3)(d:List (List α))(A:xN)(n:Nat):Res where
 φ x S w:=x.oneCell'=true/\∃(j:o3) (e:Nat->Prop),w.ownsRow 0 f 1 (.slice A d.length n) d.length j/\(∀i (h:i<d.length),SlS e k c w d[i] (j.getD i undef))/\(∀b,e b->(Value.slice A d.length n).ownBlock≠some b/\b<w.heap.size)/\∀b,S b↔(Value.slice A d.length n).ownBlock=some b\/e b
 one _ _ _ h:=h.1
 loc x S w w' h hφ:=by
  let⟨s,j,e,q,t,r,l⟩:=hφ;refine⟨s,j,e,⟨q.1,?_⟩,λi u=>(t i u).loc λb a=>h b ((l b).2 (.inr a)),λb a=>⟨(r b a).1,?_⟩,l⟩
  ·rcases q.2 with m|⟨g,cap,o,f,a,v,rest⟩
   ·exact .inl m
   ·exact .inr ⟨g,cap,o,f,a,(h g ((l g).2 (.inl (by rw[f];rfl)))).trans v,rest⟩
  ·have m:=h b ((l b).2 (.inr a));have y:=(r b a).2;rcases R5 b w'.heap.size with p|p
   ·exact p
   ·rw[p7 p,Array.getElem?_eq_getElem y]at m;cases m
def wX(a k:Nat)(c:α->o3)(c0:β->o3)(x:y9)(S:Nat->Prop)(w:xH)(h:(Qc a 1 c0 ([]:List β) none 0).φ x S w):(G4 a k c ([]:List (List α)) none 0).φ x S w:=by
 let⟨e,_,d⟩:=(show _/\_/\_ from h)
 exact(show _/\_ from⟨e,[],λ_=>False,World.ownsRow_nil w 0 a 1,λi f=>absurd f (R4 _),λ_ h=>h.elim,λb=>⟨λh=>.inl ((d b).1 h),λh=>h.elim (d b).2 False.elim⟩⟩)
section
variable{P:xO}{w0:xH}
theorem wW{t t2 ty U bt R:Nat}{c:α->o3}{f:List (List α)}{l:List α}{A B:xN}{X h:Nat}(E:RowT P t t2 U 1 bytes)(hc:∀x,(c x).length=k)(O:(f++[l]).length*bytes<=140737488355328):
  ∀W,Below w0.heap.size w0 W->∀g,Bx W g bt #[.slice B l.length h]->∀x S,(Qj (G4 U k c f A X) (Qc e k c l B h)).φ x S W ->
   Gc P W (λy:Hp=>.slice y.1 (f++[l]).length y.2) (λy:Hp=>G4 U k c (f++[l]) y.1 y.2) x S (Zo .append #[t,t2] ty [.slice A f.length X,.slice (some ⟨g,0,none⟩) 1 R]):=λW _ g hg x S hφ=>by
 let⟨S1,I,x2,Y,hR,bc,J⟩:=(show ∃S1 K x2,_ from hφ)
 let⟨Z,Q,K,q,L,bd,M⟩:=(show _/\_ from Y)
 have T:=qh hc hR;let⟨_,N,ad⟩:=(show _/\_/\_ from hR)
 let⟨ag,z,i1,i2,i3,i4,i5⟩:=E.info;let⟨bi,ao⟩:=E.ht2;have r:f.length+1=(f++[l]).length:=x6;have F:(f++[l]).length<=maxLen:=by
  have o:=E.hb;have h3:(f++[l]).length<=(f++[l]).length*bytes:=Rz _ o
  grind[maxLen]
 have s:∀j u,[Value.slice B l.length h][j]?=some u->W.cell? ((⟨g,0,none⟩:Addr).add j)=some u:=λj u hj=>by
  rw[add_plain,Lm,hg.cel]
  grind
 have G:∀u∈[Value.slice B l.length h],u.oneCell'=true:=λu hu=>by
  rw[Ly]at hu;rw[hu];rfl
 have aw:Q.length=f.length:=l3 q.1;let⟨v',w',H,n,C,_⟩:=run_append_own (P:=P) W 0 t ty U ag z 1 bytes E.ht i1 i2 i3 i4 i5 E.hk _ _ _ q ⟨g,0,none⟩ 1 R [.slice B l.length h] rfl s G (by rw[r];exact F) (by rw[r];exact O) (L7 _);have p:=Fa E.ht i1 i2 i3 i4 i5 E.hk q (m:=1) rfl s G (by rw[r];exact F) (by rw[r];exact O) H;rw[r]at n;obtain⟨V,D,rfl⟩:∃V D,v'=.slice V (f++[l]).length D:=by
  rcases n.2 with⟨rfl,e6⟩|⟨g,cap,bk,rfl,_⟩
  all_goals grind
 have aB:∀b,I b->b<W.heap.size:=λb d=>(N.lt b ((ad b).1 d)).2
 have a:∀b,K b\/I b->b<W.heap.size/\(Value.slice A f.length X).ownBlock≠some b:=λb d=>by
  grind
 have v:∀b,K b\/I b->w'.heap[b]?=W.heap[b]?:=λb d=>C.block b (a b d).1 λe=>(a b d).2 e.symm
 refine⟨(V,D),(λb=>(Value.slice V (f++[l]).length D).ownBlock=some b\/(K b\/I b)),w',?_,Trn.of_grown C λb d=>(J b).2 (.inl ((M b).2 (.inl d))),?_,λb d=>?_⟩
 ·simp only[Zo];rw[Dw E.ht ao];exact H
 ·refine(show _/\_ from⟨Z,Q++[.slice B l.length h],(λb=>K b\/I b),n,λi hi=>?_,λb d=>⟨λw=>?_,L9 (a b d).1 C.size⟩,λb=>Iff.rfl⟩)
  ·rcases R5 i f.length with w|w
   ·rw[List.getElem_append_left w];have o:=((L i w).mono (S':=λb=>K b\/I b) λb O=>.inl O).loc v;rwa [show(Q++[Value.slice B l.length h]).getD i undef=Q.getD i undef by simp[List.getD,List.getElem?_append_left (show i<Q.length by omega)]]
   ·have o:i=f.length:=by simp at hi;omega
    subst o;have h3:=(T.mono (S':=λb=>K b\/I b) λb O=>.inr O).loc v;rw[show(f++[l])[f.length]=l by simp];rwa [show(Q++[Value.slice B l.length h]).getD f.length undef=.slice B l.length h by simp[List.getD,<- aw]]
  ·rcases p b w with o|o|o
   ·exact(a b d).2 o
   ·have:=(a b d).1;omega
   ·have:=(a b d).1;omega
 ·rcases d with w|w
  ·refine⟨?_,(n.lt b w).2⟩;rcases p b w with o|o|o
   ·exact .inl ((J b).2 (.inl ((M b).2 (.inl o))))
   ·exact .inr (Su o.symm)
   ·exact .inr o
  ·refine⟨.inl ((J b).2 ?_),L9 (a b w).1 C.size⟩;rcases w with o|o
   ·exact .inl ((M b).2 (.inr o))
   ·exact .inr o
theorem QbU{r:Nat}{c:α->o3}{m:List (List α)}{A:xN}{v:Nat}(H:∀x,(c x).length=k)(d:α){x:y9}{w:xH}(h:(G4 r k c m A v).φ x S w):RdT w A m.length k (λi=>(m.getD i []).length) (λi j=>c ((m.getD i []).getD j d)):=by
 let⟨_,I,J,n,f,_,_⟩:=(show _/\_ from h)
 intro K;rcases n.2 with⟨a,L⟩|⟨g,cap,o,a,_,y,z,_,B,p⟩
 ·omega
 ·injection a with a _ _
  refine⟨g,0,a,λi s=>?_⟩;let⟨C,ci,k1,D,E,F⟩:=f i s;dsimp only;rw[YZ (d:=[]) s];refine⟨C,ci,D,E,?_,λG=>?_⟩
  ·rw[Lm,cell_of_row w g i o r (0,0) y,<- k1,<- Array.getElem?_toList]
   grind
  ·let⟨b,off,e,_,l⟩:=F G;refine⟨b,off,e,λj t u q=>?_⟩;show _=(c (m[i].getD j d))[u]?;rw[YZ t];exact l j t u q
end
structure LP where
 p:Nat->(Nat->Prop)->World->List Value->Prop
 loc:∀i S w w' cs,(∀b,S b->w'.heap[b]?=w.heap[b]?)->p i S w cs->p i S w' cs
 mono:∀i S S' w cs,(∀b,S b->S' b)->p i S w cs->p i S' w cs
def LP.known(f:Nat->o3):LP:=⟨λi _ _ cs=>cs=f i,λ_ _ _ _ _ _ h=>h,λ_ _ _ _ _ _ h=>h⟩
def Qx(e m n:Nat)(L:LP)(A:xN)(l:Nat):Res where
 φ x S w:=x.oneCell'=true/\∃(f:Nat->o3) (c:Nat->Prop),(∀j,(f j).length=m)/\w.ownsRow 0 e m (.slice A n l) n ((List.range n).flatMap f)/\(∀i,i<n->L.p i c w (f i))/\(∀b,c b->(Value.slice A n l).ownBlock≠some b/\b<w.heap.size)/\∀b,S b↔(Value.slice A n l).ownBlock=some b\/c b
 one _ _ _ h:=h.1
 loc x S w w' h hφ:=by
  let⟨u,f,c,v,r,y,s,d⟩:=hφ;refine⟨u,f,c,v,⟨r.1,?_⟩,λi z=>L.loc i c w w' _ (λb a=>h b ((d b).2 (.inr a))) (y i z),λb a=>⟨(s b a).1,?_⟩,d⟩
  ·rcases r.2 with k|⟨g,cap,o,t,a,B,rest⟩
   ·exact .inl k
   ·exact .inr ⟨g,cap,o,t,a,(h g ((d g).2 (.inl (by rw[t];rfl)))).trans B,rest⟩
  ·have k:=h b ((d b).2 (.inr a));have C:=(s b a).2;rcases R5 b w'.heap.size with q|q
   ·exact q
   ·rw[p7 q,Array.getElem?_eq_getElem C]at k;cases k
theorem CW(c:α->o3)(l:List α)(d:α):(List.range l.length).flatMap (λj=>c (l.getD j d))=l.flatMap c:=by
 have h:((List.range l.length).map λj=>l.getD j d)=l:=by
  apply Ve;all_goals grind
 conv=>rhs;rw[<- h]
 rw[List.flatMap_map]
variable{L:LP}
def Mh{m:Nat}{c:α->o3}{l:List α}{A:xN}(g:∀x,(c x).length=m)(d:α)(h:∀i,i<l.length->∀S w,L.p i S w (c (l.getD i d))){x:y9}(k:(Qc e m c l A a).φ x S w):(Qx e m l.length L A a).φ x S w:=by
 let⟨n,o,f⟩:=(show _/\_/\_ from k)
 refine(show _/\_ from⟨n,λj=>c (l.getD j d),λ_=>False,λ_=>g _,?_,λi q=>h i q _ _,λ_ h=>h.elim,λb=>⟨λh=>.inl ((f b).1 h),λh=>h.elim (f b).2 False.elim⟩⟩);rw[CW];exact o
def AP(e c m:Nat)(c0:β->o3)(L:LP)(x:y9)(S:Nat->Prop)(w:xH)(h:(Qc c m c0 ([]:List β) none 0).φ x S w):(Qx e m 0 L none 0).φ x S w:=by
 let⟨d,_,a⟩:=(show _/\_/\_ from h)
 exact(show _/\_ from⟨d,λ_=>List.replicate m undef,λ_=>False,λ_=>x6,World.ownsRow_nil w 0 e m,λi f=>absurd f (R4 _),λ_ h=>h.elim,λb=>⟨λh=>.inl ((a b).1 h),λh=>h.elim (a b).2 False.elim⟩⟩)
def PP{m n:Nat}{A:xN}{t:Nat}{x:y9}(u:(Qx e m n L A t).φ x S w):∃(f:Nat->o3) (h:Nat->Prop),(∀j,(f j).length=m)/\RdK w A n m f/\(∀i,i<n->L.p i h w (f i))/\(∀b,h b->S b/\b<w.heap.size):=by
 let⟨H,f,h,r,o,v,y,z⟩:=(show _/\_ from u)
 refine⟨f,h,r,λI=>?_,v,λb s=>⟨(z b).2 (.inr s),(y b s).2⟩⟩;rcases o.2 with⟨k,J⟩|⟨g,cap,q,k,_,B,C,_,D,a⟩
 ·omega
 ·injection k with k _ _
  refine⟨g,0,k,λj E i F=>?_⟩;have G:∀j,(f j).length=m:=r;have d:=Jv (c:=f) G (l:=List.range n) (j:=j) (i:=i) (l3 E) F;rw[Tw]at d;rw[Lm,cell_of_row w g (j*m+i) q e (0,0) B,<- Array.getElem?_toList,<- d,<- a,b9];have o:(j+1)*m<=n*m:=Lt _ x3;rw[Ru]at o;omega
def m9{m n:Nat}{A:xN}{cp:Nat}{M:Sem y9}(h:∀W f a,RdK W A n m f->(∀i,i<n->L.p i a W (f i))->Qp P W M R):GJ P w0 [Qx e m n L A cp] M R:=λW _ x S b=>by
 let⟨f,a,_,c,d,_⟩:=PP b;exact h W f a c d W (p5 _ _)
theorem fV{c m:Nat}{p:Rdg α}{l:List α}{n:Nat}{A:xN}{d:Nat}{x:y9}(o:n=l.length)(q:(Qx e m n L A d).φ x S w)(D:∀b,S b->c<=b)(E:∀i (h:i<l.length) j cs,(∀b,j b->c<=b)->L.p i j w cs->p w l[i] cs):SlV c m p w l (.slice A n d):=by
 subst o;let⟨F,f,j,G,r,H,I,s⟩:=(show _/\_ from q)
 let⟨J,t,u,v,y,z⟩:=PP q;refine⟨A,d,rfl,?_,?_,λB=>?_⟩
 ·rcases r.2 with⟨a,C⟩|⟨g,cap,k,a,_,_,o,_⟩
  all_goals grind
 ·rcases r.2 with⟨a,C⟩|⟨g,cap,k,a,_⟩
  all_goals grind
 ·let⟨b,off,a,K⟩:=v B;have M:S b:=by
   rw[a]at s;exact(s b).2 (.inl rfl)
  grind
def Pe(R:Res):Prop:=∀x S w,R.φ x S w->∀b,S b->b<w.heap.size
def Ca{c:α->o3}{l:List α}{A:xN}:Pe (Qc e k c l A a):=λx S w h b d=>by
 let⟨_,f,g⟩:=(show _/\_/\_ from h)
 exact(f.lt b ((g b).1 d)).2
theorem AO{m n:Nat}{A:xN}{c:Nat}:Pe (Qx e m n L A c):=λx S w h b d=>by
 let⟨_,f,j,_,g,_,k,i⟩:=(show _/\_ from h)
 rcases(i b).1 d with a|a
 ·exact(g.lt b a).2
 grind
theorem Gu{α:Type}:∀(l:List α) (k:Nat) (a:List α) (j:Nat),k+a.length<=l.length->(CD l k a)[j]?=if k<=j/\j<k+a.length then a[j-k]? else l[j]?
 |[],k,a,j,h=>by
  grind[CD]
 |x::l,k,[],j,h=>by
  rw[KY,if_neg λh=>Nat.not_lt.2 h.1 (l3 h.2)]
 |x::l,0,v::a,j,h=>by
  show(v::CD l 0 a)[j]?=_;cases j with
  |zero=>simp
  |succ j =>
   rw[List.getElem?_cons_succ,Gu l 0 a j (by simp at h ⊢;omega)];simp
 |x::l,k+1,v::a,j,h=>by
  show(x::CD l k (v::a))[j]?=_;cases j with
  |zero=>simp
  |succ j =>
   rw[List.getElem?_cons_succ,Gu l k (v::a) j (by simp at h ⊢;omega)]
   grind
theorem an{f:Nat->o3}{m n o:Nat}{b:o3}(e:∀j,(f j).length=m)(x:i<n)(y:o+b.length<=m):CD ((List.range n).flatMap f) (i*m+o) b=(List.range n).flatMap (λj=>if j=i then CD (f j) o b else f j):=by
 have d:∀j,((λj=>if j=i then CD (f j) o b else f j) j).length=m:=λj=>by
  grind[Gv]
 have k:((List.range n).flatMap f).length=n*m:=by rw[QT e,Sb]
 have g:(i+1)*m<=n*m:=Lt _ x3;rw[Ru]at g;apply List.ext_getElem?;intro j;rw[Gu _ _ _ _ (by rw[k];omega)];by_cases z:j<n*m
 ·have p:0<m:=by
   grind
  have A:j=j / m*m+j % m:=by rw[Ls];exact(Tc j m).symm
  have s:j / m<n:=(Lr p).2 z;have t:j % m<m:=Re _ p;generalize B:j / m=q at *;generalize C:j % m=r at *;subst A;have u:=Jv (c:=f) e (l:=List.range n) (j:=q) (i:=r) (l3 s) t;have v:=Jv (c:=λj=>if j=i then CD (f j) o b else f j) d (l:=List.range n) (j:=q) (i:=r) (l3 s) t;rw[Tw]at u v;rw[u,v];by_cases a:q=i
  ·subst a;rw[if_pos rfl,Gu _ _ _ _ (by rw[e];exact y)];by_cases w:o<=r/\r<o+b.length
   ·rw[if_pos w,if_pos x3];congr 1;omega
   ·rw[if_neg w,if_neg x3]
  ·rw[if_neg a,if_neg];rcases Nat.lt_or_gt_of_ne a with h|h
   ·have:=Lt m (show q+1<=i by omega);rw[Ru]at this;omega
   ·have:=Lt m (show i+1<=q by omega);rw[Ru]at this;omega
 ·rw[if_neg x3,a8 (by rw[k];omega),a8 (by rw[QT d,Sb];omega)]
theorem ap(l:List α)(k N:Nat)(a:List α)(h:k+a.length<=N)(b:N<=l.length):(CD l k a).take N=CD (l.take N) k a:=by
 apply List.ext_getElem?
 grind[Gu]
def Bx.setL{g:Nat}{t:o0}:∀(a:o3) (k:Nat) {w:xH} {l:o3},Bx w g t l.toArray->Bx (Dr w g k a) g t (CD l k a).toArray
 |[],k,w,l,h=>by rw[KY];exact h
 |v::a,k,w,l,h=>by
  show Bx (Dr (w.setCell ⟨g,k,none⟩ v) g (k+1) a) g t _;rw[EU];have b:=h.set k v;rw[V7]at b;exact Bx.setL a (k+1) b
section
variable{P:xO}{w0:xH}
def Vm{w:xH}{S:Nat->Prop}{g:Nat}(b:S g):∀(a:o3) (k:Nat),Trn S w (Dr w g k a)
 |[],_=>Trn.refl _ _
 |v::a,k=>by
  show Trn S w (Dr (w.setCell ⟨g,k,none⟩ v) g (k+1) a);exact(Trn.setCell (p:=⟨g,k,none⟩) b v).trans (Vm b a (k+1))
def jW{m n t o:Nat}{ti:TI}{K:LP}{A:xN}{B:Nat}{R2:Res}{C:o3}(hi:Yw P t=some ti)(hv:v.cells.toList=C)(hs:C.length=ti.size)(Q:i<n)(ho:o+C.length<=m)(h1:∀u,u∈C->u.oneCell'=true)(hF:Pe R2)(hL:∀j,j<n->j≠i->∀S w cs,L.p j S w cs->K.p j S w cs)(R:∀M d N w cs,cs.length=m->L.p i M w cs->R2.φ N d w->K.p i (λb=>M b\/d b) w (CD cs o C)):
  ∀W x S,(Qj (Qx e m n L A B) R2).φ x S W->Gc P W (λ_:Unit=>undef) (λ_:Unit=>Qx e m n K A B) x S (GZ t [.pointer (some (Q5 A (i*m+o))),v]):=λW x S hφ=>by
 let⟨M,T,N,hG,U,D,q⟩:=(show ∃M d N,_ from hφ)
 let⟨V,f,d,z,E,h3,h4,X⟩:=(show _/\_ from hG)
 rcases E.2 with⟨O,e2⟩|⟨g,cap,l,O,Y,hg,F,Z,ad,r⟩
 ·omega
 injection O with O _ e3
 subst O;subst e3;subst hv;have G:Bx W g e l.toList.toArray:=by simpa [Bx]using hg
 have ag:(i+1)*m<=n*m:=Lt _ x3;rw[Ru]at ag;have ao:n*m<=B*m:=Lt _ F;have s:l.toList.length=B*m:=by rw[Si,ad]
 have H:=Vo P t (i*m+o) v hi G (by rw[<- Si];exact hs) (by rw[s,<- hs];omega) h1;have aw:S g:=(q g).2 (.inl ((X g).2 (.inl rfl)));have aB:Trn S W (Dr W g (i*m+o) v.cells.toList):=Vm aw _ _;have c:∀b,b≠g->(Dr W g (i*m+o) v.cells.toList).heap[b]?=W.heap[b]?:=λb a=>JC _ _ _ _ _ a
 have bc:∀b,d b->b≠g:=λb a e=>(h4 b a).1 (by rw[e];rfl)
 have I:∀b,T b->b≠g:=λb a e=>D g ((X g).2 (.inl rfl)) (e▸a)
 have J:(Dr W g (i*m+o) v.cells.toList).heap.size=W.heap.size:=Jd _ _ _ _;refine⟨(),S,_,?_,aB,(show _/\_ from⟨V,λj=>if j=i then CD (f j) o v.cells.toList else f j,λb=>d b\/T b,λj=>?_,⟨?_,?_⟩,λj hj=>?_,λb a=>?_,λb=>?_⟩),λb a=>?_⟩
 ·unfold GZ;have ea:Q5 (some ⟨g,0,none⟩) (i*m+o)=⟨g,i*m+o,none⟩:=by simp[Q5]
  rw[ea,xQ,H];rfl
 ·dsimp only;split
  ·rw[Gv,z]
  ·exact z j
 ·rw[QT (k:=m) (λj=>by
   split
   ·rw[Gv,z]
   ·exact z j),Sb]
 ·refine .inr ⟨g,B,(CD l.toList (i*m+o) v.cells.toList).toArray,rfl,Y,G.setL _ _,F,Z,?_,?_⟩
  ·rw[Rs,Gv,s]
  ·show(CD l.toList (i*m+o) v.cells.toList).take (n*m)=_;rw[ap _ _ _ _ x3 (by rw[s];exact ao),r,an z Q ho]
 ·dsimp only;have k1:L.p j d (Dr W g (i*m+o) v.cells.toList) (f j):=L.loc j d W _ _ (λb a=>c b (bc b a)) (h3 j hj);by_cases y:j=i
  ·subst y;rw[if_pos rfl];exact R d T N _ _ (z j) k1 (R2.loc _ _ _ _ (λb a=>c b (I b a)) U)
  ·rw[if_neg y];exact K.mono j d _ _ _ (λb a=>.inl a) (hL j hj y _ _ _ k1)
 ·rw[J];rcases a with a|a
  ·exact h4 b a
  ·exact⟨λe=>I b a (by injection e with e;exact e.symm),hF _ _ _ U b a⟩
 ·rw[q,X];constructor
  ·rintro((h|h)|h)
   ·exact .inl h
   ·exact .inr (.inl h)
   ·exact .inr (.inr h)
  ·rintro(h|h|h)
   ·exact .inl (.inl h)
   ·exact .inl (.inr h)
   ·exact .inr h
 ·rw[J];refine⟨.inl a,?_⟩;rcases(q b).1 a with h|h
  ·exact AO _ _ _ hG b h
  ·exact hF _ _ _ U b h
end
def Ak{c:α->o3}{l:List α}{A:xN}{x b:y9}(d:b.oneCell'=true)(h:(Qc e k c l A a).φ x S w):(Qc e k c l A a).φ b S w:=by
 let⟨_,f,g⟩:=(show _/\_/\_ from h)
 exact(show _/\_/\_ from⟨d,f,g⟩)
def im{m:Nat}{c:α->o3}{l:List α}{A:xN}(g:∀x,(c x).length=m)(d:α){x:y9}(k:(Qc e m c l A f).φ x S w)(n:∀b,S b->a<=b):SlV a m (λ_ x cs=>cs=c x) w l (.slice A l.length f) :=
 fV (L:=LP.known λj=>c (l.getD j d)) rfl (Mh g d (λi p S w=>rfl) k) n λi h q cs _ o=>by
  rw[show cs=c (l.getD i d)from o,List.getD,p6 h];rfl
open Go.Lib
def Mp(g:Nat)(s:xM)(p:Nat):Res where
 φ x S w:=x.oneCell'=true/\w.heap[g]?=some (.stringIter s p)/\∀b,S b↔b=g
 one _ _ _ h:=h.1
 loc x S w w' h hφ:=⟨hφ.1,(h g ((hφ.2.2 g).2 rfl)).trans hφ.2.1,hφ.2.2⟩
variable{p:Nat}
section
variable{P:xO}{w0:xH}{s:xM}
def QdE(P:xO)(w0:xH)(s:xM){t:o0}(a:P.underlying t=some .string):II P w0 [] (λg:Nat=>.pointer (some ⟨g,0,none⟩)) (λg:Nat=>Mp g s 0) (Instr.range t (.string s)):=λW _=>by
 show Pf P W _ _ _;refine⟨W.heap.size,.bool false,λb=>b=W.heap.size,W.iter s 0,run_range_string W t s a,?_,(show _/\_ from⟨rfl,World.iter_heap W s 0,λ_=>Iff.rfl⟩),λb c=>?_⟩
 ·exact(p5 _ W).alloc (L4 _) _
 ·have d:(W.iter s 0).heap.size=W.heap.size+1:=World.size_alloc _ _;omega
theorem uj(P:xO)(w0:xH)(s:xM)(g p:Nat)(a:o0)(h:p<s.size):∀W,Below w0.heap.size w0 W->∀x S,(Mp g s p).φ x S W->Gc P W (λ_:Unit=>.tuple #[.bool true,.int .i64 (p:Int),.int .i32 (((Utf8.decode s p).1:Nat):Int)]) (λ_:Unit=>Mp g s (p+(Utf8.decode s p).2)) x S (Instr.next (.pointer (some ⟨g,0,none⟩)) true a):=λW _ x S d=>by
 let⟨e,c,f⟩:=(show _/\_/\_ from d)
 refine⟨(),S,W.iterAt g s (p+(Utf8.decode s p).2),run_next_any_at W g s p a c h,?_,(show _/\_/\_ from⟨e,iterAt_heap W g s p _ c,f⟩),λb i=>⟨.inl i,?_⟩⟩
 ·refine⟨rfl,rfl,rfl,Su (by simp[World.iterAt]),λk _ j=>?_⟩
  grind[World.iterAt]
 grind[World.iterAt]
theorem Qak(P:xO)(w0:xH)(s:xM)(g p:Nat)(a:o0)(h:¬ p<s.size):∀W,Below w0.heap.size w0 W->∀x S,(Mp g s p).φ x S W->Gc P W (λ_:Unit=>.tuple #[.bool false]) (λ_:Unit=>Mp g s p) x S (Instr.next (.pointer (some ⟨g,0,none⟩)) true a):=λW _ x S c=>by
 let⟨f,d,i⟩:=(show _/\_/\_ from c)
 refine⟨(),S,W,run_next_end_at W g s p a d h,⟨rfl,rfl,rfl,L4 _,λ_ _ _=>rfl⟩,c,λb e=>⟨.inl e,?_⟩⟩
 grind
theorem fE(h:p<s.size)(b:(s.data.toList.getD p 0).toNat<128):Utf8.decode s p=((s.data.toList.getD p 0).toNat,1):=by
 have e:(s[p]'h)=s.data.toList.getD p 0:=by
  have a:p<s.data.toList.length:=l3 h;rw[List.getD,p6 a];rfl
 grind[decode_ascii]
theorem UM(h:p<s.size)(d:128<=(s.data.toList.getD p 0).toNat):128<=(Utf8.decode s p).1/\1<=(Utf8.decode s p).2/\p+(Utf8.decode s p).2<=s.size/\∀j,j<(Utf8.decode s p).2->128<=(s.data.toList.getD (p+j) 0).toNat:=by
 have e:(s[p]'h)=s.data.toList.getD p 0:=by
  have f:p<s.data.toList.length:=l3 h;rw[List.getD,p6 f];rfl
 have g:∀k,p+k<s.size->s.get! (p+k)=s.data.toList.getD (p+k) 0:=λk o=>by
  have f:p+k<s.data.toList.length:=l3 o;rw[List.getD,p6 f];show s.data[p+k]! = _
  grind
 rw[<- e]at d;let⟨i,b⟩:=decode_high s p h d;refine⟨i,b,?_⟩;have q:=g 0 h;have r:128<=(s.get! (p+0)).toNat:=by rw[q,T9,<- e];exact d
 have key:∀w:Nat,(∀k,0<k->k<w->(decide (p+k<s.size)&&(s.get! (p+k)).toNat / 64==2)=true)->1<=w->p+w<=s.size/\∀j,j<w->128<=(s.data.toList.getD (p+j) 0).toNat:=λw u i=>by
  have t:∀k,0<k->k<w->p+k<s.size/\128<=(s.get! (p+k)).toNat:=λk b a=>by
   grind
  refine⟨?_,λj v=>?_⟩
  ·rcases R5 1 w with b|b
   ·have:=(t (w-1) x3 x3).1;omega
   ·omega
  grind
 have one:∀w:Nat,w=1->p+w<=s.size/\∀j,j<w->128<=(s.data.toList.getD (p+j) 0).toNat:=λw e=>by
  subst e;exact key 1 (λk b a=>x3) (L4 _)
 unfold Utf8.decode;dsimp only;split
 ·exact one _ rfl
 ·split
  ·rename_i a;split
   ·exact key 2 (λk l m=>by
     have e:k=1:=x3;subst e;exact(L5.1 a).2) x4
   ·exact one _ rfl
  ·split
   ·rename_i a;split
    ·exact key 3 (λk l m=>by
      have c:=L5.1 a;rcases(show k=1\/k=2 by omega)with e|e
      ·subst e;exact(L5.1 c.1).2
      ·subst e;exact c.2) x4
    ·exact one _ rfl
   ·split
    ·rename_i a;split
     ·exact key 4 (λk l m=>by
       have c:=L5.1 a;have n:=L5.1 c.1;rcases(show k=1\/k=2\/k=3 by omega)with e|e|e
       ·subst e;exact(L5.1 n.1).2
       ·subst e;exact n.2
       ·subst e;exact c.2) x4
     ·exact one _ rfl
    ·exact one _ rfl
end
