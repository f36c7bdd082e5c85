/- Laws beneath the statement. -/
import Derived.Test.YtoibldcmoapgbaaGreatDoorBP12
import Derived.RangeFuncNested
import Derived.RangeFuncBound
import Derived.OrdersIn
import Derived.Test.YtoibldcmoapgbaaGreatDoorBP14
import Derived.Deep.Upon
namespace Go.Proofs.YtoibldcmoapgbaaGreatDoor
set_option linter.defProp false
open Tryz
set_option maxHeartbeats 4000000
set_option maxRecDepth 100000
open Go Go.RowKit
variable{w:m0}{k:Nat}
def RdK.up{a:m0}{A:m3}{n:Nat}{f:Nat->o3}(h:RdK w A n k f)(b:Below w.heap.size w a)(c:∀j,(f j).length=k):RdK a A n k f:=h.below c b
def qV(a:y9):a=a:=rfl
def qI(a:Int):a=a:=rfl
def qB(a:Bool):a=a:=rfl
def qS(a:m1):a=a:=rfl
abbrev tS(k v:Int)(b:m3)(nb a:Nat)(s:m3)(f cs:Nat)(p:m3)(g cp:Nat)(r:m3)(h i:Nat)(e d:Nm)(u:Int)(c:m3)(j l:Nat):List SV:=[iV k,iV v,lV b nb a,lV s f cs,lV p g cp,lV r h i,bV e.b,sV e.s,iV e.e,bV d.b,sV d.s,iV d.e,iV u,lV c j l]
abbrev xS(x:PV)(b:m3)(a:Nat)(s:m3)(cs:Nat)(p:m3)(cp:Nat)(r:m3)(d:Nat)(c:m3)(e:Nat):List SV:=tS x.δ x.vars b x.box.length a s x.κ.length cs p x.ps.length cp r x.θ.length d x.ν x.ε x.ζ c x.ι.length e
def XR(R:Res)(x:y9)(S:Nat->Prop)(w:m0)(h:R.φ x S w):R.φ x S w:=h
variable{a:Nat}
theorem Qt{b:Nat}(h:decide ((a:Int)<(b:Int))=true):a<b:=by grind
theorem geq{b:Nat}(h:decide ((a:Int)<(b:Int))=false):b<=a:=by grind
def Q5(A:m3)(i:Nat):Addr:=⟨(A.getD ⟨0,0,none⟩).block,(A.getD ⟨0,0,none⟩).off+i,none⟩
variable{b:Option Bool}
section
variable{P:z4}{w0:m0}{t:o0}{ti:TI}{A:m3}{n c k:Nat}{f:Nat->List y9}
theorem RdK.adr_{i o:Nat}(h:RdK w0 A n k f)(a:i<n)(c:o<k):w0.cell? (Q5 A (i*k+o))=(f i)[o]?:=by
 obtain⟨b,off,rfl,d⟩:=h x3;show w0.cell? ⟨b,off+(i*k+o),none⟩=_
 grind
def Kr{e:Nat}(sz:Nat){a:Option Bool}(d:Yw P t=some ti)(g:ti.k=.slice e sz a)(j:sz≠0)(l:RdK w0 A n k f){i:Nat}(h:i<n):
  Qp P w0 (Instr.indexAt t (.slice A n c) (.int .i64 (i:Int))) (.pointer (some (Q5 A (i*sz)))):=λW _=>by
 obtain⟨b,off,rfl,_⟩:=l x3;exact AR d g h j
def Qab{a:List (Nat×Nat×Option Bool)}{j off b o:Nat}{d:Option Bool}(e:Yw P t=some ti)(f:ti.k=.struct a)(h:Gq a j=some (off,b,d))(i:b≠0):
  Qp P w0 (Instr.fieldAt t (.pointer (some (Q5 A o))) j) (.pointer (some (Q5 A (o+off)))):=λW _=>by
 have c:=Ek (P:=P) (w:=W) (g:=(A.getD ⟨0,0,none⟩).block) (o:=(A.getD ⟨0,0,none⟩).off+o) e f h i;rw[Sf]at c;exact c
def Jk{a:List (Nat×Nat×Option Bool)}{j off:Nat}(sz:Nat){i o:Nat}(c:Yw P t=some ti)(d:ti.k=.struct a)(h:Gq a j=some (off,sz,b))(e:sz≠0):
  Qp P w0 (Instr.fieldAt t (.pointer (some (Q5 A (i*k+o)))) j) (.pointer (some (Q5 A (i*k+(o+off))))):=by
 rw[<- Sf];exact Qab c d h e
theorem B0{i o:Nat}{v:y9}(g:Yw P t=some ti)(h:ti.k.agg=false)(b:RdK w0 A n k f)(a:i<n)(c:o<k)(d:(f i)[o]?=some v):
  Qp P w0 (Instr.loadAt t (.pointer (some (Q5 A (i*k+o))))) v:=λW e=>by
 have j:W.cell? (Q5 A (i*k+o))=some v:=Lj e ((b.adr_ a c).trans d);simp_all[Instr.loadAt,Instr.sureAddr,loadVar,SN]
theorem CS{i o:Nat}{l:o3}(d:Yw P t=some ti)(p:ti.k.agg=true)(e:RdK w0 A n k f)(a:i<n)(g:l.length=ti.size)(u:o+ti.size<=k)(q:((f i).drop o).take ti.size=l):
  Qp P w0 (Instr.loadAt t (.pointer (some (Q5 A (i*k+o))))) (.agg l.toArray):=λW r=>by
 have h:=run_loadCells_list (P:=P) W (Q5 A (i*k+o)) l (λj v c=>by
  have s:j<ti.size:=by rw[<- g];exact(c9.1 c).1
  have m:=e.adr_ a (show o+j<k by omega);rw[<- q,b9 s,List.getElem?_drop]at c;rw[c]at m;have w:=Lj r m;obtain⟨b,off,rfl,_⟩:=e x3
  grind[Q5,add_plain])
 rw[g]at h;simp[Instr.loadAt,Instr.sureAddr,loadVar,SN d,p,EZ d,h]
end
def bt(s:m1)(i:Nat):Nat:=(s.data.toList.getD i 0).toNat
theorem QbA{P:z4}{t:o0}(s:m1)(a:P.underlying t=some .string)(i:Nat)(h:i<s.size)(W:m0):(Instr.index t (.string s) (.int .i64 (i:Int))).run P W=.ok (.int .u8 (bt s i:Nat)) W:=by
 rw[Bk s a .i64 (i:Int) i rfl h]
 grind[bt]
def By(a b:m1):Bool:=Op.bytesLess a.toList b.toList
def wM(W:World)(x y:Operand)(a b:ByteArray):Qp prog W (do eqGuard .geq 9 x y (.string a) (.string b);binOp .geq 9 (.string a) (.string b)) (.bool (!By a b)):=λc _=>by
 simp[go_sem,By]
def wP(W:World)(x y:Operand)(a b:ByteArray):Qp prog W (do eqGuard .lss 9 x y (.string a) (.string b);binOp .lss 9 (.string a) (.string b)) (.bool (By a b)):=λc _=>by
 simp[go_sem,By]
def bz(W:m0)(s:m1)(i:Nat)(h:i<s.size):Qp prog W (Instr.index 9 (.string s) (.int .i64 (i:Int))) (.int .u8 (bt s i:Nat)):=λa _=>QbA s Tryz.underlying9 i h a
theorem QD(n:Nat)(h:n<=4611686018427387904):IntKind.i64.wrap ((n:Int)+1)=((n+1:Nat):Int):=by grind[Le]
theorem Qcd{n:Nat}(h:n<=4611686018427387904)(a:0<n):IntKind.i64.wrap ((n:Int)-1)=((n-1:Nat):Int):=by grind[Le]
section
variable{P:z4}{w0:m0}{t bt':o0}{ti:TI}{g o:Nat}{cs:List y9}
def ZI{a:List (Nat×Nat×Option Bool)}{j off:Nat}(sz:Nat)(c:Yw P t=some ti)(d:ti.k=.struct a)(h:Gq a j=some (off,sz,b))(e:sz≠0):
 Qp P w0 (Instr.fieldAt t (.pointer (some ⟨g,o,none⟩)) j) (.pointer (some ⟨g,o+off,none⟩)):=λW _=>Ek c d h e
def D9{v:y9}(a:Yw P t=some ti)(b:ti.k.agg=false)(c:Bx w0 g bt' cs.toArray)(d:cs[o]?=some v):
 Qp P w0 (Instr.loadAt t (.pointer (some ⟨g,o,none⟩))) v:=λW e=>Ez a b (c.later e) d
def di(a:Yw P t=some ti)(b:ti.k.agg=true)(c:Bx w0 g bt' cs.toArray)(d:o+ti.size<=cs.length):
 Qp P w0 (Instr.loadAt t (.pointer (some ⟨g,o,none⟩))) (.agg ((cs.drop o).take ti.size).toArray):=λW e=>MB a b (c.later e) d
end
def C8(W:World)(x y:Operand)(a b:Bool):Qp prog W (do eqGuard .neq 4 x y (.bool a) (.bool b);binOp .neq 4 (.bool a) (.bool b)) (.bool (a != b)):=λc _=>by
 simp[go_sem];cases a<;>cases b<;>rfl
variable{w0:m0}{R:y9}
def UW{f:FuncId}{t:o0}{cs:x0g}{args:Nat->x0g}(a:Xt prog f)(h:∀W,Below w0.heap.size w0 W->∀g,Bx W g t cs->RetAt prog W f (args g) R):Xt prog f/\∀W,Below w0.heap.size w0 W->∀g,Bx W g t cs->o4 prog f (args g) W R:=⟨a,λW c g d=>(h W c g d).at⟩
def XQ(n:Nat)(f:Nat->Bool):Bool:=(List.range n).any f
variable{f:Nat->Bool}
theorem Kf{n:Nat}(h:∀j,j<n->f j=false):XQ n f=false:=by
 grind[XQ]
theorem ZG{n:Nat}(a:k<n)(h:f k=true):XQ n f=true:=List.any_eq_true.2 ⟨k,R7.2 a,h⟩
theorem anyB_iff{n:Nat}:XQ n f=true↔∃j,j<n/\f j=true:=by
 simp[XQ]
theorem jY(h:∀j,j<k->f j=false)(a:f k=false):∀j,j<k+1->f j=false:=by grind
section
variable{w0:m0}{A:m3}{n c k:Nat}{f:Nat->List y9}{g:Nat}{T:o0}{cs:List y9}
def CR(c:Nat)(a:RdK w0 A n k f)(i:Nat)(h:i<n):Qp prog w0 (Instr.indexAt 23 (.slice A n c) (.int .i64 (i:Int))) (.pointer (some (Q5 A (i*6+0)))):=Kr 6 (Qm 23 _ rfl) rfl x4 a h
def Zy(c:Nat)(a:RdK w0 A n k f)(i:Nat)(h:i<n):Qp prog w0 (Instr.indexAt 25 (.slice A n c) (.int .i64 (i:Int))) (.pointer (some (Q5 A (i*1+0)))):=Kr 1 (Qm 25 _ rfl) rfl x4 a h
def Es(c:Nat)(a:RdK w0 A n k f)(i:Nat)(h:i<n):Qp prog w0 (Instr.indexAt 57 (.slice A n c) (.int .i64 (i:Int))) (.pointer (some (Q5 A (i*3+0)))):=Kr 3 (Qm 57 _ rfl) rfl x4 a h
def Gi(c:Nat)(w0:m0)(a:RdK w0 A n k f)(i:Nat)(h:i<n):Qp prog w0 (Instr.indexAt 48 (.slice A n c) (.int .i64 (i:Int))) (.pointer (some (Q5 A (i*3+0)))):=Kr 3 (Qm 48 _ rfl) rfl x4 a h
def J5(c:Nat)(a:RdK w0 A n k f)(i:Nat)(h:i<n):Qp prog w0 (Instr.indexAt 28 (.slice A n c) (.int .i64 (i:Int))) (.pointer (some (Q5 A (i*2+0)))):=Kr 2 (Qm 28 _ rfl) rfl x4 a h
def J4(c:Nat)(a:RdK w0 A n k f)(i:Nat)(h:i<n):Qp prog w0 (Instr.indexAt 33 (.slice A n c) (.int .i64 (i:Int))) (.pointer (some (Q5 A (i*6+0)))):=Kr 6 (Qm 33 _ rfl) rfl x4 a h
def Y0(c:Nat)(a:RdK w0 A n k f)(i:Nat)(h:i<n):Qp prog w0 (Instr.indexAt 50 (.slice A n c) (.int .i64 (i:Int))) (.pointer (some (Q5 A (i*4+0)))):=Kr 4 (Qm 50 _ rfl) rfl x4 a h
def uk(a:RdK w0 A n k f){i:Nat}(h:i<n):Qp prog w0 (Instr.indexAt 231 (.slice A n c) (.int .i64 (i:Int))) (.pointer (some (Q5 A (i*1+0)))):=Kr 1 (Qm 231 _ rfl) rfl x4 a h
def Fw(c:Nat)(w0:m0)(a:RdK w0 A n k f)(i:Nat)(h:i<n):Qp prog w0 (Instr.indexAt 82 (.slice A n c) (.int .i64 (i:Int))) (.pointer (some (Q5 A (i*1+0)))):=Kr 1 (Qm 82 _ rfl) rfl x4 a h
def Fv(c:Nat)(a:RdK w0 A n k f)(i:Nat)(h:i<n):Qp prog w0 (Instr.indexAt 192 (.slice A n c) (.int .i64 (i:Int))) (.pointer (some (Q5 A (i*1+0)))):=Kr 1 (Qm 192 _ rfl) rfl x4 a h
def DE(w0:m0)(A:m3)(k:Nat)(i o:Nat):Qp prog w0 (Instr.fieldAt 56 (.pointer (some (Q5 A (i*k+o)))) 1) (.pointer (some (Q5 A (i*k+(o+1))))):=Jk 3 (Qm 56 _ rfl) rfl rfl x4
def AM{i o:Nat}:Qp prog w0 (Instr.fieldAt 52 (.pointer (some (Q5 A (i*k+o)))) 1) (.pointer (some (Q5 A (i*k+(o+1))))):=Jk 1 (Qm 52 _ rfl) rfl rfl x4
def KE(g:Nat)(o:Nat):Qp prog w0 (Instr.fieldAt 27 (.pointer (some ⟨g,o,none⟩)) 1) (.pointer (some ⟨g,o+1,none⟩)):=ZI 1 (Qm 27 _ rfl) rfl rfl x4
def ZV{o:Nat}:Qp prog w0 (Instr.fieldAt 35 (.pointer (some ⟨g,o,none⟩)) 0) (.pointer (some ⟨g,o+0,none⟩)):=ZI 1 (Qm 35 _ rfl) rfl rfl x4
def ZW(g:Nat)(o:Nat):Qp prog w0 (Instr.fieldAt 35 (.pointer (some ⟨g,o,none⟩)) 1) (.pointer (some ⟨g,o+1,none⟩)):=ZI 1 (Qm 35 _ rfl) rfl rfl x4
def YD(g:Nat)(o:Nat):Qp prog w0 (Instr.fieldAt 35 (.pointer (some ⟨g,o,none⟩)) 2) (.pointer (some ⟨g,o+2,none⟩)):=ZI 2 (Qm 35 _ rfl) rfl rfl x4
def JF(g:Nat)(o:Nat):Qp prog w0 (Instr.fieldAt 35 (.pointer (some ⟨g,o,none⟩)) 3) (.pointer (some ⟨g,o+4,none⟩)):=ZI 1 (Qm 35 _ rfl) rfl rfl x4
def JG(g:Nat)(o:Nat):Qp prog w0 (Instr.fieldAt 35 (.pointer (some ⟨g,o,none⟩)) 4) (.pointer (some ⟨g,o+5,none⟩)):=ZI 1 (Qm 35 _ rfl) rfl rfl x4
def JW(b:RdK w0 A n k f)(i o:Nat)(a:i<n)(c:o+3<=k){l:o3}(d:l.length=3)(e:((f i).drop o).take 3=l):Qp prog w0 (Instr.loadAt 32 (.pointer (some (Q5 A (i*k+o))))) (.agg l.toArray):=CS (Qm 32 _ rfl) rfl b a d c e
def nU{o:Nat}(a:Bx w0 g T cs.toArray)(b:o+3<=cs.length):Qp prog w0 (Instr.loadAt 32 (.pointer (some ⟨g,o,none⟩))) (.agg ((cs.drop o).take 3).toArray):=di (Qm 32 _ rfl) rfl a b
def Eu(b:RdK w0 A n k f)(i o:Nat)(a:i<n)(c:o+6<=k){l:o3}(d:l.length=6)(e:((f i).drop o).take 6=l):Qp prog w0 (Instr.loadAt 76 (.pointer (some (Q5 A (i*k+o))))) (.agg l.toArray):=CS (Qm 76 _ rfl) rfl b a d c e
def ZE(b:RdK w0 A n k f)(i o:Nat)(a:i<n)(c:o+4<=k){l:o3}(d:l.length=4)(e:((f i).drop o).take 4=l):Qp prog w0 (Instr.loadAt 56 (.pointer (some (Q5 A (i*k+o))))) (.agg l.toArray):=CS (Qm 56 _ rfl) rfl b a d c e
def D8(b:RdK w0 A n k f)(i o:Nat)(a:i<n)(c:o+2<=k){l:o3}(d:l.length=2)(e:((f i).drop o).take 2=l):Qp prog w0 (Instr.loadAt 52 (.pointer (some (Q5 A (i*k+o))))) (.agg l.toArray):=CS (Qm 52 _ rfl) rfl b a d c e
def D7(b:RdK w0 A n k f)(i o:Nat)(a:i<n)(c:o+6<=k){l:o3}(d:l.length=6)(e:((f i).drop o).take 6=l):Qp prog w0 (Instr.loadAt 54 (.pointer (some (Q5 A (i*k+o))))) (.agg l.toArray):=CS (Qm 54 _ rfl) rfl b a d c e
def dh{o:Nat}(a:Bx w0 g T cs.toArray)(b:o+14<=cs.length):Qp prog w0 (Instr.loadAt 35 (.pointer (some ⟨g,o,none⟩))) (.agg ((cs.drop o).take 14).toArray):=di (Qm 35 _ rfl) rfl a b
def dg(w0:m0)(o:Nat)(a:Bx w0 g T cs.toArray){v:y9}(b:cs[o]?=some v):Qp prog w0 (Instr.loadAt 23 (.pointer (some ⟨g,o,none⟩))) v:=D9 (Qm 23 _ rfl) rfl a b
def GU(w0:m0)(o:Nat)(a:Bx w0 g T cs.toArray){v:y9}(b:cs[o]?=some v):Qp prog w0 (Instr.loadAt 25 (.pointer (some ⟨g,o,none⟩))) v:=D9 (Qm 25 _ rfl) rfl a b
def J6(b:RdK w0 A n k f)(i o:Nat)(a:i<n)(c:o<k){v:y9}(d:(f i)[o]?=some v):Qp prog w0 (Instr.loadAt 57 (.pointer (some (Q5 A (i*k+o))))) v:=B0 (Qm 57 _ rfl) rfl b a c d
def Mw(b:RdK w0 A n k f)(i o:Nat)(a:i<n)(c:o<k){v:y9}(d:(f i)[o]?=some v):Qp prog w0 (Instr.loadAt 28 (.pointer (some (Q5 A (i*k+o))))) v:=B0 (Qm 28 _ rfl) rfl b a c d
def J7(w0:m0)(o:Nat)(a:Bx w0 g T cs.toArray){v:y9}(b:cs[o]?=some v):Qp prog w0 (Instr.loadAt 28 (.pointer (some ⟨g,o,none⟩))) v:=D9 (Qm 28 _ rfl) rfl a b
def Ey(w0:m0)(o:Nat)(a:Bx w0 g T cs.toArray){v:y9}(b:cs[o]?=some v):Qp prog w0 (Instr.loadAt 33 (.pointer (some ⟨g,o,none⟩))) v:=D9 (Qm 33 _ rfl) rfl a b
def Ev(w0:m0)(b:RdK w0 A n k f)(i o:Nat)(a:i<n)(c:o<k){v:y9}(d:(f i)[o]?=some v):Qp prog w0 (Instr.loadAt 50 (.pointer (some (Q5 A (i*k+o))))) v:=B0 (Qm 50 _ rfl) rfl b a c d
def Oz(w0:m0)(b:RdK w0 A n k f)(i o:Nat)(a:i<n)(c:o<k){v:y9}(d:(f i)[o]?=some v):Qp prog w0 (Instr.loadAt 82 (.pointer (some (Q5 A (i*k+o))))) v:=B0 (Qm 82 _ rfl) rfl b a c d
def BZ(w0:m0)(b:RdK w0 A n k f)(i o:Nat)(a:i<n)(c:o<k){v:y9}(d:(f i)[o]?=some v):Qp prog w0 (Instr.loadAt 3 (.pointer (some (Q5 A (i*k+o))))) v:=B0 (Qm 3 _ rfl) rfl b a c d
def Ze(w0:m0)(o:Nat)(a:Bx w0 g T cs.toArray){v:y9}(b:cs[o]?=some v):Qp prog w0 (Instr.loadAt 3 (.pointer (some ⟨g,o,none⟩))) v:=D9 (Qm 3 _ rfl) rfl a b
def AT(w0:m0)(b:RdK w0 A n k f)(i o:Nat)(a:i<n)(c:o<k){v:y9}(d:(f i)[o]?=some v):Qp prog w0 (Instr.loadAt 9 (.pointer (some (Q5 A (i*k+o))))) v:=B0 (Qm 9 _ rfl) rfl b a c d
def gl(w0:m0)(o:Nat)(a:Bx w0 g T cs.toArray){v:y9}(b:cs[o]?=some v):Qp prog w0 (Instr.loadAt 4 (.pointer (some ⟨g,o,none⟩))) v:=D9 (Qm 4 _ rfl) rfl a b
def nM(b:RdK w0 A n k f){i o:Nat}(a:i<n)(c:o<k){v:y9}(d:(f i)[o]?=some v):Qp prog w0 (Instr.loadAt 5 (.pointer (some (Q5 A (i*k+o))))) v:=B0 (Qm 5 _ rfl) rfl b a c d
end
def nv(x:Nm):Dyadic:=dy (Qe x.b (Qa x.s)) x.e
def sg(x:Nm):Int:=GP (nv x)
def Ks(x:Nm):Bool:=(neg (dm (nv x))==x.b&&(QJ (dm (nv x))).toList==x.s.toList)&&de (nv x)==x.e
structure okN (x:Nm):Prop where
 sz:x.s.size<=16384
 lo:-70000<=x.e
 hi:x.e<=70000
structure okS (x:Nm):Prop where
 sz:x.s.size<=20
 lo:-200<=x.e
 hi:x.e<=200
def Bp:Tm:=⟨⟨#[]⟩,nm0⟩
def NU:Py:=⟨0,[]⟩
def Eh:Nd:=⟨0,nm0,NU⟩
def Qb(l:List Tm)(k:Nat):Tm:=l.getD k Bp
def Xm(l:List Nm)(k:Nat):Nm:=l.getD k nm0
def QN(l:List (Nm×Nm))(k:Nat):Nm×Nm:=l.getD k (nm0,nm0)
def Qu(l:List (List Nm))(k:Nat):List Nm:=l.getD k []
def QM(l:List Py)(k:Nat):Py:=l.getD k NU
def Qn(l:List Nd)(k:Nat):Nd:=l.getD k Eh
def ZN(m:m1)(vars:Int):Bool:=bif XQ m.size (λj=>decide ((bt m j:Int)>127))then false else((m.size:Int)==vars)
def CI(vars:Int)(l:List Tm)(k:Nat):Bool:=((!ZN (Qb l k).m vars||sg (Qb l k).c==0)||!Ks (Qb l k).c)||(decide ((k:Int)>0)&&!By (Qb l (k-1)).m (Qb l k).m)
def K9(p:Py):Int:=if 0<=p.vars/\p.vars<=12 then(if 4096<p.ts.length then 3 else if XQ p.ts.length (CI p.vars p.ts)then 1 else 0)else 1
abbrev be(l:List Nd)(U:Nat->m3)(u:Nat->Nat)(j:Nat):o3:=[.int .i64 (Qn l j).split,.bool (Qn l j).ο.b,.string (Qn l j).ο.s,.int .i64 (Qn l j).ο.e,.int .i64 (Qn l j).sum.vars,.slice (U j) (Qn l j).sum.ts.length (u j)]
abbrev sC(l:List Nd)(U:Nat->m3)(n u:Nat->Nat)(j:Nat):o3:=[.int .i64 (Qn l j).split,.bool (Qn l j).ο.b,.string (Qn l j).ο.s,.int .i64 (Qn l j).ο.e,.int .i64 (Qn l j).sum.vars,.slice (U j) (n j) (u j)]
abbrev ndG(l:List Nd)(v:Nat->y9)(j:Nat):o3:=[.int .i64 (Qn l j).split,.bool (Qn l j).ο.b,.string (Qn l j).ο.s,.int .i64 (Qn l j).ο.e,.int .i64 (Qn l j).sum.vars,v j]
abbrev X7(l:List Py)(U:Nat->m3)(u:Nat->Nat)(j:Nat):o3:=[.int .i64 (QM l j).vars,.slice (U j) (QM l j).ts.length (u j)]
abbrev yz(l:List Py)(v:Nat->y9)(j:Nat):o3:=[.int .i64 (QM l j).vars,v j]
abbrev yx(l:List (List Nm))(U:Nat->m3)(u:Nat->Nat)(j:Nat):o3:=[.slice (U j) (Qu l j).length (u j)]
theorem Yh{l:List Tm}(h:k<l.length):Qb l k∈l:=by
 grind[Qb]
theorem KU{l:List Nm}(h:k<l.length):Xm l k∈l:=by
 grind[Xm]
theorem ET{l:List (Nm×Nm)}(h:k<l.length):QN l k∈l:=by
 grind[QN]
theorem VK{l:List Py}(h:k<l.length):QM l k∈l:=by
 grind[QM]
theorem DK{l:List Nd}(h:k<l.length):Qn l k∈l:=by
 grind[Qn]
theorem Ka{l:List (List Nm)}(h:k<l.length):Qu l k∈l:=by
 grind[Qu]
variable{α:Type}{v:y9}
theorem SlV.rd{o:Nat}{p:Rdg α}{l:List α}(h:SlV o k p w l v):
  ∃A c f,v=.slice A l.length c/\l.length<=c/\(A=none->l.length=0/\c=0)/\RdK w A l.length k f/\∀i (a:i<l.length),(f i).length=k/\p w l[i] (f i):=by
 let⟨A,c,d,g,m,q⟩:=h;by_cases n:0<l.length
 ·let⟨b,off,e,_,s⟩:=q n;have key:∀i,∃cs:o3,∀(a:i<l.length),cs.length=k/\p w l[i] cs/\∀j,j<k->w.cell? ⟨b,off+i*k+j,none⟩=cs[j]?:=λi=>by
   grind
  refine⟨A,c,λi=>Classical.choose (key i),d,g,m,λ_=>⟨b,off,e,λj r i a=>(Lq (key j) r).2.2 i a⟩,λi a=>⟨(Lq (key i) a).1,(Lq (key i) a).2.1⟩⟩
 ·exact⟨A,c,λ_=>[],d,g,m,λh=>absurd h n,λi a=>absurd a x3⟩
theorem RdK.congr{A:m3}{n:Nat}{f g:Nat->o3}(h:RdK w A n k f)(c:∀j,j<n->f j=g j):RdK w A n k g:=λa=>by
 let⟨b,off,e,d⟩:=h a
 grind
theorem Yi{l:List α}{d:α}(h:k<l.length):l.getD k d=l[k]:=by grind
def SlV.enc{α:Type}{b k:Nat}{enc:α->o3}{w:m0}{l:List α}{v:y9}(d:α)(h:SlV b k (λ_ x cs=>cs=enc x) w l v):
  ∃A c,v=.slice A l.length c/\l.length<=c/\(A=none->l.length=0/\c=0)/\RdK w A l.length k (λj=>enc (l.getD j d)):=by
 let⟨A,c,f,e,g,i,m,n⟩:=h.rd;exact⟨A,c,e,g,i,m.congr λj a=>by rw[(n j a).2,Yi a]⟩
theorem SlV.rdPy{l:List Py}(h:SlV a 2 (dX a) w l v):
  ∃(A:m3) (c:Nat) (d:Nat->y9),v=.slice A l.length c/\l.length<=c/\(A=none->l.length=0/\c=0)/\RdK w A l.length 2 (λj=>[.int .i64 (QM l j).vars,d j])/\∀j,j<l.length->SlV a 4 V7 w (QM l j).ts (d j):=by
 let⟨A,c,f,g,k,m,n,o⟩:=h.rd;have key:∀i,∃u:y9,i<l.length->f i=[.int .i64 (QM l i).vars,u]/\SlV a 4 V7 w (QM l i).ts u:=λi=>by
  by_cases e:i<l.length
  ·let⟨_,u,p,q⟩:=o i e
   grind[QM]
  ·exact⟨undef,λh=>absurd h e⟩
 exact⟨A,c,λi=>Classical.choose (key i),g,k,m,n.congr λj b=>(Lq (key j) b).1,λj b=>(Lq (key j) b).2⟩
theorem SlV.rdNd{l:List Nd}(h:SlV a 6 (lu a) w l v):
  ∃(A:m3) (c:Nat) (g:Nat->y9),v=.slice A l.length c/\l.length<=c/\(A=none->l.length=0/\c=0)/\RdK w A l.length 6 (λj=>[.int .i64 (Qn l j).split,.bool (Qn l j).ο.b,.string (Qn l j).ο.s,.int .i64 (Qn l j).ο.e,.int .i64 (Qn l j).sum.vars,g j])/\∀j,j<l.length->SlV a 4 V7 w (Qn l j).sum.ts (g j):=by
 let⟨A,c,f,m,n,o,p,q⟩:=h.rd;have key:∀i,∃u:y9,i<l.length->f i=[.int .i64 (Qn l i).split,.bool (Qn l i).ο.b,.string (Qn l i).ο.s,.int .i64 (Qn l i).ο.e,.int .i64 (Qn l i).sum.vars,u]/\SlV a 4 V7 w (Qn l i).sum.ts u:=λi=>by
  by_cases k:i<l.length
  ·let⟨_,u,r,t⟩:=q i k
   grind[Qn]
  ·exact⟨undef,λh=>absurd h k⟩
 exact⟨A,c,λi=>Classical.choose (key i),m,n,o,p.congr λj d=>(Lq (key j) d).1,λj d=>(Lq (key j) d).2⟩
theorem SlV.rdPt{l:List (List Nm)}(h:SlV a 1 (kz a) w l v):
  ∃(A:m3) (c:Nat) (d:Nat->y9),v=.slice A l.length c/\l.length<=c/\(A=none->l.length=0/\c=0)/\RdK w A l.length 1 (λj=>[d j])/\∀j,j<l.length->SlV a 3 VT w (Qu l j) (d j):=by
 let⟨A,c,f,g,k,m,n,o⟩:=h.rd;have key:∀i,∃u:y9,i<l.length->f i=[u]/\SlV a 3 VT w (Qu l i) u:=λi=>by
  by_cases e:i<l.length
  ·let⟨_,u,p,q⟩:=o i e
   grind[Qu]
  ·exact⟨undef,λh=>absurd h e⟩
 exact⟨A,c,λi=>Classical.choose (key i),g,k,m,n.congr λj b=>(Lq (key j) b).1,λj b=>(Lq (key j) b).2⟩
def Mf(l:List (Nm×Nm))(k:Nat):Bool:=decide (GP (nv (QN l k).1-nv (QN l k).2)>=0)
def V8(l:List (Nm×Nm)):Int:=if XQ l.length (Mf l)then 5 else if l.length=0 then 1 else 0
def ZX(n:Nat)(f:Nat->Bool):Int:=match (List.range n).find? f with|some k=>(k:Int)|none=>-1
theorem VD{n:Nat}(f:Nat->Bool)(h:∀j,j<k->f j=false)(b:k<n)(c:f k=true):ZX n f=(k:Int):=by
 have a:(List.range n).find? f=some k:=by
  simp_all
 unfold ZX;rw[a]
theorem Gg{n:Nat}(f:Nat->Bool)(h:∀j,j<n->f j=false):ZX n f=-1:=by
 grind[ZX]
theorem DG(n:Nat)(f:Nat->Bool):decide (ZX n f>=0)=XQ n f:=by
 by_cases h:∃j,j<n/\f j=true;all_goals grind[anyB_iff,ZX]
structure okP (p:Py):Prop where
 len:p.ts.length<=4294967296
 tms:∀t,t∈p.ts->t.m.size<=1048576/\okN t.c
def Yo(η:Int)(p:Py):Bool:=K9 p != 0||p.vars != η
def Xb(η:Int)(x:List Nm):Bool:=(x.length:Int) != η
def lr(x:Nm):Bool:=(x.b==false&&x.s.toList==(⟨#[]⟩:m1).toList)&&x.e==0
def Zm(η:Int)(x:Nd):Bool:=if(x.split != 0)=true then((x.split != 1||!lr x.ο)||x.sum.vars != 0)||decide ((x.sum.ts.length:Int)>0)else K9 x.sum != 0||x.sum.vars != η
def QY(δ vars:Int):Int:=if δ<1\/7<=δ\/vars<1 then 0 else if δ=5 then vars else if δ=2 then 2 else 1
def bm(x:Nm):Bool:=decide (sg x>0)
def Zd(s r c:Bool)(ν ε:Nm)(a:Nat)(ζ:Int)(b:Nat):Bool :=
 bif (s != bm ν)||(!s&&!lr ν)then false else
 bif (r != bm ε)||(!r&&(!lr ε||decide ((a:Int)>0)))then false else
 bif (s&&decide (ζ<1))||(!s&&ζ != 0)then false else
 c==decide ((b:Int)>0)
def Kt(nb a:Nat):Int:=bif decide ((nb:Int)>0)then 2*(nb:Int)else(a:Int)
def GR(nb:Nat)(a:List (List Nm))(vars:Int)(b:Bool):Bool :=
 bif decide ((nb:Int)>0)||b then((nb:Int)==vars)&&((a.length:Int)==0)else((a.length:Int)==vars+1)&&!XQ a.length λj=>Xb vars (Qu a j)
open Go.Lib
def pv(s:m1)(p:Nat):Nat:=JT (s.data.toList.take p)
def wi(s:m1):pv s 0=0:=rfl
theorem ie(s:m1){p:Nat}(h:p<s.size):pv s (p+1)=10*pv s p+(byt s p-48):=by
 simp_all[pv,byt,Rj,Fi]
def Qbm(s:m1):pv s s.size=JT s.data.toList:=by
 simp[pv,Rh]
def zE(s:m1):Prop:=∀j,j<s.size->48<=byt s j/\byt s j<=57
theorem yy{s:m1}(h:zE s):∀ {p:Nat},p<=s.size->pv s p<10^p
 |0,_=>by rw[wi];decide
 |p+1,a=>by
  have b:=yy h (p:=p) x3;have c:=h p x3
  grind[ie]
def A6{x n:Nat}(h:x<10^n):(QL x).size<=n:=by
 rw[GE];refine Xf (k:=8) x4 (L9 h ?_);simp[Nat.pow_le_pow_left]
variable{s:m1}
theorem Db{p:Nat}(h:w.heap[k]?=some (.stringIter s p)):k<w.heap.size:=by grind
def Pc(s:ByteArray)(w:World)(hs:s.size<=65536)(hd:zE s):
  o4 prog 239 #[.string s] w (.string (QL (JT s.data.toList))):=by
 have HD:=x0f hd;have F:=x0f (λ(p:Nat) (h:p<=s.size)=>yy hd h);have y:=x0f (Qbm s);clear hd;go_enter func239,ntmps239
 go_wp2
 go_step3
 go_wp2
 go_step3
 go_wp2
 go_loopw [3,4,5] (λmg n m wr=>∃p V N T:Nat,mg=.string (QL V)/\n=.int .u64 (N:Nat)/\m=.int .u64 (T:Nat)/\p<=s.size/\Hid (V*T+N=pv s p)/\N<T/\T<1000000000000000000/\Hid (p=s.size->T=1)/\wr.heap[w.heap.size]?=some (.stringIter s p)/\Below w.heap.size w wr) (λ_ _ _ wr=>s.size-wr.iterPos w.heap.size)
 case atStart=>exact⟨0,0,0,1,rfl,rfl,rfl,L7 _,x0f rfl,x4,x4,x0f (λ_=>rfl),World.iter_heap w s 0,Zv w s 0⟩
 case round =>
  obtain⟨p,V,N,T,rfl,rfl,rfl,hp,G,hN,hT,hE,hit,H⟩:=hrel;by_cases f:p<s.size
  ·let⟨I,J⟩:=HD.out p f;have q:∀r,(Instr.next (.pointer (some ⟨w.heap.size,0,none⟩)) true r).run prog wr=_:=λr=>Lib.run_next_ascii_at (P:=prog) wr w.heap.size s p r hit f (by rw[Vp];omega)
   simp only[Vp]at q;have a:=x0f (Lib.iterAt_heap wr w.heap.size s p (p+1) hit);have g:=x0f (show wr.iterPos w.heap.size=p by simp[World.iterPos,hit]);have b:=Lib.below_iterAt H (L4 _) s (p+1);have z:=x0f (ie s f);generalize wr.iterAt w.heap.size s (p+1)=w1 at *;obtain⟨D,hD⟩:∃D:Nat,byt s p=48+D:=⟨byt s p-48,x3⟩
   have K:D<=9:=x3;rw[hD]at q z;have ag:IntKind.u64.wrap (10*(N:Int))=10*(N:Int):=by rw[b7];omega
   have al:IntKind.i32.wrap (((48+D:Nat):Int)-48)=(D:Int):=by rw[IntKind.wrap_i32];omega
   have ao:IntKind.u64.wrap (D:Int)=(D:Int):=by rw[b7];omega
   have aB:IntKind.u64.wrap (10*(N:Int)+D)=((10*N+D:Nat):Int):=by rw[b7];omega
   have L:IntKind.u64.wrap (10*(T:Int))=((10*T:Nat):Int):=by rw[b7];omega
   have bd:IntKind.i64.wrap ((p:Int)+1)=((p+1:Nat):Int):=by rw[Le _ x3];omega
   have t:Hid (V*(10*T)+(10*N+D)=pv s (p+1)):=x0f (by
    rw[z.out,<- G.out,show 48+D-48=D by omega,Rp,Nat.mul_left_comm];omega)
   have l:10*N+D<10*T:=x3;have o:=x0f (show 10*T<10000000000000000000 by omega);have M:Hid (pv s (p+1)<10^(p+1)):=x0f (F.out (p+1) f);clear I J G hit hD K H hN;by_cases O:10*T<1000000000000000000/\p+1<s.size
   ·have i:((10*T:Nat):Int)<1000000000000000000:=x3;have A:((p+1:Nat):Int)<(s.size:Int):=x3;have HC:=x0f O;clear O hT;generalize 10*N+D=Q at *;generalize 10*T=E at *;generalize ((48+D:Nat):Int)=d at *;obtain⟨TI,u⟩:∃TI:Int,TI=(E:Int):=⟨_,rfl⟩
    rw[<- u]at i L;have R:=x0f u;clear u;go_wp2_with fail
    go_roundw
    case rel=>exact⟨p+1,V,Q,E,rfl,rfl,by rw[R.out],f,t,l,HC.out.1,x0f (λh=>absurd HC.out.2 x3),a.out,b⟩
    case measure=>rw[g.out];simp[World.iterPos,a.out];omega
   ·have S:=x0f (λ(x:Nat) W (h:x<10000000000000000000)=>Io x W (Ut h x4));have v:V*(10*T)<10^(p+1):=Lw (Rm _ _) (t.out▸M.out);have B:V<=V*(10*T):=Rz _ x3;have U:=x0f (λW=>Wy (QL V) (QL (10*T)) W (L6 (A6 (Lw B v)) x3) (L6 (A6 (n:=19) o.out) x4));rw[XT,XT]at U;have X:=x0f (λW=>TF (QL (V*(10*T))) (QL (10*N+D)) W 9 (L6 (A6 v) x3) (L6 (A6 (n:=19) (Ut l o.out)) x4));rw[XT,XT,t.out]at X;have c1:=x0f (λW=>S.out (10*T) W o.out);have c2:=x0f (λW=>S.out (10*N+D) W (Ut l o.out));clear S v B;have j:=x0f f;have k:(((10*T:Nat):Int)<1000000000000000000/\¬((p+1:Nat):Int)<(s.size:Int))\/¬((10*T:Nat):Int)<1000000000000000000:=x3;have Y:=x0f k;clear O hT l k f;generalize QL (V*(10*T))=z1 at *;generalize QL (10*N+D)=z2 at *;generalize QL (10*T)=z3 at *;generalize 10*N+D=Q at *;generalize 10*T=E at *;generalize ((48+D:Nat):Int)=d at *;generalize (E:Int)=TI at *;generalize (Q:Int)=NI at *;have ae:(p:Int)+1<=s.size:=hA j.out;rcases Y.out with⟨i,A⟩|i
    ·have d1:decide (TI<1000000000000000000)=true:=Lk i;have d2:decide (((p+1:Nat):Int)<(s.size:Int))=false:=Lc A;go_wp2_with fail
     refine(c1.out _).mono ?_
     rintro e w2 ⟨rfl,c⟩;replace b:=nxt b c;replace a:=x0f ((c.block _ (Db a.out)).trans a.out);clear c;go_wp2_with fail
     refine(U.out _).mono ?_
     rintro e w3 ⟨rfl,c⟩;replace b:=nxt b c;replace a:=x0f ((c.block _ (Db a.out)).trans a.out);clear c;go_wp2_with fail
     refine(c2.out _).mono ?_
     rintro e w4 ⟨rfl,c⟩;replace b:=nxt b c;replace a:=x0f ((c.block _ (Db a.out)).trans a.out);clear c;go_wp2_with fail
     refine(X.out _).mono ?_
     rintro e w5 ⟨rfl,c⟩;replace b:=nxt b c;replace a:=x0f ((c.block _ (Db a.out)).trans a.out);clear c;go_wp2_with fail
     go_roundw
     case rel=>exact⟨p+1,pv s (p+1),0,1,rfl,rfl,rfl,j.out,x0f x3,x4,x4,x0f (λ_=>rfl),a.out,b⟩
     case measure=>have:=j.out;rw[g.out];simp[World.iterPos,a.out];omega
    ·have d1:decide (TI<1000000000000000000)=false:=Lc i;go_wp2_with fail
     refine(c1.out _).mono ?_
     rintro e w2 ⟨rfl,c⟩;replace b:=nxt b c;replace a:=x0f ((c.block _ (Db a.out)).trans a.out);clear c;go_wp2_with fail
     refine(U.out _).mono ?_
     rintro e w3 ⟨rfl,c⟩;replace b:=nxt b c;replace a:=x0f ((c.block _ (Db a.out)).trans a.out);clear c;go_wp2_with fail
     refine(c2.out _).mono ?_
     rintro e w4 ⟨rfl,c⟩;replace b:=nxt b c;replace a:=x0f ((c.block _ (Db a.out)).trans a.out);clear c;go_wp2_with fail
     refine(X.out _).mono ?_
     rintro e w5 ⟨rfl,c⟩;replace b:=nxt b c;replace a:=x0f ((c.block _ (Db a.out)).trans a.out);clear c;go_wp2_with fail
     go_roundw
     case rel=>exact⟨p+1,pv s (p+1),0,1,rfl,rfl,rfl,j.out,x0f x3,x4,x4,x0f (λ_=>rfl),a.out,b⟩
     case measure=>have:=j.out;rw[g.out];simp[World.iterPos,a.out];omega
  ·obtain rfl:p=s.size:=x3;have q:∀r,(Instr.next (.pointer (some ⟨w.heap.size,0,none⟩)) true r).run prog wr=_:=λr=>Lib.run_next_end_at (P:=prog) wr w.heap.size s s.size r hit f
   have C:=hE.out rfl;have Z:=G.out;rw[y.out]at Z;have ad:=x0f (show V=JT s.data.toList by rw[<- Z,C];omega);clear Z C;go_wp2
   go_ret
   exact⟨by rw[ad.out];rfl,H⟩
def IR(s:m1)(A:m3):Res where
 φ x S w:=x=.bool false/\∃g,A=some ⟨g,0,none⟩/\(∀j,j<s.size->w.cell? ⟨g,j,none⟩=some (.int .u8 ((bt s j:Nat):Int)))/\∀b,S b↔b=g
 one _ _ _ h:=by rw[h.1];rfl
 loc x S w w' h hφ:=by
  let⟨c,g,d,e,a⟩:=hφ;exact⟨c,g,d,λj f=>(World.cell?_of_block (h g ((a g).2 rfl))).trans (e j f),a⟩
variable{S:Nat->Prop}
section
variable{P:z4}{w0:m0}
theorem lO{A:m3}{x:y9}{w:m0}(h:(IR s A).φ x S w):RdK w A s.size 1 (λj=>[.int .u8 ((bt s j:Nat):Int)]):=λ_=>by
 obtain⟨_,g,rfl,a,_⟩:=(show _/\_ from h)
 grind
theorem ME(P:z4)(w0:m0)(src dst e:o0)(c:P.underlying src=some .string)(d:P.underlying dst=some (.slice e))(f:P.underlying e=some (.int .u8))(s:m1):II P w0 [] (λy:Hp=>.slice y.1 s.size y.2) (λy:Hp=>IR s y.1) (Go.convert src dst (.string s)):=λW _=>by
 show Pf P W _ _ _;have a:=run_bytes_of_string (P:=P) W src dst e s c d f;refine⟨(some ⟨W.heap.size,0,none⟩,grownCap W s.size 0 e),.bool false,λb=>b=W.heap.size,_,a,((p5 _ W).drew).alloc (L4 _) _,(show _/\_ from⟨rfl,W.heap.size,rfl,λj g=>?_,λb=>Iff.rfl⟩),λb h=>?_⟩
 ·have i:(W.drew.alloc (.cells (bytesRow s (grownCap W s.size 0 e)) e ((bytesRow s (grownCap W s.size 0 e)).size,(bytesRow s (grownCap W s.size 0 e)).size+1))).heap[W.heap.size]?=some (.cells (bytesRow s (grownCap W s.size 0 e)) e ((bytesRow s (grownCap W s.size 0 e)).size,(bytesRow s (grownCap W s.size 0 e)).size+1)):=heap_alloc_new W.drew _;unfold World.cell?;rw[i];show(bytesRow s (grownCap W s.size 0 e))[j]?=_;rw[bytesRow_at s _ j g];congr 2;simp_all[bt]
 ·subst h;simp
end
variable{e bytes cp:Nat}{u:y9}
section
variable{P:z4}{w0:m0}{σ:St}
structure RowT (P:Program) (t t2:TypeId) (e:TypeId) (k bytes:Nat):Prop where
 ht:P.underlying t=some (.slice e)
 ht2:∃e2,P.underlying t2=some (.slice e2)
 hi:(P.info? e).map (λi=>(i.zero.map (·.cells.size),i.size,i.bytes))=some (some k,k,bytes)
 hk:0<k
 hb:0<bytes
theorem RowT.info{t c:Nat}(h:RowT P t c e k bytes):∃i z,P.info? e=some i/\i.zero=some z/\i.size=k/\i.bytes=bytes/\z.cells.size=k:=by
 have a:=h.hi;cases b:P.info? e with
 |none=>rw[b]at a;cases a
 |some i =>
  rw[b]at a;cases d:i.zero with
  |none=>simp[d]at a
  |some z =>
   grind
def Dw{t b c e d:o0}(f:P.underlying t=some (.slice e))(a:P.underlying b=some (.slice d))(A:m3)(n cp:Nat)(x:y9)(w:m0):(Builtin.append_ #[t,b] c #[.slice A n cp,x]).run P w=(Builtin.append_ #[t,t] c #[.slice A n cp,x]).run P w:=by
 simp[Builtin.append_,run_underlying f,run_underlying a]
def BO(c:α->o3)(l2:List α)(w:m0)(v:y9):Prop:=(∃a cp,v=.slice (some a) l2.length cp/\∀j u,(l2.flatMap c)[j]?=some u->w.cell? (a.add j)=some u)\/(v=.slice none 0 0/\l2=[])
theorem Fa{t B e:o0}{i:TypeInfo}{z:y9}{size:Nat}{w E:m0}(F:P.underlying t=some (.slice e))(G:P.info? e=some i)(M:i.zero=some z)(h:i.size=size)(x:i.bytes=bytes)(H:z.cells.size=size)(I:0<size){C:y9}{n:Nat}{y:o3}(f:w.ownsRow 0 e size v n y){a:Addr}{m c:Nat}{d:o3}(J:d.length=m*size)(k:∀j u,d[j]?=some u->w.cell? (a.add j)=some u)(N:∀u∈d,u.oneCell'=true)(A:n+m<=maxLen)(l:(n+m)*bytes<=140737488355328)(o:(Builtin.append_ #[t,t] B #[v,.slice (some a) m c]).run P w=.ok C E):∀b,C.ownBlock=some b->v.ownBlock=some b\/b=w.heap.size\/w.heap.size<=b:=by
 intro b O;rcases f.2 with⟨rfl,rfl⟩|⟨g,cap,Q,rfl,R,X,S,T,U,K⟩
 ·have p:w.ownsRow w.heap.size e size (.slice none 0 0) 0 y:=⟨f.1,.inl ⟨rfl,rfl⟩⟩
  let⟨V,L,s,W,_⟩:=run_append_own (P:=P) w w.heap.size t B e i z size bytes F G M h x H I _ _ _ p a m c d J k N A l (L4 _);rw[o]at s;obtain⟨rfl,rfl⟩:C=V/\E=L:=by injection s with a b;exact⟨a,b⟩
  exact .inr (.inr (W.lt b O).1)
 ·by_cases q:n+m<=cap
  ·let⟨L,s,_⟩:=run_append_fits (P:=P) w 0 t B e i size F G h g n cap y f a m c d J k N q;rw[o]at s;obtain⟨rfl,rfl⟩:C=_/\E=L:=by injection s with a b;exact⟨a,b⟩
   exact .inl O
  ·subst h;subst x;have D:n+m<=9223372036854775807:=by simp only[maxLen]at A;omega
   have r:∀j u,y[j]?=some u->w.cell? ((⟨g,0,none⟩:Addr).add j)=some u:=f.cells (g:=g) rfl;have s:=run_append_grow (P:=P) w t B e i z F G M ⟨g,0,none⟩ n cap y f.1 r a m c d J k x3 x3 (growslice_fits x3 l)
   grind[Value.ownBlock]
def Ih{t L ty:Nat}{c:α->o3}{l l2 C:List α}{A:m3}(m:RowT P t L e k bytes)(M:∀x,(c x).length=k)(N:∀x u,u∈c x->u.oneCell'=true)(X:l++l2=C)(O:C.length*bytes<=140737488355328){W:m0}(s:BO c l2 W u){x:y9}(Q:(Qc e k c l A cp).φ x S W):Gc P W (λy:Hp=>.slice y.1 C.length y.2) (λy:Hp=>Qc e k c C y.1 y.2) x S (Vf .append #[t,L] ty [.slice A l.length cp,u]):=by
 subst X;let⟨v,z,E,R,T,U,V⟩:=m.info;let⟨Y,w⟩:=m.ht2;let⟨F,d,q⟩:=(show _/\_/\_ from Q)
 have B:(l.flatMap c++l2.flatMap c)=(l++l2).flatMap c:=x6;have h:l.length+l2.length=(l++l2).length:=x6;have o:(l++l2).length<=maxLen:=by
  have G:=m.hb;have r:(l++l2).length<=(l++l2).length*bytes:=Rz _ G;simp only[maxLen];omega
 rcases s with⟨Z,H,I,i⟩|⟨I,e0⟩
 ·let⟨v',w',f,a,J,_⟩:=run_append_own (P:=P) W 0 t ty e v z k bytes m.ht E R T U V m.hk _ _ _ d Z l2.length H (l2.flatMap c) (QT M l2) i (λu K=>by
   let⟨x,_,s⟩:=Sa.1 K;exact N x u s) (by rw[h];exact o) (by rw[h];exact O) (L7 _)
  rw[B,h]at a;obtain⟨D,n,rfl⟩:∃D n,v'=.slice D (l++l2).length n:=by
   rcases a.2 with⟨rfl,e6⟩|⟨g,cap,ae,rfl,_⟩
   ·exact⟨none,0,by rw[e6]⟩
   ·exact⟨_,_,rfl⟩
  refine⟨(D,n),(λb=>(Value.slice D (l++l2).length n).ownBlock=some b),w',?_,Trn.of_grown J λk hk=>(q k).2 hk,(show _/\_/\_ from⟨F,a,λb=>Iff.rfl⟩),λb j=>?_⟩
  ·simp only[Vf];rw[I,Dw m.ht w];exact f
  ·have G:=a.lt b j;refine⟨?_,G.2⟩;rcases Fa m.ht E R T U V m.hk d (QT M l2) i (λu K=>by
    let⟨x,_,s⟩:=Sa.1 K;exact N x u s) (by rw[h];exact o) (by rw[h];exact O) f b j with r|r|r
   ·exact .inl ((q b).2 r)
   ·exact .inr (Su r.symm)
   ·exact .inr r
 ·subst e0;have f:=run_append_owned_none (P:=P) W 0 t ty e v k m.ht E (.slice A l.length cp) l.length _ d;have p:l++[]=l:=Rq l;refine⟨(A,cp),S,W,?_,Trn.refl _ _,?_,λb j=>⟨.inl j,?_⟩⟩
  ·simp only[Vf];rw[I,Dw m.ht w,p];exact f
  ·rw[p];exact Q
  ·exact(d.lt b ((q b).1 j)).2
def Gf(w0:m0){t:Nat}(ty:Nat)(c:α->o3)(l l2 l':List α)(A:m3)(cp:Nat)(u:y9)(b:RowT P t a e k bytes)(d:∀x,(c x).length=k)(f:∀x u,u∈c x->u.oneCell'=true)(g:l++l2=l')(h:l'.length*bytes<=140737488355328)(i:∀W,Below w0.heap.size w0 W->BO c l2 W u):
  ∀W,Below w0.heap.size w0 W->∀x S,(Qc e k c l A cp).φ x S W->Gc P W (λy:Hp=>.slice y.1 l'.length y.2) (λy:Hp=>Qc e k c l' y.1 y.2) x S (Vf .append #[t,a] ty [.slice A l.length cp,u]) :=
 λW j x S m=>Ih b d f g h (i W j) m
theorem YJ(w0:m0){t b:Nat}(ty:Nat)(bt m cp2:Nat)(c:α->o3)(l l2 l':List α)(A:m3)(cp:Nat)(cs:o3)(d:RowT P t b e k bytes)(f:∀x,(c x).length=k)(h:∀x u,u∈c x->u.oneCell'=true)(i:l++l2=l')(n:l'.length*bytes<=140737488355328)(o:m=l2.length)(a:cs=l2.flatMap c):
  ∀W,Below w0.heap.size w0 W->∀g,Bx W g bt cs.toArray->∀x S,(Qc e k c l A cp).φ x S W->Gc P W (λy:Hp=>.slice y.1 l'.length y.2) (λy:Hp=>Qc e k c l' y.1 y.2) x S (Vf .append #[t,b] ty [.slice A l.length cp,.slice (some ⟨g,0,none⟩) m cp2]) :=
 λW _ g p x S q=>by
  subst o;refine Ih d f h i n (.inl ⟨⟨g,0,none⟩,cp2,rfl,λj u r=>?_⟩) q;rw[add_plain,Lm,p.cel,a]
  grind
end
theorem YZ{l:List α}{d:α}(h:k<l.length):l.getD k d=l[k]:=by grind
def Xx(x:Nm):(Xk x).length=3:=rfl
def Q4(x:Tm):(QK x).length=4:=rfl
def iy(x:Nm×Nm):(JR x).length=6:=rfl
def Gn(x:Nm)(u:y9)(h:u∈Xk x):u.oneCell'=true:=by
 simp only[Xk,Lb,Ri,or_false]at h;rcases h with rfl|rfl|rfl<;>rfl
def K2(x:Tm)(u:y9)(h:u∈QK x):u.oneCell'=true:=by
 simp only[QK,Lb,Ri,or_false]at h;rcases h with rfl|rfl|rfl|rfl<;>rfl
def wH(x:Nm×Nm)(u:y9)(h:u∈JR x):u.oneCell'=true:=by
 simp only[JR,Lb,Ri,or_false]at h;rcases h with rfl|rfl|rfl|rfl|rfl|rfl<;>rfl
variable{β:Type}
theorem tk(f:α->List β){l:List α}(d:α)(h:k<l.length)(pre:List β):(pre++(l.take k).flatMap f)++f (l.getD k d)=pre++(l.take (k+1)).flatMap f:=by
 rw[Rl]
 grind[Rj]
def Jg(f:α->List β){l:List α}(h:l.length<=k)(pre:List β):pre++(l.take k).flatMap f=pre++l.flatMap f:=by rw[Rh h]
variable{f:FuncId}{args:x0g}{fn:Func}
section
variable{P:z4}{w0:m0}{σ:St}
def GM{c:α->o3}(m:∀x,(c x).length=k)(n:0<k){d:α}{l2:List α}{A:m3}{w:m0}(h:RdK w A l2.length k (λj=>c (l2.getD j d)))(q:A=none->l2.length=0/\cp=0):BO c l2 w (.slice A l2.length cp):=by
 cases A with
 |none =>
  obtain⟨r,rfl⟩:=q rfl;have e:l2=[]:=Ry r;subst e;exact .inr ⟨rfl,rfl⟩
 |some a =>
  refine .inl ⟨a,cp,rfl,λj u i=>?_⟩;have l:j<l2.length*k:=by rw[<- QT m l2];exact(c9.1 i).1
  have o:j=j / k*k+j % k:=by rw[Ls];exact(Tc j k).symm
  have b:j / k<l2.length:=(Lr n).2 l;have f:j % k<k:=Re _ n;let⟨g,off,s,t⟩:=h (Lw (L7 _) b);obtain rfl:=o7 s;rw[o,Jv m b f]at i;have p:w.cell? ⟨g,off+j / k*k+j % k,none⟩=(c (l2.getD (j / k) d))[j % k]?:=t _ b _ f;rw[YZ b]at p;rw[add_plain,o,<- Sf,p];exact i
def JN{c:α->o3}{l:List α}{A:m3}(n:∀x,(c x).length=k)(d:α){x:y9}{w:m0}(h:(Qc e k c l A cp).φ x S w):RdK w A l.length k (λj=>c (l.getD j d)):=by
 let⟨_,h,_⟩:=(show _/\_/\_ from h)
 intro t;rcases h.2 with⟨b,u⟩|⟨g,cap,f,b,_,o,p,_,q,a⟩
 ·omega
 ·injection b with b _ _
  refine⟨g,0,b,λj m i r=>?_⟩;show _=(c (l.getD j d))[i]?;rw[Lm,cell_of_row w g (j*k+i) f e (0,0) o,<- Array.getElem?_toList,YZ m,<- Jv n m r,<- a,b9];have s:(j+1)*k<=l.length*k:=Lt _ x3;rw[Ru]at s;omega
theorem M6{c:α->o3}{l:List α}{A:m3}{x:y9}{w:m0}(h:(Qc e k c l A cp).φ x S w):(A=none->l.length=0/\cp=0)/\∀a,A=some a->a.spot=none:=by
 let⟨_,h,_⟩:=(show _/\_/\_ from h)
 rcases h.2 with⟨b,f⟩|⟨g,cap,d,b,_⟩
 all_goals grind
def Jl(w0:m0)(e k:Nat)(c:α->o3)(l:List α)(A:m3)(cp:Nat){m:Sem y9}(a:∀x,(c x).length=k)(d:α)(h:∀W,RdK W A l.length k (λj=>c (l.getD j d))->Qp P W m R):GJ P w0 [Qc e k c l A cp] m R:=λW _ x S b=>h W (JN a d b) W (p5 _ _)
def Qc1(i:Nat)(val:β->y9)(ρ:β->Res)(s:SV)(σ:St):Prop:=ZO (Xq σ.rs i) λR=>∃y:β,s=.val (val y)/\∀x S w,R.φ x S w->(ρ y).φ x S w
theorem Bf(β:Type){tt:List (Nat×TI)}(l:YF P tt)(m:P.follows .mixedOrders=true)(n:Xt P f)(o:P.funcs[f]?=some fn){N:Nat}(p:fn.ntmps=N){rs:Array ResultVar}(q:fn.results=rs)(args:o3)(t:Nat.ble args.length N=true)(i:Nat)(val:β->y9)(ρ:β->Res)(d:List Dir){T:m0->Prop}(h:∀W,Below w0.heap.size w0 W->T W)(u:∀W,T W=C6 P tt W fn (SH N args) d λe σ _=>VV tt rs.toList e σ λs=>Qc1 i val ρ s σ):NewIn P w0 [] f args.toArray val ρ:=by
 refine⟨n,λW v=>?_⟩;have key:=u W▸h W v;subst p;subst q;unfold C6 at key;cases g:fn.body with
 |none =>
  grind
 |some c =>
  rw[g]at key;refine(H9 l m o g t (λs σ=>Qc1 i val ρ s σ) key).mono ?_
  rintro e B ⟨s,σ,r,a,rfl,w,j⟩;obtain⟨R,k,y,rfl,x⟩:=QH w;let⟨z,A⟩:=j.see.rs i R k;exact⟨y,_,_,rfl,x _ _ _ z,λb g=>⟨j.sep.ownS i R k b g,A b g⟩,j.see.low⟩
def NewIn.at{val:β->y9}{ρ:β->Res}(h:NewIn P w0 [] f args val ρ):Calls P f args w0 λe a=>∃y x S,e=.returned (val y)/\(ρ y).φ x S a/\(∀b,S b->w0.heap.size<=b/\b<a.heap.size)/\Below w0.heap.size w0 a:=h.2 w0 (p5 _ _)
end
def SlS(S:Nat->Prop)(k:Nat)(c:α->o3)(w:m0)(l:List α)(v:y9):Prop :=
 ∃A cp,v=.slice A l.length cp/\l.length<=cp/\(A=none->l.length=0/\cp=0)/\(0<l.length->∃b off,A=some ⟨b,off,none⟩/\S b/\∀i (h:i<l.length),∀j,j<k->w.cell? ⟨b,off+i*k+j,none⟩=(c l[i])[j]?)
theorem SlS.loc{c:α->o3}{a:m0}{l:List α}(h:SlS S k c w l v)(g:∀b,S b->a.heap[b]?=w.heap[b]?):SlS S k c a l v:=by
 let⟨A,cp,d,e,f,i⟩:=h;refine⟨A,cp,d,e,f,λj=>?_⟩
 grind[World.cell?_of_block]
theorem SlS.mono{S':Nat->Prop}{c:α->o3}{l:List α}(h:SlS S k c w l v)(f:∀b,S b->S' b):SlS S' k c w l v:=by
 let⟨A,cp,a,d,e,g⟩:=h;refine⟨A,cp,a,d,e,λi=>?_⟩
 grind
theorem qh{c:α->o3}{l:List α}{A:m3}(m:∀x,(c x).length=k){x:y9}(h:(Qc e k c l A cp).φ x S w):SlS S k c w l (.slice A l.length cp):=by
 let⟨_,h,n⟩:=(show _/\_/\_ from h)
 refine⟨A,cp,rfl,?_,?_,λu=>?_⟩
 ·rcases h.2 with⟨a,f⟩|⟨g,cap,b,a,_,_,v,_⟩
  all_goals grind
 ·rcases h.2 with⟨a,f⟩|⟨g,cap,b,a,_⟩
  all_goals grind
 ·rcases h.2 with⟨a,f⟩|⟨g,cap,b,a,_,o,p,_,q,d⟩
  ·omega
  ·injection a with a _ _
   subst a;refine⟨g,0,rfl,(n g).2 rfl,λi r j s=>?_⟩;rw[Lm,cell_of_row w g (i*k+j) b e (0,0) o,<- Array.getElem?_toList,<- Jv m r s,<- d,b9];have t:(i+1)*k<=l.length*k:=Lt _ x3;rw[Ru]at t;omega
def G4(j k:Nat)(c:α->o3)(d:List (List α))(A:m3)(cp:Nat):Res where
 φ x S w:=x.oneCell'=true/\∃(l:o3) (e:Nat->Prop),w.ownsRow 0 j 1 (.slice A d.length cp) d.length l/\(∀i (h:i<d.length),SlS e k c w d[i] (l.getD i undef))/\(∀b,e b->(Value.slice A d.length cp).ownBlock≠some b/\b<w.heap.size)/\∀b,S b↔(Value.slice A d.length cp).ownBlock=some b\/e b
 one _ _ _ h:=h.1
 loc x S w w' h hφ:=by
  let⟨s,l,e,q,t,r,m⟩:=hφ;refine⟨s,l,e,⟨q.1,?_⟩,λi u=>(t i u).loc λb a=>h b ((m b).2 (.inr a)),λb a=>⟨(r b a).1,?_⟩,m⟩
  ·rcases q.2 with n|⟨g,cap,o,j,a,v,f⟩
   ·exact .inl n
   ·exact .inr ⟨g,cap,o,j,a,(h g ((m g).2 (.inl (by rw[j];rfl)))).trans v,f⟩
  ·have n:=h b ((m b).2 (.inr a));have y:=(r b a).2;rcases R5 b w'.heap.size with p|p
   ·exact p
   ·rw[p7 p,Array.getElem?_eq_getElem y]at n;cases n
def wX(a k:Nat)(c:α->o3)(c0:β->o3)(x:y9)(S:Nat->Prop)(w:m0)(h:(Qc a 1 c0 ([]:List β) none 0).φ x S w):(G4 a k c ([]:List (List α)) none 0).φ x S w:=by
 let⟨e,_,d⟩:=(show _/\_/\_ from h)
 exact(show _/\_ from⟨e,[],λ_=>False,World.ownsRow_nil w 0 a 1,λi f=>absurd f (R4 _),λ_ h=>h.elim,λb=>⟨λh=>.inl ((d b).1 h),λh=>h.elim (d b).2 False.elim⟩⟩)
variable{h:Nat}
section
variable{P:z4}{w0:m0}
theorem wW{t t2 ty U bt R:Nat}{c:α->o3}{f:List (List α)}{l:List α}{A B:m3}(E:RowT P t t2 U 1 bytes)(hc:∀x,(c x).length=k)(O:(f++[l]).length*bytes<=140737488355328):
  ∀W,Below w0.heap.size w0 W->∀g,Bx W g bt #[.slice B l.length h]->∀x S,(Qj (G4 U k c f A cp) (Qc e k c l B h)).φ x S W ->
   Gc P W (λy:Hp=>.slice y.1 (f++[l]).length y.2) (λy:Hp=>G4 U k c (f++[l]) y.1 y.2) x S (Vf .append #[t,t2] ty [.slice A f.length cp,.slice (some ⟨g,0,none⟩) 1 R]):=λW _ g hg x S hφ=>by
 let⟨S1,I,x2,X,hR,ao,J⟩:=(show ∃S1 K x2,_ from hφ)
 let⟨Y,Q,K,q,L,aB,M⟩:=(show _/\_ from X)
 have T:=qh hc hR;let⟨_,N,Z⟩:=(show _/\_/\_ from hR)
 let⟨ad,z,i1,i2,i3,i4,i5⟩:=E.info;let⟨bd,ae⟩:=E.ht2;have r:f.length+1=(f++[l]).length:=x6;have F:(f++[l]).length<=maxLen:=by
  have o:=E.hb;have h3:(f++[l]).length<=(f++[l]).length*bytes:=Rz _ o
  grind[maxLen]
 have s:∀j u,[Value.slice B l.length h][j]?=some u->W.cell? ((⟨g,0,none⟩:Addr).add j)=some u:=λj u hj=>by
  rw[add_plain,Lm,hg.cel]
  grind
 have G:∀u∈[Value.slice B l.length h],u.oneCell'=true:=λu hu=>by
  rw[Ly]at hu;rw[hu];rfl
 have ag:Q.length=f.length:=l3 q.1;let⟨v',w',H,n,C,_⟩:=run_append_own (P:=P) W 0 t ty U ad z 1 bytes E.ht i1 i2 i3 i4 i5 E.hk _ _ _ q ⟨g,0,none⟩ 1 R [.slice B l.length h] rfl s G (by rw[r];exact F) (by rw[r];exact O) (L7 _);have p:=Fa E.ht i1 i2 i3 i4 i5 E.hk q (m:=1) rfl s G (by rw[r];exact F) (by rw[r];exact O) H;rw[r]at n;obtain⟨V,D,rfl⟩:∃V D,v'=.slice V (f++[l]).length D:=by
  rcases n.2 with⟨rfl,e6⟩|⟨g,cap,bi,rfl,_⟩
  all_goals grind
 have al:∀b,I b->b<W.heap.size:=λb d=>(N.lt b ((Z b).1 d)).2
 have a:∀b,K b\/I b->b<W.heap.size/\(Value.slice A f.length cp).ownBlock≠some b:=λb d=>by
  grind
 have v:∀b,K b\/I b->w'.heap[b]?=W.heap[b]?:=λb d=>C.block b (a b d).1 λe=>(a b d).2 e.symm
 refine⟨(V,D),(λb=>(Value.slice V (f++[l]).length D).ownBlock=some b\/(K b\/I b)),w',?_,Trn.of_grown C λb d=>(J b).2 (.inl ((M b).2 (.inl d))),?_,λb d=>?_⟩
 ·simp only[Vf];rw[Dw E.ht ae];exact H
 ·refine(show _/\_ from⟨Y,Q++[.slice B l.length h],(λb=>K b\/I b),n,λi hi=>?_,λb d=>⟨λw=>?_,L9 (a b d).1 C.size⟩,λb=>Iff.rfl⟩)
  ·rcases R5 i f.length with w|w
   ·rw[List.getElem_append_left w];have o:=((L i w).mono (S':=λb=>K b\/I b) λb O=>.inl O).loc v;rwa [show(Q++[Value.slice B l.length h]).getD i undef=Q.getD i undef by simp[List.getD,List.getElem?_append_left (show i<Q.length by omega)]]
   ·have o:i=f.length:=by simp at hi;omega
    subst o;have h3:=(T.mono (S':=λb=>K b\/I b) λb O=>.inr O).loc v;rw[show(f++[l])[f.length]=l by simp];rwa [show(Q++[Value.slice B l.length h]).getD f.length undef=.slice B l.length h by simp[List.getD,<- ag]]
  ·rcases p b w with o|o|o
   ·exact(a b d).2 o
   ·have:=(a b d).1;omega
   ·have:=(a b d).1;omega
 ·rcases d with w|w
  ·refine⟨?_,(n.lt b w).2⟩;rcases p b w with o|o|o
   ·exact .inl ((J b).2 (.inl ((M b).2 (.inl o))))
   ·exact .inr (Su o.symm)
   ·exact .inr o
  ·refine⟨.inl ((J b).2 ?_),L9 (a b w).1 C.size⟩;rcases w with o|o
   ·exact .inl ((M b).2 (.inr o))
   ·exact .inr o
theorem QbU{r:Nat}{c:α->o3}{m:List (List α)}{A:m3}(G:∀x,(c x).length=k)(d:α){x:y9}{w:m0}(h:(G4 r k c m A cp).φ x S w):RdT w A m.length k (λi=>(m.getD i []).length) (λi j=>c ((m.getD i []).getD j d)):=by
 let⟨_,H,I,n,f,_,_⟩:=(show _/\_ from h)
 intro J;rcases n.2 with⟨a,K⟩|⟨g,cap,o,a,_,v,y,_,z,p⟩
 ·omega
 ·injection a with a _ _
  refine⟨g,0,a,λi s=>?_⟩;let⟨B,ci,k1,C,D,E⟩:=f i s;dsimp only;rw[YZ (d:=[]) s];refine⟨B,ci,C,D,?_,λF=>?_⟩
  ·rw[Lm,cell_of_row w g i o r (0,0) v,<- k1,<- Array.getElem?_toList]
   grind
  ·let⟨b,off,e,_,l⟩:=E F;refine⟨b,off,e,λj t u q=>?_⟩;show _=(c (m[i].getD j d))[u]?;rw[YZ t];exact l j t u q
end
structure LP where
 p:Nat->(Nat->Prop)->World->List Value->Prop
 loc:∀i S w w' cs,(∀b,S b->w'.heap[b]?=w.heap[b]?)->p i S w cs->p i S w' cs
 mono:∀i S S' w cs,(∀b,S b->S' b)->p i S w cs->p i S' w cs
def LP.known(f:Nat->o3):LP:=⟨λi _ _ cs=>cs=f i,λ_ _ _ _ _ _ h=>h,λ_ _ _ _ _ _ h=>h⟩
def Qx(e m n:Nat)(L:LP)(A:m3)(cp:Nat):Res where
 φ x S w:=x.oneCell'=true/\∃(f:Nat->o3) (c:Nat->Prop),(∀j,(f j).length=m)/\w.ownsRow 0 e m (.slice A n cp) n ((List.range n).flatMap f)/\(∀i,i<n->L.p i c w (f i))/\(∀b,c b->(Value.slice A n cp).ownBlock≠some b/\b<w.heap.size)/\∀b,S b↔(Value.slice A n cp).ownBlock=some b\/c b
 one _ _ _ h:=h.1
 loc x S w w' h hφ:=by
  let⟨u,f,c,v,r,y,s,k⟩:=hφ;refine⟨u,f,c,v,⟨r.1,?_⟩,λi z=>L.loc i c w w' _ (λb a=>h b ((k b).2 (.inr a))) (y i z),λb a=>⟨(s b a).1,?_⟩,k⟩
  ·rcases r.2 with l|⟨g,cap,o,t,a,B,d⟩
   ·exact .inl l
   ·exact .inr ⟨g,cap,o,t,a,(h g ((k g).2 (.inl (by rw[t];rfl)))).trans B,d⟩
  ·have l:=h b ((k b).2 (.inr a));have C:=(s b a).2;rcases R5 b w'.heap.size with q|q
   ·exact q
   ·rw[p7 q,Array.getElem?_eq_getElem C]at l;cases l
theorem CW(c:α->o3)(l:List α)(d:α):(List.range l.length).flatMap (λj=>c (l.getD j d))=l.flatMap c:=by
 have h:((List.range l.length).map λj=>l.getD j d)=l:=by
  apply List.ext_getElem;all_goals grind
 conv=>rhs;rw[<- h]
 rw[List.flatMap_map]
variable{L:LP}
def Mh{m:Nat}{c:α->o3}{l:List α}{A:m3}(f:∀x,(c x).length=m)(d:α)(h:∀i,i<l.length->∀S w,L.p i S w (c (l.getD i d))){x:y9}(g:(Qc e m c l A cp).φ x S w):(Qx e m l.length L A cp).φ x S w:=by
 let⟨k,n,a⟩:=(show _/\_/\_ from g)
 refine(show _/\_ from⟨k,λj=>c (l.getD j d),λ_=>False,λ_=>f _,?_,λi o=>h i o _ _,λ_ h=>h.elim,λb=>⟨λh=>.inl ((a b).1 h),λh=>h.elim (a b).2 False.elim⟩⟩);rw[CW];exact n
def AP(e c m:Nat)(c0:β->o3)(L:LP)(x:y9)(S:Nat->Prop)(w:m0)(h:(Qc c m c0 ([]:List β) none 0).φ x S w):(Qx e m 0 L none 0).φ x S w:=by
 let⟨d,_,a⟩:=(show _/\_/\_ from h)
 exact(show _/\_ from⟨d,λ_=>List.replicate m undef,λ_=>False,λ_=>x6,World.ownsRow_nil w 0 e m,λi f=>absurd f (R4 _),λ_ h=>h.elim,λb=>⟨λh=>.inl ((a b).1 h),λh=>h.elim (a b).2 False.elim⟩⟩)
def PP{m n:Nat}{A:m3}{x:y9}(t:(Qx e m n L A cp).φ x S w):∃(f:Nat->o3) (h:Nat->Prop),(∀j,(f j).length=m)/\RdK w A n m f/\(∀i,i<n->L.p i h w (f i))/\(∀b,h b->S b/\b<w.heap.size):=by
 let⟨G,f,h,r,o,u,v,y⟩:=(show _/\_ from t)
 refine⟨f,h,r,λH=>?_,u,λb s=>⟨(y b).2 (.inr s),(v b s).2⟩⟩;rcases o.2 with⟨k,I⟩|⟨g,cap,q,k,_,z,B,_,C,a⟩
 ·omega
 ·injection k with k _ _
  refine⟨g,0,k,λj D i E=>?_⟩;have F:∀j,(f j).length=m:=r;have d:=Jv (c:=f) F (l:=List.range n) (j:=j) (i:=i) (l3 D) E;rw[Tw]at d;rw[Lm,cell_of_row w g (j*m+i) q e (0,0) z,<- Array.getElem?_toList,<- d,<- a,b9];have o:(j+1)*m<=n*m:=Lt _ x3;rw[Ru]at o;omega
variable{M:Sem y9}
def m9{P:z4}{m n:Nat}{A:m3}(h:∀W f a,RdK W A n m f->(∀i,i<n->L.p i a W (f i))->Qp P W M R):GJ P w0 [Qx e m n L A cp] M R:=λW _ x S b=>by
 let⟨f,a,_,c,d,_⟩:=PP b;exact h W f a c d W (p5 _ _)
theorem fV{c m:Nat}{p:Rdg α}{l:List α}{n:Nat}{A:m3}{x:y9}(k:n=l.length)(o:(Qx e m n L A cp).φ x S w)(C:∀b,S b->c<=b)(D:∀i (h:i<l.length) d cs,(∀b,d b->c<=b)->L.p i d w cs->p w l[i] cs):SlV c m p w l (.slice A n cp):=by
 subst k;let⟨E,f,d,F,q,G,H,r⟩:=(show _/\_ from o)
 let⟨I,s,t,u,v,y⟩:=PP o;refine⟨A,cp,rfl,?_,?_,λz=>?_⟩
 ·rcases q.2 with⟨a,B⟩|⟨g,cap,j,a,_,_,k,_⟩
  all_goals grind
 ·rcases q.2 with⟨a,B⟩|⟨g,cap,j,a,_⟩
  all_goals grind
 ·let⟨b,off,a,J⟩:=u z;have K:S b:=by
   rw[a]at r;exact(r b).2 (.inl rfl)
  grind
def Pe(R:Res):Prop:=∀x S w,R.φ x S w->∀b,S b->b<w.heap.size
theorem Ca{c:α->o3}{l:List α}{A:m3}:Pe (Qc e k c l A cp):=λx S w h b a=>by
 let⟨_,d,f⟩:=(show _/\_/\_ from h)
 exact(d.lt b ((f b).1 a)).2
theorem AO{m n:Nat}{A:m3}:Pe (Qx e m n L A cp):=λx S w h b c=>by
 let⟨_,f,i,_,d,_,j,g⟩:=(show _/\_ from h)
 rcases(g b).1 c with a|a
 ·exact(d.lt b a).2
 grind
theorem Gu{α:Type}:∀(l:List α) (k:Nat) (a:List α) (j:Nat),k+a.length<=l.length->(spl l k a)[j]?=if k<=j/\j<k+a.length then a[j-k]? else l[j]?
 |[],k,a,j,h=>by
  grind[spl]
 |x::l,k,[],j,h=>by
  rw[KY,if_neg λh=>Nat.not_lt.2 h.1 (l3 h.2)]
 |x::l,0,v::a,j,h=>by
  show(v::spl l 0 a)[j]?=_;cases j with
  |zero=>simp
  |succ j =>
   rw[List.getElem?_cons_succ,Gu l 0 a j (by simp at h ⊢;omega)];simp
 |x::l,k+1,v::a,j,h=>by
  show(x::spl l k (v::a))[j]?=_;cases j with
  |zero=>simp
  |succ j =>
   rw[List.getElem?_cons_succ,Gu l k (v::a) j (by simp at h ⊢;omega)]
   grind
theorem an{f:Nat->o3}{m n i o:Nat}{b:o3}(e:∀j,(f j).length=m)(x:i<n)(y:o+b.length<=m):spl ((List.range n).flatMap f) (i*m+o) b=(List.range n).flatMap (λj=>if j=i then spl (f j) o b else f j):=by
 have d:∀j,((λj=>if j=i then spl (f j) o b else f j) j).length=m:=λj=>by
  grind[Gv]
 have k:((List.range n).flatMap f).length=n*m:=by rw[QT e,Sb]
 have g:(i+1)*m<=n*m:=Lt _ x3;rw[Ru]at g;apply List.ext_getElem?;intro j;rw[Gu _ _ _ _ (by rw[k];omega)];by_cases z:j<n*m
 ·have p:0<m:=by
   grind
  have A:j=j / m*m+j % m:=by rw[Ls];exact(Tc j m).symm
  have s:j / m<n:=(Lr p).2 z;have t:j % m<m:=Re _ p;generalize B:j / m=q at *;generalize C:j % m=r at *;subst A;have u:=Jv (c:=f) e (l:=List.range n) (j:=q) (i:=r) (l3 s) t;have v:=Jv (c:=λj=>if j=i then spl (f j) o b else f j) d (l:=List.range n) (j:=q) (i:=r) (l3 s) t;rw[Tw]at u v;rw[u,v];by_cases a:q=i
  ·subst a;rw[if_pos rfl,Gu _ _ _ _ (by rw[e];exact y)];by_cases w:o<=r/\r<o+b.length
   ·rw[if_pos w,if_pos x3];congr 1;omega
   ·rw[if_neg w,if_neg x3]
  ·rw[if_neg a,if_neg];rcases Nat.lt_or_gt_of_ne a with h|h
   ·have:=Lt m (show q+1<=i by omega);rw[Ru]at this;omega
   ·have:=Lt m (show i+1<=q by omega);rw[Ru]at this;omega
 ·rw[if_neg x3,a8 (by rw[k];omega),a8 (by rw[QT d,Sb];omega)]
theorem ap(l:List α)(k N:Nat)(a:List α)(h:k+a.length<=N)(b:N<=l.length):(spl l k a).take N=spl (l.take N) k a:=by
 apply List.ext_getElem?
 grind[Gu]
variable{g:Nat}
def Bx.setL{t:o0}:∀(a:o3) (k:Nat) {w:m0} {l:o3},Bx w g t l.toArray->Bx (Dr w g k a) g t (spl l k a).toArray
 |[],k,w,l,h=>by rw[KY];exact h
 |v::a,k,w,l,h=>by
  show Bx (Dr (w.setCell ⟨g,k,none⟩ v) g (k+1) a) g t _;rw[EU];have b:=h.set k v;rw[List.setIfInBounds_toArray]at b;exact Bx.setL a (k+1) b
variable{ti:TI}
section
variable{P:z4}{w0:m0}
def Vm{w:m0}{S:Nat->Prop}{g:Nat}(b:S g):∀(a:o3) (k:Nat),Trn S w (Dr w g k a)
 |[],_=>Trn.refl _ _
 |v::a,k=>by
  show Trn S w (Dr (w.setCell ⟨g,k,none⟩ v) g (k+1) a);exact(Trn.setCell (p:=⟨g,k,none⟩) b v).trans (Vm b a (k+1))
def jW{m n t i o:Nat}{J:LP}{A:m3}{R2:Res}{B:o3}(hi:Yw P t=some ti)(hv:v.cells.toList=B)(hs:B.length=ti.size)(O:i<n)(ho:o+B.length<=m)(h1:∀u,u∈B->u.oneCell'=true)(hF:Pe R2)(hL:∀j,j<n->j≠i->∀S w cs,L.p j S w cs->J.p j S w cs)(Q:∀K d M w cs,cs.length=m->L.p i K w cs->R2.φ M d w->J.p i (λb=>K b\/d b) w (spl cs o B)):
  ∀W x S,(Qj (Qx e m n L A cp) R2).φ x S W->Gc P W (λ_:Unit=>undef) (λ_:Unit=>Qx e m n J A cp) x S (GZ t [.pointer (some (Q5 A (i*m+o))),v]):=λW x S hφ=>by
 let⟨K,R,M,hG,T,C,q⟩:=(show ∃K d M,_ from hφ)
 let⟨U,f,d,z,D,h3,h4,V⟩:=(show _/\_ from hG)
 rcases D.2 with⟨N,e2⟩|⟨g,cap,l,N,X,hg,E,Y,Z,r⟩
 ·omega
 injection N with N _ e3
 subst N;subst e3;subst hv;have F:Bx W g e l.toList.toArray:=by simpa [Bx]using hg
 have ad:(i+1)*m<=n*m:=Lt _ x3;rw[Ru]at ad;have ae:n*m<=cp*m:=Lt _ E;have s:l.toList.length=cp*m:=by rw[Si,Z]
 have G:=Vo P t (i*m+o) v hi F (by rw[<- Si];exact hs) (by rw[s,<- hs];omega) h1;have ag:S g:=(q g).2 (.inl ((V g).2 (.inl rfl)));have al:Trn S W (Dr W g (i*m+o) v.cells.toList):=Vm ag _ _;have c:∀b,b≠g->(Dr W g (i*m+o) v.cells.toList).heap[b]?=W.heap[b]?:=λb a=>JC _ _ _ _ _ a
 have ao:∀b,d b->b≠g:=λb a e=>(h4 b a).1 (by rw[e];rfl)
 have H:∀b,R b->b≠g:=λb a e=>C g ((V g).2 (.inl rfl)) (e▸a)
 have I:(Dr W g (i*m+o) v.cells.toList).heap.size=W.heap.size:=Jd _ _ _ _;refine⟨(),S,_,?_,al,(show _/\_ from⟨U,λj=>if j=i then spl (f j) o v.cells.toList else f j,λb=>d b\/R b,λj=>?_,⟨?_,?_⟩,λj hj=>?_,λb a=>?_,λb=>?_⟩),λb a=>?_⟩
 ·unfold GZ;have ea:Q5 (some ⟨g,0,none⟩) (i*m+o)=⟨g,i*m+o,none⟩:=by simp[Q5]
  rw[ea,c7,G];rfl
 ·dsimp only;split
  ·rw[Gv,z]
  ·exact z j
 ·rw[QT (k:=m) (λj=>by
   split
   ·rw[Gv,z]
   ·exact z j),Sb]
 ·refine .inr ⟨g,cp,(spl l.toList (i*m+o) v.cells.toList).toArray,rfl,X,F.setL _ _,E,Y,?_,?_⟩
  ·rw[Rs,Gv,s]
  ·show(spl l.toList (i*m+o) v.cells.toList).take (n*m)=_;rw[ap _ _ _ _ x3 (by rw[s];exact ae),r,an z O ho]
 ·dsimp only;have k1:L.p j d (Dr W g (i*m+o) v.cells.toList) (f j):=L.loc j d W _ _ (λb a=>c b (ao b a)) (h3 j hj);by_cases y:j=i
  ·subst y;rw[if_pos rfl];exact Q d R M _ _ (z j) k1 (R2.loc _ _ _ _ (λb a=>c b (H b a)) T)
  ·rw[if_neg y];exact J.mono j d _ _ _ (λb a=>.inl a) (hL j hj y _ _ _ k1)
 ·rw[I];rcases a with a|a
  ·exact h4 b a
  ·exact⟨λe=>H b a (by injection e with e;exact e.symm),hF _ _ _ T b a⟩
 ·rw[q,V];constructor
  ·rintro((h|h)|h)
   ·exact .inl h
   ·exact .inr (.inl h)
   ·exact .inr (.inr h)
  ·rintro(h|h|h)
   ·exact .inl (.inl h)
   ·exact .inl (.inr h)
   ·exact .inr h
 ·rw[I];refine⟨.inl a,?_⟩;rcases(q b).1 a with h|h
  ·exact AO _ _ _ hG b h
  ·exact hF _ _ _ T b h
end
def Ak{c:α->o3}{l:List α}{A:m3}{x a:y9}(b:a.oneCell'=true)(h:(Qc e k c l A cp).φ x S w):(Qc e k c l A cp).φ a S w:=by
 let⟨_,d,f⟩:=(show _/\_/\_ from h)
 exact(show _/\_/\_ from⟨b,d,f⟩)
def im{m:Nat}{c:α->o3}{l:List α}{A:m3}(f:∀x,(c x).length=m)(d:α){x:y9}(g:(Qc e m c l A cp).φ x S w)(k:∀b,S b->a<=b):SlV a m (λ_ x cs=>cs=c x) w l (.slice A l.length cp) :=
 fV (L:=LP.known λj=>c (l.getD j d)) rfl (Mh f d (λi o S w=>rfl) g) k λi h p cs _ n=>by
  rw[show cs=c (l.getD i d)from n,List.getD,p6 h];rfl
def qG:Nat->Code->Option Code
 |0,c=>some c
 |n+1,.seq _ b=>qG n b
 |_+1,_=>none
def V4(n:Nat)(fn:Func):Option Code:=match fn.body with
 |some c=>qG n c
 |none=>none
def tO(n:Nat)(d:List Dir)(p q:Prop):Prop:=match d with
 |.esc k::_=>(match Nat.beq k n with
  |true=>p
  |false=>q)
 |_=>q
variable{p:Prop}
theorem Oj{n:Nat}{d:List Dir}{q:Prop}(h:tO n d p q):p\/q:=by
 unfold tO at h
 grind
def Ol(P:z4)(tt:List (Nat×TI))(H:Cx)(f:Nat×Nat)(w0:m0)(E:Code->St->Prop):Code->St->List Dir->(Ex->St->List Dir->Prop)->Prop
 |.seq a b,σ,d,K=>XE P tt H f w0 a σ d λe σ d=>match e with
  |.normal=>(match Qda d with
   |true=>JU (Me b) 99999 4 σ d λσ d=>tO (Me b) d (E b σ) (Ol P tt H f w0 E b σ d K)
   |false=>tO (Me b) d (E b σ) (Ol P tt H f w0 E b σ d K))
  |.exit id=>K (.exit id) σ d
  |.ret=>K .ret σ d
 |c,σ,d,K=>XE P tt H f w0 c σ d K
variable{H:Cx}{E:Code->St->Prop}
section
variable{P:z4}{tt:List (Nat×TI)}{w0:m0}
def mQ{V:Code->(Exit->Act->m0->Prop)->Act->m0->Prop}(G:Rules P V)(R:YF P tt)(S:NC P w0 H.inl)(k:Nat×Nat){Q:Exit->Act->m0->Prop}(T:DV Q)(U:∀b σ r a w,E b σ->Sat w0 σ r a w->V b Q a w):∀(c:Code) (σ:St) (d:List Dir) (K:Ex->St->List Dir->Prop),Ol P tt H k w0 E c σ d K->FlOk k σ->∀r a w,Sat w0 σ r a w->PanN w0 H k r Q ->
  (∀e l F m i j,K e l F->Sat w0 l m i j->FlOk k l->AgN k r m->Q e.to i j)->V c Q a w:=by
 intro c;induction c with
 |seq x y Y C =>
  intro σ d K h I r a w J D z;refine G.seq (G9 G R S k x σ d _ h I r a w J _ (λd v c a w Z=>T d v c a w Z) (λs l F m i j=>D s l F m i j) λe l F m i j A g f B=>?_);cases e with
  |normal =>
   dsimp only at A;split at A
   ·let⟨σ1,d1,r1,k1,W,X,k4⟩:=DF 4 A m i j g;rcases Oj k1 with o|o
    ·exact U _ _ _ _ _ o W
    ·exact C _ _ K o (f.le k4) r1 i j W (D.later (B.trans (X.n f))) λe L d3 M N O p q t u=>z e L d3 M N O p q t (B.trans ((X.n f).trans u))
   ·rcases Oj A with o|o
    ·exact U _ _ _ _ _ o g
    ·exact C l _ K o f m i j g (D.later B) λe L d3 M N O p q t u=>z e L d3 M N O p q t (B.trans u)
  |exit id=>exact z _ _ _ _ _ _ A g f B
  |ret=>exact z _ _ _ _ _ _ A g f B
 |_ =>
  intro σ d K h I r a w J D z;exact G9 G R S k _ σ d K h I r a w J Q T D z
def Mc(l:YF P tt)(m:P.follows .mixedOrders=true)(n:NC P w0 H.inl)(f:Nat×Nat){Q:Exit->Act->m0->Prop}(o:DV Q)(p:∀b σ r a w,E b σ->Sat w0 σ r a w->b.wp P Q a w)(c:Code)(σ:St)(d:List Dir)(K:Ex->St->List Dir->Prop)(h:Ol P tt H f w0 E c σ d K)(q:FlOk f σ)(r:Env)(a:Act)(w:m0)(s:Sat w0 σ r a w)(t:PanN w0 H f r Q)(u:∀e g v i j k,K e g v->Sat w0 g i j k->FlOk f g->AgN f r i->Q e.to j k):c.wp P Q a w:=mQ (Kb m) l n f o p c σ d K h q r a w s t u
end
def Aa(Q:Exit->Act->m0->Prop)(e:Exit)(a:Act)(w:m0):Prop:=match e with
 |.panic _=>False
 |e=>Q e a w
def WE(Q:Exit->Act->m0->Prop):DV (Aa Q):=λ_ _ _ _ _ h=>h
variable{a:Act}{Q:Exit->Act->m0->Prop}
def WF{e:Exit}(h:Aa Q e a w):Q e a w:=by
 cases e<;>first|exact h|exact h.elim
def MF(o:Oper):Bool:=match o.op with
 |.defer _=>false
 |_=>true
def HI:Code->Bool
 |.skip=>true
 |.region _ c _=>c.toList.all MF
 |.seq a b=>HI a&&HI b
 |.cond _ a b=>HI a&&HI b
 |.block _ b=>HI b
 |.loop b=>HI b
 |.exit _=>true
 |.label _=>true
 |.ret=>true
 |_=>false
variable{b:List Deferred}{o:Oper}{next:Act->m0->Prop}
section
variable{P:z4}{l n:Nat}
def wq{row:String}{R:y9->m0->Prop}(h:Rows P row args w R):RowsIn (Fence.wide.inRound l) n P row args w R :=
 λc cs _=>let ⟨v,a,r,s⟩:=h c cs;⟨v,a,r,stepsIn_wide.2 s⟩
def xr{b:Act->m0->Prop}(g:∀a w,next a w->b a w)(r:Result Next)(h:o.upon P a next Q r):o.uponIn (Fence.wide.inRound l) n P a b Q r:=by
 cases r with
 |halt i w=>cases i<;>first|exact h|exact False.elim h
 |ok x w =>
  cases x with
  |value v=>exact g _ _ h
  |skip=>exact g _ _ h
  |defer d=>exact g _ _ h
  |enter f args =>
   refine⟨λh=>(by cases h),(CallsIn.inRound l (callsIn_wide.2 (show Calls P f args w _ from h))).mono λe j h=>?_⟩;cases e with
   |returned v=>exact g _ _ h
   |panicked c=>exact h
   |outgrown=>exact h
  |row row args=>exact⟨λh=>(by cases h),(wq (show Rows P row args w _ from h)).mono λv j h=>g _ _ h⟩
  |_=>exact False.elim h
def yu{b:Act->m0->Prop}(d:MF o=true)(f:∀a w,next a w->b a w)(h:o.wp P a w next Q):o.wpIn (Fence.wide.inRound l) n P a w b Q:=by
 refine⟨λ_ _=>trivial,?_⟩;rw[Oper.semAt_eq _ _ _ (λc e=>by unfold MF at d;rw[e]at d;cases d)];exact xr f _ h
theorem P2{b:Array Oper}{Q:Exit->Act->m0->Prop}(d:¬ LetsOut Q):∀ {m:List Oper} {a:Act} {w:m0},m.all MF=true->wpList P b Q m a w->wpListIn (Fence.wide.inRound l) n P b Q m a w
 |[],_,_,_,h=>h
 |o::m,a,w,f,h=>by
  let⟨g,e⟩:=L5.1 (show(MF o&&m.all MF)=true from f);unfold wpListIn;unfold wpList at h;split
  ·rename_i c;rw[if_pos c]at h;rcases h with h|h
   ·exact yu g (λa w=>P2 d e) h
   grind
  ·rename_i c;rw[if_neg c]at h;exact⟨λ_ _=>trivial,P2 d e h⟩
theorem Pj{m:Region.Mode}{d:Array Oper}{Q:Exit->Act->m0->Prop}(f:¬ LetsOut Q)(g:d.toList.all MF=true):∀(b:Nat) (listed:Array Bool) (a:Act) (w:m0),wpAny P m d Q b listed a w->wpAnyIn (Fence.wide.inRound l) n P m d Q b listed a w
 |0,_,_,_,h=>h
 |b+1,listed,a,w,h=>by
  refine⟨h.1,λi p=>?_⟩;have c:=h.2 i p;unfold wpOp at c;unfold wpOpIn;split
  ·rename_i e;rw[e]at c;exact Pj f g b _ _ _ c
  ·rename_i o e;rw[e]at c;dsimp only at c;have j:MF o=true:=Lg.1 g o (by
    grind)
   split
   ·rename_i k;rw[if_pos k]at c;rcases c with c|c
    ·exact yu j (λa w=>Pj f g b _ a w) c
    ·exact absurd c.2 f
   ·rename_i k;rw[if_neg k]at c;exact⟨λ_ _=>trivial,Pj f g b _ _ _ c⟩
def Du{F:Fence}{c:Code}(J:α->Act->m0->Prop)(μ:α->Nat)(round:∀x a w,J x a w->c.wpIn F n P (Exit.then (λh i=>∃y,J y h i/\μ y<μ x) Q) a w)(v:α)(z:J v a w):(Code.loop c).wpIn F n P Q a w:=by
 intro b k cs p q r;have key:∀j x a w,μ x=j->J x a w->∃e h i,Q e h i/\ArrivesIn (Machine.fenced P F) P (lone (b.atR a (.code c::.inLoop c::k)) cs w) b k cs e h i:=by
  intro j;induction j using Nat.strongRecOn with
  |_ j A =>
   intro x a w B C;let⟨e,m,o,f,d⟩:=round x a w C b (.inLoop c::k) cs p q r;cases e with
   |normal =>
    let⟨y,s,t⟩:=f;let⟨D,E,G,u,g⟩:=A (μ y) (B▸t) y m o rfl s;exact⟨D,E,G,u,.of_steps (StepsIn.trans d (.one (fenced_calm q r rfl) stepR_inLoop)) g⟩
   |exit id=>exact⟨_,m,o,f,.pass (x:=.inLoop c) rfl (λ_ _=>.inl x6) d⟩
   |goto l=>exact⟨_,m,o,f,.pass (x:=.inLoop c) rfl (λ_ _=>.inl x6) d⟩
   |ret=>exact⟨_,m,o,f,.pass (x:=.inLoop c) rfl (λ_ _=>.inl x6) d⟩
   |panic H=>exact⟨_,m,o,f,.pass (x:=.inLoop c) rfl (λ_ _=>.inl x6) d⟩
   |outgrown=>exact⟨_,m,o,f,.pass (x:=.inLoop c) rfl (λ_ _=>.inl x6) d⟩
 let⟨e,h,i,f,d⟩:=key _ v a w rfl z;exact⟨e,h,i,f,.of_steps (.one (fenced_calm q r rfl) stepR_loop) d⟩
def VIn(P:z4)(l n:Nat)(c:Code)(Q:Exit->Act->m0->Prop)(a:Act)(w:m0):Prop:=HI c=true->¬ LetsOut Q->c.wpIn (Fence.wide.inRound l) n P Q a w
def EP(d:P.follows .mixedOrders=true):Rules P (VIn P l n) where
 skip h _ _:=wpIn_skip h
 label h _ _:=wpIn_label h
 exit h _ _:=wpIn_exit h
 ret h _ _:=wpIn_ret h
 rl h ho hQ:=wpIn_region_list (P2 hQ ho h)
 rd h ho hQ:=wpIn_region_any d (Pj hQ ho _ _ _ _ h)
 seq {x y Q a w} h ho hQ:=by
  let⟨f,g⟩:=L5.1 (show(HI x&&HI y)=true from ho);refine wpIn_seq (wpIn_mono (h f hQ) λe a w b=>?_);cases e with
  |normal=>exact b g hQ
  |_=>exact b
 ct {c x y Q a w} he h ho hQ:=wpIn_cond_true he (h (L5.1 (show(HI x&&HI y)=true from ho)).1 hQ)
 cf {c x y Q a w} he h ho hQ:=wpIn_cond_false he (h (L5.1 (show(HI x&&HI y)=true from ho)).2 hQ)
 block h ho hQ:=wpIn_block (h ho hQ)
 loop J μ h x0 _ _ h0 ho hQ:=Du J μ (λx a w i=>h x a w i ho hQ) x0 h0
def YA(b:List Deferred)(a:Act):Act:={ a with defers:=a.defers++b }
def WV(c:List Deferred)(Q:Exit->Act->m0->Prop)(e:Exit)(a:Act)(w:m0):Prop:=∃b,a=YA c b/\Q e b w
def E9(b:List Deferred)(a:Act):(YA b a).eval=a.eval:=rfl
theorem GK(b:List Deferred)(a:Act)(d:Option Tmp)(v:y9):(YA b a).put d v=YA b (a.put d v):=by cases d<;>rfl
theorem Fy(h:LetsOut Q):LetsOut (WV b Q):=let ⟨a,w,h⟩:=h;⟨YA b a,w,a,rfl,h⟩
theorem QdJ{g:List Deferred}{b:Act->m0->Prop}(k:∀a w,next a w->b (YA g a) w)(h:o.wp P a w next Q):o.wp P (YA g a) w b (WV g Q):=by
 unfold Oper.wp at h ⊢;rw[E9];revert h;generalize (execOp a.eval o).run P w=r;intro h;cases r with
 |halt l i=>cases l<;>first|exact⟨_,rfl,h⟩|exact False.elim h
 |ok x i =>
  cases x with
  |value v=>show b ((YA g a).put o.dst v) i;rw[GK];exact k _ _ h
  |skip=>show b ((YA g a).put o.dst undef) i;rw[GK];exact k _ _ h
  |defer d =>
   show b (({ YA g a with defers:=d::(YA g a).defers }:Act).put o.dst undef) i;rw[show({ YA g a with defers:=d::(YA g a).defers }:Act)=YA g { a with defers:=d::a.defers } from rfl,GK];exact k _ _ h
  |enter f args =>
   refine(show Calls P f args i _ from h).mono λe j h=>?_
   cases e with
   |returned v=>show b ((YA g a).put o.dst v) j;rw[GK];exact k _ _ h
   |panicked c=>exact⟨_,rfl,h⟩
   |outgrown=>exact Fy h
  |row row args =>
   refine(show Rows P row args i _ from h).mono λv j h=>?_
   grind[GK]
  |_=>exact False.elim h
theorem lD(h:o.asks P a w):o.asks P (YA b a) w:=h
theorem dt{c:List Deferred}{b:Array Oper}{Q:Exit->Act->m0->Prop}:∀ {m:List Oper} {a:Act} {w:m0},wpList P b Q m a w->wpList P b (WV c Q) m (YA c a) w
 |[],_,_,h=>⟨_,rfl,h⟩
 |o::m,a,w,h=>by
  unfold wpList at h ⊢;rw[show(YA c a).tmps=a.tmps from rfl];split
  ·rename_i d;rw[if_pos d]at h;rcases h with h|h
   ·exact .inl (QdJ (λa w=>dt) h)
   grind[lD,Fy]
  ·rename_i d;rw[if_neg d]at h;rw[GK];exact dt h
theorem eZ{f:List Deferred}{j:Region.Mode}{d:Array Oper}{Q:Exit->Act->m0->Prop}:∀(b:Nat) (listed:Array Bool) (a:Act) (w:m0),wpAny P j d Q b listed a w->wpAny P j d (WV f Q) b listed (YA f a) w
 |0,_,_,_,h=>⟨h.1,_,rfl,h.2⟩
 |b+1,listed,a,w,h=>by
  refine⟨λe=>⟨_,rfl,h.1 e⟩,λi k=>?_⟩;have c:=h.2 i k;unfold wpOp at c ⊢;split
  ·rename_i e;rw[e]at c;exact eZ b _ _ _ c
  ·rename_i o e;rw[e]at c;dsimp only at c;rw[show(YA f a).tmps=a.tmps from rfl];split
   ·rename_i g;rw[if_pos g]at c;rcases c with c|c
    ·exact .inl (QdJ (λa w=>eZ b _ a w) c)
    grind[lD,Fy]
   ·rename_i g;rw[if_neg g]at c;rw[GK];exact eZ b _ _ _ c
def Qe3(P:z4)(b:List Deferred)(c:Code)(Q:Exit->Act->m0->Prop)(a:Act)(w:m0):Prop:=c.wp P (WV b Q) (YA b a) w
def FR(g:P.follows .mixedOrders=true){ds:List Deferred}:Rules P (Qe3 P ds) where
 skip h:=wp_skip ⟨_,rfl,h⟩
 label h:=wp_label ⟨_,rfl,h⟩
 exit h:=wp_exit ⟨_,rfl,h⟩
 ret h:=wp_ret ⟨_,rfl,h⟩
 rl h:=wp_region_list (dt h)
 rd h:=wp_region_any g (eZ _ _ _ _ h)
 seq h:=wp_seq (wp_mono h λe a w d=>by
  obtain⟨b,rfl,d⟩:=d;cases e with
  |normal=>exact d
  |_=>exact⟨_,rfl,d⟩)
 ct he h:=wp_cond_true he h
 cf he h:=wp_cond_false he h
 block {id c Q a w} h:=wp_block (wp_mono h λe a w d=>by
  obtain⟨b,rfl,d⟩:=d;cases e with
  |exit i =>
   dsimp only[Exit.inBlock]at d ⊢;split
   ·rename_i e;rw[if_pos e]at d;exact⟨_,rfl,d⟩
   ·rename_i e;rw[if_neg e]at d;exact⟨_,rfl,d⟩
  |_=>exact⟨_,rfl,d⟩)
 loop J μ h x0 _ _ h0:=Hq (λx a w=>∃b,a=YA ds b/\J x b w) μ (λx a w f=>by
  obtain⟨b,rfl,f⟩:=f;refine wp_mono (h x b w f) λe a w d=>?_
  obtain⟨c,rfl,d⟩:=d;cases e with
  |normal=>let⟨y,j,k⟩:=d;exact⟨y,⟨c,rfl,j⟩,k⟩
  |_=>exact⟨_,rfl,d⟩) x0 ⟨_,rfl,h0⟩
end
def Do(c:m0)(F:Nat->Prop):Res where
 φ x S w:=x.oneCell'=true/\(∀b,F b->S b)/\∀b,F b->w.heap[b]?=c.heap[b]?
 one _ _ _ h:=h.1
 loc x S w w' h hφ:=⟨hφ.1,hφ.2.1,λb a=>(h b (hφ.2.1 b a)).trans (hφ.2.2 b a)⟩
def VO:Res where
 φ x S _:=x.oneCell'=true/\∀b,¬ S b
 one _ _ _ h:=h.1
 loc _ _ _ _ _ hφ:=hφ
def KpC(W a:m0):Prop:=W.heap.size<=a.heap.size/\∀(k:Nat) (o:Obj),W.heap[k]?=some o->o.isCells=true->a.heap[k]?=some o
def Qdg{A B C:m0}(h:KpC A B)(k:KpC B C):KpC A C:=⟨L6 h.1 k.1,λi o b a=>k.2 i o (h.2 i o b a) a⟩
theorem Qdf(W:m0)(l:Nat)(o a:Obj)(h:W.heap[l]?=some o)(d:o.isCells=false):KpC W (W.putObj l a):=by
 have b:=grownBy_putObj' W l a;refine⟨b.size,λk u c f=>?_⟩;by_cases e:k=l
 ·subst e
  grind
 ·exact(b.block k (b8.1 c).1 (λh=>e (o7 h))).trans c
def KpC.bx{W a:m0}{t:o0}{cs:x0g}(h:KpC W a)(b:Bx W g t cs):Bx a g t cs:=h.2 g _ b rfl
def eW(σ:St)(r:Env)(n:Nat)(W a:m0):Prop:=∀k,k<n->(∀i p,Xq σ.bs i=some p->r.b i≠k)->a.heap[k]?=W.heap[k]?
def dH:List (Option Res)->Bool
 |[]=>true
 |none::l=>dH l
 |some _::_=>false
def AZ:∀ {l:List (Option Res)},dH l=true->∀i R,Xq l i≠some R
 |[],_,_,_,h=>nomatch h
 |none::l,h,0,_,a=>nomatch a
 |none::l,h,i+1,R,a=>AZ (l:=l) h i R a
 |some _::_,h,_,_,_=>nomatch h
def oW(R:Res)(l:List (Option Res))(p:Prop):Prop:=match l with
 |some a::l=>Z6 (dH l) (a=R/\p)
 |_=>False
def PX(R:Res)(l:List (Option Res))(p:Prop):Prop:=match l with
 |some a::_=>a=R/\p
 |_=>False
variable{R:Res}
theorem dL{l:List (Option Res)}(h:oW R l p):p/\∃m,l=some R::m/\dH m=true:=by
 unfold oW at h
 grind[Qq]
theorem AQ{l:List (Option Res)}(h:PX R l p):p/\∃m,l=some R::m:=by
 unfold PX at h
 grind
def sL:List (Option (o0×List SV))->Bool
 |[]=>true
 |some _::l=>sL l
 |none::_=>false
def N0:∀ {l:List (Option (o0×List SV))},sL l=true->∀i,i<l.length->∃q,Xq l i=some q
 |[],_,_,h=>absurd h (R4 _)
 |some q::l,h,0,_=>⟨q,rfl⟩
 |some q::l,h,i+1,a=>N0 (l:=l) h i (Nat.lt_of_succ_lt_succ a)
 |none::l,h,_,_=>nomatch h
def No:List (Option (o0×List SV))->List (Option (o0×List SV))->Bool
 |[],_=>true
 |none::l,[]=>No l []
 |none::l,_::m=>No l m
 |some _::l,some _::m=>No l m
 |some _::_,_=>false
def Dj:∀ {l m:List (Option (o0×List SV))},No l m=true->∀i q,Xq l i=some q->∃b,Xq m i=some b
 |[],_,_,_,_,h=>nomatch h
 |none::l,[],h,0,_,a=>nomatch a
 |none::l,[],h,i+1,q,a=>by
  let⟨b,c⟩:=Dj (l:=l) (m:=[]) h i q a;cases c
 |none::l,_::m,h,0,_,a=>nomatch a
 |none::l,_::m,h,i+1,q,a=>Dj (l:=l) (m:=m) h i q a
 |some _::l,some b::m,h,0,_,_=>⟨b,rfl⟩
 |some _::l,some _::m,h,i+1,q,a=>Dj (l:=l) (m:=m) h i q a
 |some _::_,[],h,_,_,_=>nomatch h
 |some _::_,none::_,h,_,_,_=>nomatch h
variable{r:Env}{σ τ:St}
section
variable{P:z4}{tt:List (Nat×TI)}{w0:m0}
def xW(P:z4)(tt:List (Nat×TI))(w0:m0)(σ:St)(c:List (Option (o0×List SV)))(body:Code)(good:Bool)(a:St)(d:List Dir):Prop :=
 ∀f:Res,XE P tt (Kj P tt w0) (a.bs.length,a.rs.length) w0 body (XL 0 f a) d λe b _=>match e with
  |.normal=>PX f b.rs (Yb b ⟨a.n,[],a.bs,[]⟩ (Yb b σ (good=true)))
  |.ret=>Z6 (No a.bs b.bs) (PX f b.rs (Yb b { σ with bs:=c } (good=false)))
  |.exit _=>False
def qf(P:z4)(tt:List (Nat×TI))(w0:m0)(σ:St)(b:List (Option (o0×List SV)))(body:Code)(good:Bool)(R:Res)(e:Ex)(a:St)(d:List Dir):Prop:=match e with
 |.normal=>oW R a.rs (Yb a σ (Z6 (leB σ a) (xW P tt w0 σ b body good a d)))
 |_=>False
def Sat.grown{w g:m0}{row:Option Nat}(h:Sat w0 σ r a w)(f:∀i R,Xq σ.rs i=some R->R=VO)(j:w.grownBy g row)(l:∀k,row=some k->w0.heap.size<=k/\∃o:Obj,w.heap[k]?=some o/\o.isCells=false):Sat w0 σ r a g:=by
 refine⟨⟨h.see.low.grown j h.see.low.size (λk e=>(l k e).1),h.see.size,h.see.ts,λi t cs d=>?_,λi R d=>?_,h.see.one⟩,h.sep,h.defers⟩
 ·let⟨c,m⟩:=h.see.bs i t cs d;refine⟨(j.block _ c.lt λe=>?_).trans c,m⟩;let⟨_,o,n,p⟩:=l _ e.symm;rw[show w.heap[r.b i]?=some (.cells _ t (0,0))from c]at n;obtain rfl:=o7 n;cases p
 ·let⟨c,m⟩:=h.see.rs i R d;obtain rfl:=f i R d;exact⟨c,λb q=>absurd q (c.2 b)⟩
def Zp(w0:m0)(σ:St)(r:Env)(W:m0)(b:Nat):Prop:=w0.heap.size<=b/\b<W.heap.size/\∀i p,Xq σ.bs i=some p->r.b i≠b
theorem tY{W:m0}{m:List (Option Res)}(h:Sat w0 σ r a W)(d:σ.rs=some VO::m)(u:dH m=true):
  Sat w0 (XL 0 (Do W (Zp w0 σ r W)) σ) ⟨r.b,r.x,λ_=>Zp w0 σ r W⟩ a W:=by
 have v:(XL 0 (Do W (Zp w0 σ r W)) σ).rs=some (Do W (Zp w0 σ r W))::m:=by unfold XL;rw[d];rfl
 have g:(XL 0 (Do W (Zp w0 σ r W)) σ).rs.length=σ.rs.length:=XZ _ _ _;have w:∀s,(XL 0 (Do W (Zp w0 σ r W)) σ).lt s=σ.lt s:=λs=>by simp only[St.lt,g];rfl
 have o:∀s,(XL 0 (Do W (Zp w0 σ r W)) σ).ltL s=σ.ltL s:=λs=>by simp only[St.ltL,g];rfl
 have e:(r.x 0).oneCell'=true:=h.see.one 0 (by rw[d];exact Sw _);have l:∀i R,Xq (XL 0 (Do W (Zp w0 σ r W)) σ).rs i=some R->i=0/\R=Do W (Zp w0 σ r W):=λi R c=>by
  rw[v]at c;cases i with
  |zero=>exact⟨rfl,(o7 c).symm⟩
  |succ i=>exact absurd c (AZ u i R)
 refine⟨⟨h.see.low,h.see.size,λk s y=>?_,λi t cs c=>?_,λi R c=>?_,λi c=>h.see.one i (by rwa [g]at c)⟩,⟨h.sep.own,h.sep.inj,λi R c b f=>f.1,λi j R z c q n=>absurd ((l i R c).1.trans (l j z q).1.symm) n,λi j p R c q A=>A.2.2 i p c rfl⟩,h.defers⟩
 ·let⟨B,C⟩:=h.see.ts k s y
  grind[Vy]
 ·let⟨B,C⟩:=h.see.bs i t cs c
  grind[Vh]
 ·obtain⟨rfl,rfl⟩:=l i R c;exact⟨⟨e,λ_ f=>f,λ_ _=>rfl⟩,λb f=>f.2.1⟩
theorem Qb3{W:m0}{m:List (Option Res)}(h:Sat w0 σ r a W)(e:σ.rs=some R::m)(l:dH m=true):
  Sat w0 (XL 0 VO σ) ⟨r.b,r.x,λ_ _=>False⟩ a W:=by
 have n:(XL 0 VO σ).rs=some VO::m:=by unfold XL;rw[e];rfl
 have g:(XL 0 VO σ).rs.length=σ.rs.length:=XZ _ _ _;have o:∀s,(XL 0 VO σ).lt s=σ.lt s:=λs=>by simp only[St.lt,g];rfl
 have j:∀s,(XL 0 VO σ).ltL s=σ.ltL s:=λs=>by simp only[St.ltL,g];rfl
 have f:(r.x 0).oneCell'=true:=h.see.one 0 (by rw[e];exact Sw _);have p:∀i R,Xq (XL 0 VO σ).rs i=some R->i=0/\R=VO:=λi R c=>by
  rw[n]at c;cases i with
  |zero=>exact⟨rfl,(o7 c).symm⟩
  |succ i=>exact absurd c (AZ l i R)
 refine⟨⟨h.see.low,h.see.size,λk s q=>?_,λi t cs c=>?_,λi R c=>?_,λi c=>h.see.one i (by rwa [g]at c)⟩,⟨h.sep.own,h.sep.inj,λ_ _ _ _ d=>d.elim,λ_ _ _ _ _ _ _ _ d=>d.elim,λ_ _ _ _ _ _ u=>u.elim⟩,h.defers⟩
 ·let⟨v,w⟩:=h.see.ts k s q
  grind[Vy]
 ·let⟨v,w⟩:=h.see.bs i t cs c
  grind[Vh]
 ·obtain⟨rfl,rfl⟩:=p i R c;exact⟨⟨f,λ_ d=>d⟩,λb d=>d.elim⟩
def PO{W:m0}(h:Sat w0 σ r a W)(d:σ.rs=[]):
  Sat w0 { σ with rs:=[some (Do W (Zp w0 σ r W))] } ⟨r.b,λ_=>.bool false,λ_=>Zp w0 σ r W⟩ a W:=by
 have f:Ag σ r ⟨r.b,λ_=>.bool false,λ_=>Zp w0 σ r W⟩:=⟨λ_ _=>rfl,λi c=>by rw[d]at c;exact absurd c (R4 _)⟩
 have g:∀s,σ.lt s=true->({ σ with rs:=[some (Do W (Zp w0 σ r W))] }:St).lt s=true:=λs l=>KW (λi c=>c) (λi c=>by rw[d]at c;exact absurd (Xa c) (R4 _)) s l
 have o:∀i R,Xq [some (Do W (Zp w0 σ r W))] i=some R->i=0/\R=Do W (Zp w0 σ r W):=λi R c=>by
  cases i with
  |zero=>exact⟨rfl,(o7 c).symm⟩
  |succ i=>cases c
 refine⟨⟨h.see.low,h.see.size,λk s w=>?_,λi t cs c=>?_,λi R c=>?_,λi _=>rfl⟩,⟨h.sep.own,h.sep.inj,λi R c b m=>m.1,λi j R x c v q=>absurd ((o i R c).1.trans (o j x v).1.symm) q,λi j p R c v y=>y.2.2 i p c rfl⟩,h.defers⟩
 ·let⟨u,n⟩:=h.see.ts k s w;exact⟨by rw[f.den n];exact u,g s n⟩
 ·let⟨u,n⟩:=h.see.bs i t cs c;have e:QO ⟨r.b,λ_=>.bool false,λ_=>Zp w0 σ r W⟩ cs=QO r cs:=by
   rw[XI,XI];exact S6 λs l=>f.den (okL_all.1 n s l)
  exact⟨by rw[e];exact u,okL_all.2 λs l=>g s (okL_all.1 n s l)⟩
 ·obtain⟨rfl,rfl⟩:=o i R c;exact⟨⟨rfl,λ_ m=>m,λ_ _=>rfl⟩,λb m=>m.2.1⟩
def Sat.swap{c:Env}{i:Act}{w e:m0}(h:Sat w0 σ r a w)(b:Sat w0 τ c i e)(d:τ.ts=σ.ts)(j:τ.n=σ.n)(l:τ.bs.length=σ.bs.length)(m:τ.rs.length=σ.rs.length)(o:Ag σ r c):Sat w0 τ c a e:=by
 refine⟨⟨b.see.low,h.see.size.trans j.symm,λk s f=>?_,b.see.bs,b.see.rs,b.see.one⟩,b.sep,h.defers⟩;rw[d]at f;let⟨p,g⟩:=h.see.ts k s f;exact⟨by rw[o.den g];exact p,by simp only[St.lt,l,m];exact g⟩
def En{f:Env}{g:Act}{W d:m0}{m:List (Option Res)}(h:Sat w0 σ r a W)(e:Sat w0 τ f g d)(c:τ.rs=some (Do W (Zp w0 σ r W))::m):eW σ r W.heap.size W d:=λk i j=>by
 rcases R5 k w0.heap.size with b|b
 ·exact(e.see.low.block k b).trans (h.see.low.block k b).symm
 ·exact(e.see.rs 0 (Do W (Zp w0 σ r W)) (by rw[c];rfl)).1.2.2 k ⟨b,i,j⟩
theorem RZ{g:Env}{j:Act}{W c:m0}(h:Sat w0 σ r a W)(o:Sat w0 τ g j c)(q:∀i p,Xq σ.bs i=some p->r.b i<c.heap.size)(k:eW σ r W.heap.size W c):W.heap.size<=c.heap.size:=by
 rcases R5 c.heap.size W.heap.size with l|d
 ·exfalso;by_cases f:∃i p,Xq σ.bs i=some p/\r.b i=W.heap.size-1
  ·let⟨i,p,m,s⟩:=f
   grind
  ·have m:=k (W.heap.size-1) x3 (λi p n e=>f ⟨i,p,n,e⟩)
   grind
 ·exact d
def gh{W c:m0}(h:Sat w0 σ r a W)(m:∀i t cs,Xq σ.bs i=some (t,cs)->Bx c (r.b i) t (QO r cs).toArray)(n:eW σ r W.heap.size W c)(q:W.heap.size<=c.heap.size):KpC W c:=by
 refine⟨q,λk o d _=>?_⟩;by_cases f:∃i p,Xq σ.bs i=some p/\r.b i=k
 ·let⟨i,⟨t,cs⟩,g,s⟩:=f;have j:=(h.see.bs i t cs g).1;have l:=m i t cs g;rw[s]at j l;exact(show c.heap[k]?=some (.cells _ t (0,0))from l).trans ((show W.heap[k]?=some (.cells _ t (0,0))from j).symm.trans d)
 ·exact(n k (b8.1 d).1 λi p u e=>f ⟨i,p,u,e⟩).trans d
def Mu{W c:m0}(B:Nat)(h:Sat w0 σ r a W)(f:eW σ r W.heap.size W c)(g:W.heap.size<=c.heap.size):KeepsFrom B W c:=by
 refine⟨g,λk o _ b j=>(f k (b8.1 b).1 λi p l e=>?_).trans b⟩;have d:=(h.see.bs i p.1 p.2 l).1;rw[e]at d;rw[show W.heap[k]?=some (.cells _ p.1 (0,0))from d]at b;obtain rfl:=o7 b;cases j
def eY{b:Env}(a:σ.rs=[])(h:AgN (σ.bs.length,0) r b):Ag σ r b:=⟨h.1,λi c=>by rw[a]at c;exact absurd c (R4 _)⟩
def fG{a:Env}(h:Ag σ r a){l:List SV}(b:σ.ltL l=true):QO a l=QO r l:=by
 rw[XI,XI];exact S6 λs c=>h.den (okL_all.1 b s c)
end
theorem wT(h:Yb σ τ p):∀i q,Xq τ.bs i=some q->∃a,Xq σ.bs i=some a:=by
 let⟨b,h⟩:=Qq h;let⟨h,c⟩:=Cg h;let⟨h,d,e⟩:=Cd h
 grind
section
variable{P:z4}{tt:List (Nat×TI)}{w0:m0}
def AxK(P:z4)(tt:List (Nat×TI))(w0:m0)(σ:St)(c:List (Option (o0×List SV)))(body:Code)(r:Env)(n:Nat)(good:Bool)(d:Act)(W:m0):Prop :=
 ∃a e r1 m,Sat w0 (XL 0 VO a) r1 d W/\(XL 0 VO a).rs=some VO::m/\dH m=true/\(∃R,a.rs=some R::m)/\AgN (σ.bs.length,0) r r1/\σ.bs.length<=a.bs.length /\
  (∀i p,Xq a.bs i=some p->σ.bs.length<=i->n<=r1.b i)/\xW P tt w0 σ c body good a e
theorem Qby(hT:YF P tt)(hm:P.follows .mixedOrders=true){V:List (Option (o0×List SV))}(cm:V.length=σ.bs.length){xs:List α}{gf:Nat}{lb:x0g}{enc:α->y9}{good:α->Bool}{g:x0h}{p:Nat}{assign body:Code}(J:σ.rs=[])(bY:sL σ.bs=true)(hp:BF (some p) σ.n=true)(cn:HI assign=true)(cq:HI body=true)(ao:∀x,x∈xs->∃d,∀R:Res,XE P tt (Kj P tt w0) (σ.bs.length,0) w0 assign { σ.push (some p) (.val (enc x))with rs:=[some R] } d (qf P tt w0 σ V body (good x) R)){w:m0}(hS:Sat w0 σ r a w)(hg:a.eval g=.func (.func gf) #[] lb)(he:Xt P gf)(ca:SeqStopsK Fence.wide 8 P gf lb (λx:{x // x∈xs}=>#[enc x.1]) KpC (λys=>ys=xs.attach) (λ_=>True) xs.length w){ds:List Deferred}{Q:Exit->Act->m0->Prop}(bd:∀D z W,Sat w0 σ z a W->AgN (σ.bs.length,0) r z->eW σ r w.heap.size w W->w.heap.size<=D->W.heap[D]?=some (.deferred (some []))->(∀x,x∈xs->good x=true)->Q .normal (YA ({ target:=.collected D,args:=#[] }::ds) a) W)(bi:∀D z W,Sat w0 { σ with bs:=V } z a W->AgN (σ.bs.length,0) r z->eW σ r w.heap.size w W->w.heap.size<=D->W.heap[D]?=some (.deferred (some []))->(∃x,x∈xs/\good x=false)->Q .ret (YA ({ target:=.collected D,args:=#[] }::ds) a) W):
  (Code.rangeFunc g #[p] assign body).wp P Q (YA ds a) w:=by
 have ad:=hS.see.low.size;have cr:=hS.defers;have bk:=N0 bY;have ae:∀D,({ YA ds a with defers:={ target:=.collected D,args:=#[] }::(YA ds a).defers }:Act)=YA ({ target:=.collected D,args:=#[] }::ds) a:=λD=>by
  grind[YA]
 refine wpIn_wide.1 (wpIn_rangeFunc_ownH (F:=Fence.wide) (n:=9) (Kp:=KpC) (α:={x // x∈xs}) (encs:=λx=>#[enc x.1]) (S:=λys=>ys=xs.attach) (Sp:=λ_=>True) (N:=xs.length) (w0:=w) rfl x4 (gf:=gf) (lb:=lb) (by rw[E9];exact hg) trivial he ca Qdg (λW l o o' _ h ho _=>Qdf W l o o' h ho) (p5 _ _) (λ_=>rfl)
  (λpre W=>(∃z,Sat w0 σ z a W/\AgN (σ.bs.length,0) r z)/\eW σ r w.heap.size w W/\w.heap.size<=W.heap.size/\∀x,x∈pre->good x.1=true)
  (λc pre W=>c=.ret/\(∃z,Sat w0 { σ with bs:=V } z a W/\AgN (σ.bs.length,0) r z)/\eW σ r w.heap.size w W/\∃x,x∈pre/\good x.1=false)
  ?hI ?hIx ⟨⟨r,hS,AgN.refl _ _⟩,λ_ _ _=>rfl,L4 _,λ_ h=>nomatch h⟩
  (λx a' W=>AxK P tt w0 σ V body r w.heap.size (good x.1) a' W) ?hAx ?assign ?body ?done ?stop)
 case hI =>
  rintro pre W W' row ⟨⟨z,G,T⟩,L,h4,h5⟩ B A;refine⟨⟨z,G.grown (λi R f=>by rw[J]at f;cases f) B (λk e=>⟨L6 ad (A k e).1,(A k e).2⟩),T⟩,λk u hn=>?_,L6 h4 B.size,h5⟩;exact(B.block k (L9 u h4) λe=>hA ((A k e.symm).1)).trans (L k u hn)
 case hIx =>
  rintro c pre W W' row ⟨h0,⟨z,G,T⟩,L,h5⟩ B A;refine⟨h0,⟨z,G.grown (λi R f=>by rw[show({ σ with bs:=V }:St).rs=[]from J]at f;cases f) B (λk e=>⟨L6 ad (A k e).1,(A k e).2⟩),T⟩,λk u hn=>?_,h5⟩;have ct:k<W.heap.size:=by
   rcases R5 k W.heap.size with h|h
   ·exact h
   ·have h6:=L k u hn
    grind
  exact(B.block k ct λe=>hA ((A k e.symm).1)).trans (L k u hn)
 case hAx =>
  rintro x a' s W W' row ⟨C,d1,r1,m,G,T,L,h4,h5⟩ B A;exact⟨C,d1,r1,m,G.grown (λi R f=>by
   rw[T]at f;cases i with
   |zero=>exact(o7 f).symm
   |succ i=>exact absurd f (AZ L i R)) B (λk e=>⟨L6 ad (A k e).1,(A k e).2⟩),T,L,h4,h5⟩
 case assign =>
  rintro l pre x W K ⟨⟨z,G,T⟩,L,h4,h5⟩ hK;have cu:=eY J T;let⟨d,hd⟩:=ao x.1 x.2;have e0:({ tmps:=(#[p].zip #[enc x.1]).foldl (λt (p,v)=>t.setIfInBounds p v) (YA ds a).tmps,defers:=[] }:Act)=a.put (some p) (enc x.1):=by
   unfold Act.put;rw[<- cr];simp[YA]
  rw[e0];have cw:Sat w0 (σ.push (some p) (.val (enc x.1))) z (a.put (some p) (enc x.1)) W:=G.put (s:=.val (enc x.1)) hp rfl;have X:=PO cw J;have eS:Zp w0 (σ.push (some p) (.val (enc x.1))) z W=Zp w0 σ z W:=rfl;rw[eS]at X;refine G9 (EP hm) hT (JV hT hm 9) (σ.bs.length,0) assign _ d _ (hd (Do W (Zp w0 σ z W))) ⟨L4 _,L7 _⟩ _ _ W X (Exit.then K λ_ _ _=>False) (λ_ _ _ _ _ h=>h.elim) (λ_ _ _ _ _ _ h=>False.elim h) (λe C d1 r1 a1 W1 u H _ cy=>?_) cn (λ⟨_,_,h⟩=>h);cases e with
  |exit i=>exact False.elim u
  |ret=>exact False.elim u
  |normal =>
   let⟨u,m,Y,cb⟩:=dL u;have cA:=wT u;let⟨u,I⟩:=Q3 w0 u;let⟨cC,cD⟩:=Qq u;have cc:=I _ _ _ H;have U:AgN (σ.bs.length,0) z r1:=⟨λi f=>cy.1 i f,λi f=>absurd f (R4 _)⟩
   have ag:=eY J U;have hF:eW σ z W.heap.size W W1:=En (σ:=σ) (r:=z) G H Y;have hb:∀i t cs,Xq σ.bs i=some (t,cs)->Bx W1 (z.b i) t (QO z cs).toArray:=λi t cs f=>by
    let⟨k1,_⟩:=cc.see.bs i t cs f;rw[ag.1 i (XK f),fG ag (G.see.bs i t cs f).2]at k1;exact k1
   have hz:=RZ G H (λi p f=>(hb i p.1 p.2 f).lt) hF;refine hK a1 W1 (Mu _ G hF hz) (gh G hb hF hz) ⟨⟨r1,G.swap cc rfl rfl rfl rfl ag,T.trans U⟩,λk u hn=>?_,L6 h4 hz,h5⟩ ?_
   ·refine(hF k x3 λi p f=>?_).trans (L k u hn);rw[cu.1 i (XK f)];exact hn i p f
   ·refine⟨C,d1,⟨r1.b,r1.x,λ_ _=>False⟩,m,Qb3 H Y cb,by unfold XL;rw[Y];rfl,cb,⟨_,Y⟩,T.trans U,(nV cC).1,λi p f cd=>?_,cD⟩;show w.heap.size<=r1.b i;have k1:=H.sep.apart i 0 p _ f (by rw[Y];rfl);have k2:=(H.see.rs 0 (Do W (Zp w0 σ z W)) (by rw[Y];rfl)).1.2.1;have k3:=H.sep.own i p f;rcases R5 (r1.b i) W.heap.size with aB|cO
    ·exfalso;refine k1 (k2 _ ⟨k3,aB,λj q hj e=>?_⟩);have k4:r1.b j=z.b j:=U.1 j (XK hj);let⟨q1,cF⟩:=cA j q hj;exact H.sep.inj i j p q1 f cF (λe2=>hA (XK hj)) (by rw[k4];exact e.symm)
    ·omega
 case body =>
  rintro l pre x a' W hl _ ⟨⟨z,cf,cG⟩,L,h4,h5⟩ ⟨C,d1,r1,m,k1,k2,k3,⟨R0,k4⟩,k5,k6,k7,k8⟩ _;have X:=tY k1 k2 k3;have eo:XL 0 (Do W (Zp w0 (XL 0 VO C) r1 W)) (XL 0 VO C)=XL 0 (Do W (Zp w0 (XL 0 VO C) r1 W)) C:=by unfold XL;rw[k4];rfl
  rw[eo]at X;have eS:Zp w0 (XL 0 VO C) r1 W=Zp w0 C r1 W:=rfl;rw[eS]at X;have cL:(XL 0 VO C).rs.length=C.rs.length:=XZ _ _ _;refine G9 (EP hm) hT (JV hT hm 9) (C.bs.length,C.rs.length) body _ d1 _ (k8 (Do W (Zp w0 C r1 W))) ⟨L4 _,by unfold XL;rw[XZ];exact L4 _⟩ _ _ W X _ (λ_ _ _ _ _ h=>h.elim) (λ_ _ _ _ _ _ h=>False.elim h) (λe σ2 d2 r2 a2 W2 u M _ bl=>?_) cq (λ⟨_,_,h⟩=>h);have ch:AgN (σ.bs.length,0) r1 r2:=⟨λi f=>bl.1 i (L9 f k6),λi f=>absurd f (R4 _)⟩
  have B:AgN (σ.bs.length,0) r r2:=k5.trans ch;have cj:AgN (σ.bs.length,0) z r2:=⟨λi f=>(B.1 i f).trans (cG.1 i f).symm,λi f=>absurd f (R4 _)⟩
  have al:Ag (XL 0 VO C) r1 r2:=⟨λi f=>bl.1 i f,λi f=>bl.2 i (by rw[<- cL];exact f)⟩
  have frame:∀Z,σ2.rs=some (Do W (Zp w0 C r1 W))::Z->eW (XL 0 VO C) r1 W.heap.size W W2:=λZ E=>En (σ:=XL 0 VO C) k1 M (by rw[E];rfl)
  have cl:∀Z,σ2.rs=some (Do W (Zp w0 C r1 W))::Z->eW σ r w.heap.size w W2:=λZ E k u hn=>by
   refine(frame Z E k x3 λi p f=>?_).trans (L k u hn);rcases R5 i σ.bs.length with aB|cd
   ·rw[k5.1 i aB];intro e;let⟨q,hq⟩:=bk i aB;exact hn i q hq e
   ·have:=k7 i p f cd;omega
  cases e with
  |exit i=>exact False.elim u
  |normal =>
   let⟨u,Z,E⟩:=AQ u;let⟨u,bX⟩:=Q3 w0 u;let⟨O,I⟩:=Q3 w0 u;have cM:=bX _ _ _ M;have hb:∀i t cs,Xq (XL 0 VO C).bs i=some (t,cs)->Bx W2 (r1.b i) t (QO r1 cs).toArray:=λi t cs f=>by
    have q1:=(cM.see.bs i t cs f).1;rw[al.1 i (XK f),fG al (k1.see.bs i t cs f).2]at q1;exact q1
   have hF:=frame Z E;have hz:=RZ k1 M (λi p f=>(hb i p.1 p.2 f).lt) hF;refine⟨Mu _ k1 hF hz,gh k1 hb hF hz,⟨r2,cf.swap (I _ _ _ M) rfl rfl rfl rfl (eY J cj),B⟩,cl Z E,L6 h4 hz,λy hy=>?_⟩;rcases Lo.1 hy with hy|hy
   ·exact h5 y hy
   ·rw[Ly.1 hy];exact O
  |ret =>
   let⟨cN,u⟩:=Qq u;let⟨u,Z,E⟩:=AQ u;let⟨O,I⟩:=Q3 w0 u;have hF:=frame Z E;have hz:=RZ k1 M (λi p f=>by
    let⟨q',hq⟩:=Dj cN i p f;have q1:=(M.see.bs i q'.1 q'.2 hq).1.lt;rw[al.1 i (XK f)]at q1;exact q1) hF
   exact⟨Mu _ k1 hF hz,rfl,⟨r2,cf.swap (I _ _ _ M) rfl rfl cm rfl (eY J cj),B⟩,cl Z E,x,x6,O⟩
 case done =>
  rintro D ys W hD rfl ⟨⟨z,G,T⟩,L,_,h5⟩ u;rw[ae];exact bd D z W G T L hD u λx hx=>h5 ⟨x,hx⟩ (List.mem_attach _ _)
 case stop =>
  rintro D c pre W hD _ ⟨rfl,⟨z,G,T⟩,L,x,_,hx⟩ u;rw[ae];exact wpIn_ret (bi D z W G T L hD u ⟨x.1,x.2,hx⟩)
end
def Qbv:Code->Bool
 |.seq (.seq _ (.block _ (.rangeFunc _ c a b))) _=>Nat.beq c.toList.length 1&&(HI a&&HI b)
 |_=>false
def Ys:Code->Code
 |.seq (.seq x _) _=>x
 |_=>.skip
def rgI:Code->Nat
 |.seq (.seq _ (.block i _)) _=>i
 |_=>0
def yD:Code->x0h
 |.seq (.seq _ (.block _ (.rangeFunc g _ _ _))) _=>g
 |_=>.tmp 0
def Md:Code->Nat
 |.seq (.seq _ (.block _ (.rangeFunc _ a _ _))) _=>a.toList.headD 0
 |_=>0
def yB:Code->Code
 |.seq (.seq _ (.block _ (.rangeFunc _ _ a _))) _=>a
 |_=>.skip
def yC:Code->Code
 |.seq (.seq _ (.block _ (.rangeFunc _ _ _ b))) _=>b
 |_=>.skip
def aa:Code->Code
 |.seq (.seq _ _) c=>c
 |_=>.skip
def Hu(c:Code):Code:=.block (rgI c) (.rangeFunc (yD c) #[Md c] (yB c) (yC c))
def qd{c:Code}(h:Qbv c=true):c=.seq (.seq (Ys c) (Hu c)) (aa c)/\HI (yB c)=true/\HI (yC c)=true:=by
 cases c with
 |seq x c =>
  cases x with
  |seq z x =>
   cases x with
   |block i y =>
    cases y with
    |rangeFunc g d a b =>
     let⟨f,h⟩:=L5.1 (show(Nat.beq d.toList.length 1&&(HI a&&HI b))=true from h);let⟨j,k⟩:=L5.1 h;refine⟨?_,j,k⟩;have l:=Ld f;have m:d=#[d.toList.headD 0]:=by
      apply Array.ext'
      match e:d.toList,l with
      |[x],_=>rfl
     show _=Code.seq (.seq z (.block i (.rangeFunc g #[d.toList.headD 0] a b))) c;rw[<- m]
    |_=>exact Bool.noConfusion h
   |_=>exact Bool.noConfusion h
  |_=>exact Bool.noConfusion h
 |_=>exact Bool.noConfusion h
def KM(a:List Nat):List Deferred:=a.map λD=>{ target:=.collected D,args:=#[] }
variable{b:Code}{args:o3}{C:Prop}
section
variable{P:z4}{tt:List (Nat×TI)}{w0:m0}
def F0(σ:St):St:={ σ with rs:=σ.rs.map λo=>o.map λ_=>VO }
def RC{α β:Type}(f:α->β):∀(l:List (Option α)) (i:Nat),Xq (l.map λo=>o.map f) i=(Xq l i).map f
 |[],_=>rfl
 |x::_,0=>by cases x<;>rfl
 |_::l,i+1=>RC f l i
theorem Sat.tops{w:m0}(h:Sat w0 σ r a w):Sat w0 (F0 σ) ⟨r.b,r.x,λ_ _=>False⟩ a w:=by
 have g:(F0 σ).rs.length=σ.rs.length:=by simp[F0]
 have m:∀s,(F0 σ).lt s=σ.lt s:=λs=>by simp only[St.lt,g];rfl
 have l:∀s,(F0 σ).ltL s=σ.ltL s:=λs=>by simp only[St.ltL,g];rfl
 have n:∀i R,Xq (F0 σ).rs i=some R->R=VO/\i<σ.rs.length:=λi R c=>by
  have f:=XK c;rw[g]at f;have j:Xq (F0 σ).rs i=(Xq σ.rs i).map λ_=>VO:=RC _ _ _
  rw[j]at c;cases e:Xq σ.rs i with
  |none=>rw[e]at c;cases c
  |some q=>rw[e]at c;exact⟨(o7 c).symm,f⟩
 refine⟨⟨h.see.low,h.see.size,λk s o=>?_,λi t cs c=>?_,λi R c=>?_,λi c=>h.see.one i (by rwa [g]at c)⟩,⟨h.sep.own,h.sep.inj,λ_ _ _ _ d=>d.elim,λ_ _ _ _ _ _ _ _ d=>d.elim,λ_ _ _ _ _ _ p=>p.elim⟩,h.defers⟩
 ·let⟨f,j⟩:=h.see.ts k s o
  grind[Vy]
 ·let⟨f,j⟩:=h.see.bs i t cs c
  grind[Vh]
 ·obtain⟨rfl,f⟩:=n i R c;exact⟨⟨h.see.one i f,λ_ d=>d⟩,λb d=>d.elim⟩
def OV{σ:St}:∀(l:List ResultVar) (K:List SV->Prop),kC tt (F0 σ) l K=kC tt σ l K
 |[],_=>rfl
 |v::l,K=>by
  have a:∀K,d9 tt (F0 σ) v K=d9 tt σ v K:=λK=>by cases v<;>rfl
  show d9 tt (F0 σ) v _=d9 tt σ v _;rw[a];congr 1;funext s;exact OV l _
theorem jT{rs:List ResultVar}{e:Ex}{K:SV->Prop}(h:VV tt rs e σ K):VV tt rs e (F0 σ) K:=by
 simp_all[VV,OV]
theorem Ba(w0:m0){fn:Func}{tmps:x0g}{R:Ending->m0->Prop}(v:y9)(J:m0->Prop)(a:∀w,J w->(results fn tmps).run P w=.ok v w/\R (.returned v) w)(d:∀w D,J w->w.heap[D]?=some (.deferred (some []))->w0.heap.size<=D->J (w.putObj D (.deferred none))):∀(b:List Nat) (w:m0),J w->b.Nodup->(∀D,D∈b->w.heap[D]?=some (.deferred (some []))/\w0.heap.size<=D) ->
  LeavesInM Fence.wide 9 P fn tmps R (KM b) .returning w
 |[],w,h,_,_=>⟨v,a w h⟩
 |D::b,w,h,k,f=>by
  let⟨g,l⟩:=f D x6;let⟨o,m⟩:=V3.1 k;refine⟨x6,.inl ⟨D,_,rfl,run_takeDeferred g,Ba _ _ _ a d b _ (d w D h g l) m λi c=>?_⟩⟩;let⟨j,n⟩:=f i (by simp[c]);refine⟨((grownBy_putObj' w D (.deferred none)).block i (b8.1 j).1 λe=>?_).trans j,n⟩
  grind
def WY(z:YF P tt)(I:P.follows .mixedOrders=true)(fn:Func){W:m0}(A:Sat w0 σ r a W)(B:σ.rs=[]){c:Code}{d:List Dir}(h:∀R,XE P tt (Kj P tt w0) (0,0) w0 c { σ with rs:=[some R] } d λe j _=>VV tt fn.results.toList e j λs=>PX R j.rs (Z6 s.plain (s.den e0=v))){o:List Nat}(M:o.Nodup)(N:∀D,D∈o->W.heap[D]?=some (.deferred (some []))/\w0.heap.size<=D):
  c.wp P (Aa (bodyPostM Fence.wide 9 P fn λe f=>e=.returned v/\Below w0.heap.size w0 f)) (YA (KM o) a) W:=by
 have C:=PO A B;refine wp_mono (G9 (FR I (ds:=KM o)) z (JV z I 9) (0,0) c _ d _ (h _) ⟨L7 _,L7 _⟩ _ a W C (λe q f=>(e=.normal\/e=.ret)/\LeavesInM Fence.wide 9 P fn q.tmps (λe f=>e=.returned v/\Below w0.heap.size w0 f) (q.defers++KM o) .returning f) (λ_ _ _ _ _ h=>by rcases h.1 with h|h<;>cases h) (λ_ _ _ _ _ _ h=>False.elim h) λe j U K q f O l _ _=>?_) λe q f y=>?_
 ·let⟨E,s,F,t⟩:=AN w0 z fn.results.toList rfl (jT O);let⟨F,m,G⟩:=AQ F;let⟨Q,S⟩:=Qq F;have T:eW σ r W.heap.size W f:=En A l G;refine⟨by rcases E with rfl|rfl<;>simp[Ex.to],?_⟩
  rw[l.defers,List.nil_append];refine Ba w0 v (λw=>Sat w0 (F0 j) ⟨K.b,K.x,λ_ _=>False⟩ q w) (λw h=>?_) (λw D h g u=>?_) o f l.tops M λD H=>?_
  ·have g:=t _ _ _ h;rw[JK Q,S]at g;exact⟨g,rfl,h.see.low⟩
  ·refine h.grown (λi R n=>?_) (grownBy_putObj' w D (.deferred none)) λk e=>?_
   ·have u:Xq (F0 j).rs i=(Xq j.rs i).map λ_=>VO:=RC _ _ _
    rw[u]at n;cases e:Xq j.rs i with
    |none=>rw[e]at n;cases n
    |some V=>rw[e]at n;exact(o7 n).symm
   ·obtain rfl:=o7 e;exact⟨u,_,g,rfl⟩
  ·let⟨g,u⟩:=N D H;refine⟨(T D (b8.1 g).1 λi p n e=>?_).trans g,u⟩;have L:=(A.see.bs i p.1 p.2 n).1;rw[e]at L;rw[show W.heap[D]?=some (.cells _ p.1 (0,0))from L]at g;cases g
 ·obtain⟨b,rfl,E,y⟩:=y;rcases E with rfl|rfl
  ·exact y
  ·exact y
def av(j:YF P tt){W:m0}(f:Sat w0 σ r a W)(d:σ.rs=[])(h:VV tt fn.results.toList .ret σ λs=>Z6 s.plain (s.den e0=v)){Ds:List Nat}(l:Ds.Nodup)(m:∀D,D∈Ds->W.heap[D]?=some (.deferred (some []))/\w0.heap.size<=D):
  Aa (bodyPostM Fence.wide 9 P fn λe n=>e=.returned v/\Below w0.heap.size w0 n) .ret (YA (KM Ds) a) W:=by
 let⟨u,s,o,b⟩:=AN w0 j fn.results.toList rfl h;let⟨p,q⟩:=Qq o;show LeavesInM Fence.wide 9 P fn a.tmps _ (a.defers++KM Ds) .returning W;rw[f.defers,List.nil_append];refine Ba w0 v (λw=>Sat w0 σ r a w) (λw h=>?_) (λw D h c t=>?_) Ds W f l m
 ·have c:=b _ _ _ h;rw[JK p,q]at c;exact⟨c,rfl,h.see.low⟩
 ·refine h.grown (λi R g=>by rw[d]at g;cases g) (grownBy_putObj' w D (.deferred none)) λk e=>?_
  obtain rfl:=o7 e;exact⟨t,_,c,rfl⟩
def lS(k:YF P tt)(m:P.follows .mixedOrders=true){c:Code}(q:P.funcs[f]?=some fn)(t:fn.body=some c)(u:Nat.ble args.length fn.ntmps=true){d:List Dir}(h:Ol P tt (Kj P tt w0) (0,0) w0 E c (SH fn.ntmps args) d λe σ _=>VV tt fn.results.toList e σ λs=>Z6 s.plain (s.den e0=v))(x:∀b σ r a w,E b σ->Sat w0 σ r a w->b.wp P (Aa (bodyPostM Fence.wide 9 P fn λe g=>e=.returned v/\Below w0.heap.size w0 g)) a w):Calls P f args.toArray w0 λe g=>e=.returned v/\Below w0.heap.size w0 g:=by
 refine callsIn_wide.1 (callsIn_of_wp_marks (F:=Fence.wide) (n:=9) q t trivial (wpIn_wide.2 ?_) rfl);refine wp_mono (Mc k m (JV k m 9) (0,0) (Q:=Aa (bodyPostM Fence.wide 9 P fn λe g=>e=.returned v/\Below w0.heap.size w0 g)) (WE _) x c _ d _ h ⟨L7 _,L7 _⟩ _ _ _ (qm (L8 u) w0) (λ_ _ _ _ _ _ h=>False.elim h) λe G H I l g y i _ _=>?_) λe l g z=>WF z
 ·let⟨A,s,B,j⟩:=AN w0 k fn.results.toList rfl y;let⟨C,D⟩:=Qq B;have o:=j _ _ _ i;rw[JK C,D]at o;have p:LeavesInM Fence.wide 9 P fn l.tmps (λe g=>e=.returned v/\Below w0.heap.size w0 g) l.defers .returning g:=by
   rw[i.defers];exact⟨v,o,rfl,i.see.low⟩
  rcases A with rfl|rfl
  ·exact p
  ·exact p
def mP(a:Option Code)(τ:St)(C:Prop)(b:Code)(σ:St):Prop:=a=some b/\C/\Yb σ τ True
def AL{c:Option Code}(h:mP c τ C b σ){w:m0}(d:Sat w0 σ r a w):c=some b/\C/\Sat w0 τ r a w :=
 ⟨h.1,h.2.1,(Q3 w0 h.2.2).2 _ _ _ d⟩
def Ww(τ:β->St)(i:Nat)(ρ:β->Res)(σ:St):Prop:=∃y:β,ZO (Xq σ.rs i) (λR=>∀x S w,R.φ x S w->(ρ y).φ x S w)/\Yb σ (τ y) True
def AV{τ:β->St}{i:Nat}{ρ:β->Res}(h:Ww τ i ρ σ){w:m0}(b:Sat w0 σ r a w):∃y,(ρ y).φ (r.x i) (r.S i) w/\Sat w0 (τ y) r a w:=by
 let⟨y,c,d⟩:=h;let⟨R,e,f⟩:=QH c;exact⟨y,f _ _ _ (b.see.rs i R e).1,(Q3 w0 d).2 _ _ _ b⟩
def Qc5(a:Option Code)(τ:β->St)(i:Nat)(ρ:β->Res)(C:Prop)(b:Code)(σ:St):Prop:=a=some b/\C/\∃y:β,ZO (Xq σ.rs i) (λR=>∀x S w,R.φ x S w->(ρ y).φ x S w)/\Yb σ (τ y) True
def jJ{c:Option Code}{τ:β->St}{i:Nat}{ρ:β->Res}(h:Qc5 c τ i ρ C b σ){w:m0}(d:Sat w0 σ r a w):c=some b/\C/\∃y,(ρ y).φ (r.x i) (r.S i) w/\Sat w0 (τ y) r a w:=by
 let⟨e,f,y,g,j⟩:=h;let⟨R,k,l⟩:=QH g;exact⟨e,f,y,l _ _ _ (d.see.rs i R k).1,(Q3 w0 j).2 _ _ _ d⟩
def K7(n:Nat)(fn:Func):Code:=(V4 n fn).getD .skip
theorem Ns{n:Nat}(h:V4 n fn=some b):K7 n fn=b:=by grind[K7]
def BQ(P:z4)(tt:List (Nat×TI))(W:m0)(fn:Func)(E:Code->St->Prop)(σ:St)(d:List Dir)(K:Ex->St->List Dir->Prop):Prop:=match fn.body with
 |some c=>Ol P tt (Kj P tt W) (0,0) W E c σ d K
 |none=>False
def EK(P:z4)(w0:m0)(fn:Func)(v:y9):Exit->Act->m0->Prop:=Aa (bodyPostM Fence.wide 9 P fn λe a=>e=.returned v/\Below w0.heap.size w0 a)
def FQ(M:YF P tt)(S:P.follows .mixedOrders=true)(b:Code)(E:Qbv b=true)(bsR:List (Option (o0×List SV)))(F:bsR.length=σ.bs.length)(xs:List α){G:Nat}{N:x0g}(enc:α->y9)(good:α->Bool)(m:σ.rs=[])(o:sL σ.bs=true)(T:BF (some (Md b)) σ.n=true)(g:∀x,x∈xs->∃d,∀R:Res,XE P tt (Kj P tt w0) (σ.bs.length,0) w0 (yB b) { σ.push (some (Md b)) (.val (enc x))with rs:=[some R] } d (qf P tt w0 σ bsR (yC b) (good x) R)){w:m0}(H:Sat w0 σ r a w)(U:a.eval (yD b)=.func (.func G) #[] N)(V:Xt P G)(q:SeqStopsK Fence.wide 8 P G N (λx:{x // x∈xs}=>#[enc x.1]) KpC (λX=>X=xs.attach) (λ_=>True) xs.length w)(fn:Func)(v:y9){j:List Nat}(Y:j.Nodup)(O:∀D,D∈j->w.heap[D]?=some (.deferred (some []))/\w0.heap.size<=D)(t:(∃x,x∈xs/\good x=false)->VV tt fn.results.toList .ret { σ with bs:=bsR } λs=>Z6 s.plain (s.den e0=v))(l:(∀x,x∈xs->good x=true)->∀D k W,Sat w0 σ k a W->(D::j).Nodup->(∀c,c∈D::j->W.heap[c]?=some (.deferred (some []))/\w0.heap.size<=c)->(aa b).wp P (EK P w0 fn v) (YA (KM (D::j)) a) W):
  (Hu b).wp P (Exit.then ((aa b).wp P (EK P w0 fn v)) (EK P w0 fn v)) (YA (KM j) a) w:=by
 let⟨Z,I,J⟩:=qd E;have u:∀D,D∈j->D<w.heap.size:=λD h=>(b8.1 (O D h).1).1
 have f:∀D k W,w.heap.size<=D->W.heap[D]?=some (.deferred (some []))->eW σ r w.heap.size w W->AgN (σ.bs.length,0) r k->(D::j).Nodup/\∀c,c∈D::j->W.heap[c]?=some (.deferred (some []))/\w0.heap.size<=c:=λD k W y z A C=>by
  refine⟨V3.2 ⟨λh=>hA (u D h),Y⟩,λc h=>?_⟩;rcases Lb.1 h with rfl|h
  ·exact⟨z,L6 H.see.low.size y⟩
  ·let⟨k1,B⟩:=O c h;refine⟨(A c (u c h) λi p hi e=>?_).trans k1,B⟩;have Q:=(H.see.bs i p.1 p.2 hi).1;rw[e]at Q;rw[show w.heap[c]?=some (.cells _ p.1 (0,0))from Q]at k1;cases k1
 refine wp_block (Qby M S F m o T I J g H U V q (λD k W y z A C K L=>?_) λD k W y z A C K L=>?_)
 ·let⟨k1,B⟩:=f D k W C K A z;exact l L D k W y k1 B
 ·let⟨k1,B⟩:=f D k W C K A z;exact av M y m (t L) k1 B
def Zs:Code->Code
 |.seq x _=>x
 |_=>.skip
def QE:Code->Code
 |.seq _ y=>y
 |_=>.skip
def uK(R:Res)(E:St->Prop)(e:Ex)(σ:St):Prop:=match e with
 |.normal=>PX R σ.rs (E σ)
 |_=>False
def MY(z:YF P tt)(A:P.follows .mixedOrders=true)(fn:Func){W:m0}(n:Sat w0 σ r a W)(o:σ.rs=[])(q:Qbv b=true){d:List Dir}(E:St->Prop)(h:∀R,XE P tt (Kj P tt w0) (0,0) w0 (Ys b) { σ with rs:=[some R] } d λe c _=>uK R E e c)(Ds:List Nat)(C:∀D,D∈Ds->W.heap[D]?=some (.deferred (some []))/\w0.heap.size<=D)(F:∀c s f t,E c->Sat w0 c s f t->(∀D,D∈Ds->t.heap[D]?=some (.deferred (some []))/\w0.heap.size<=D)->(Hu b).wp P (Exit.then ((aa b).wp P (EK P w0 fn v)) (EK P w0 fn v)) (YA (KM Ds) f) t):
  b.wp P (EK P w0 fn v) (YA (KM Ds) a) W:=by
 have u:=PO n o;rw[(qd q).1];refine wp_seq (wp_seq (wp_mono (G9 (FR A (ds:=KM Ds)) z (JV z A 9) (0,0) (Ys b) _ d _ (h _) ⟨L7 _,L7 _⟩ _ a W u (λe f g=>e=.normal/\(Hu b).wp P (Exit.then ((aa b).wp P (EK P w0 fn v)) (EK P w0 fn v)) (YA (KM Ds) f) g) (λ_ _ _ _ _ h=>by cases h.1) (λ_ _ _ _ _ _ h=>False.elim h) λe c J s f g j k _ _=>?_) λe f g w=>?_))
 ·cases e with
  |normal =>
   let⟨j,m,x⟩:=AQ (show PX _ c.rs (E c)from j);have G:eW σ r W.heap.size W g:=En n k x;refine⟨rfl,F c s f g j k λD y=>?_⟩;let⟨l,H⟩:=C D y;refine⟨(G D (b8.1 l).1 λi p I e=>?_).trans l,H⟩;have B:=(n.see.bs i p.1 p.2 I).1;rw[e]at B;rw[show W.heap[D]?=some (.cells _ p.1 (0,0))from B]at l;cases l
  |ret=>exact False.elim j
  |exit i=>exact False.elim j
 ·obtain⟨b,rfl,rfl,w⟩:=w;exact w
theorem jp(g:YF P tt)(i:P.follows .mixedOrders=true)(l:P.funcs[f]?=some fn)(m:Nat.ble args.length fn.ntmps=true){R:Ending->m0->Prop}{d:List Dir}(h:BQ P tt w0 fn E (SH fn.ntmps args) d λ_ _ _=>False)(n:∀b σ r a w,E b σ->Sat w0 σ r a w->b.wp P (bodyPost P fn R) a w):Calls P f args.toArray w0 R:=by
 unfold BQ at h;cases j:fn.body with
 |none =>
  grind
 |some c =>
  rw[j]at h;refine calls_of_wp l j (wp_mono (Mc g i (JV g i 9) (0,0) (Q:=bodyPost P fn R) (λd v q a w k=>⟨k.1,k.2⟩) n c _ d _ h ⟨L7 _,L7 _⟩ _ _ _ (qm (L8 m) w0) (λ_ _ _ _ _ _ h=>False.elim h) λe s t u x y o p _ _=>o.elim) λe a w h=>h)
theorem RV(j:YF P tt)(k:P.follows .mixedOrders=true)(l:Xt P f)(m:P.funcs[f]?=some fn)(n:Nat.ble args.length fn.ntmps=true)(h:∀W,Below w0.heap.size w0 W->∃E d,BQ P tt W fn E (SH fn.ntmps args) d (λe σ _=>VV tt fn.results.toList e σ λs=>Z6 s.plain (s.den e0=v)) /\
   ∀b σ r a w,E b σ->Sat W σ r a w->b.wp P (EK P W fn v) (YA (KM []) a) w):RetAt P w0 f args.toArray v:=by
 refine⟨l,λW o=>?_⟩;let⟨E,d,g,p⟩:=h W o;unfold BQ at g;cases i:fn.body with
 |none =>
  grind
 |some c =>
  rw[i]at g;refine lS j k m i n (E:=E) g λb σ r a w k1 q=>?_
  have t:=p b σ r a w k1 q;rwa [show YA (KM []) a=a by simp[YA,KM]]at t
end
def TX(y:Nat)(t:o0)(cs:o3):Res where
 φ x S w:=x=.bool false/\Bx w y t cs.toArray/\∀b,S b↔b=y
 one _ _ _ h:=by rw[h.1];rfl
 loc x S w w' h hφ:=⟨hφ.1,(h y ((hφ.2.2 y).2 rfl)).trans hφ.2.1,hφ.2.2⟩
def XG{T U:Prop}(h:T)(a:T=U):U:=a▸h
def yn{m:m1}(vars:Int)(d:m.size<=4294967296)(w:m0):RetAt prog w 81 #[Ψ m,Θ vars] (Ξ (ZN m vars)) :=
 rk [P5 (λ(k:Nat)=>(⟨20,[(0,sV m),(1,iV vars),(4,bV false),(7,iV (m.size:Int)),(8,iV (k:Int))],[],[]⟩:St)) m.size (λj=>decide ((bt m j:Int)>127)) (λ(k:Nat)=>[.both [x03 4 2 (.int .u8 (bt m k:Int)),.both [] [x05 6 0 (iV ((k+1:Nat):Int)),.next 0]] []])] λW e f=>KJ (qS m) (qI vars) (qB false) (qI (m.size:Int)) (qI ((0:Nat):Int))<|ai (c0 m.size (λj=>decide ((bt m j:Int)>127))) λ(k:Nat) (c:cQ m.size (λj=>decide ((bt m j:Int)>127)) k)=>Xi (decide ((k:Int)<(m.size:Int))) (λa=>ai (bz W m k (hA (L0 a)))<|Xi (decide ((bt m k:Int)>127)) (λb=>(show(Ξ false)=Ξ (ZN m vars)from by rw[ZN,ZG (Qt a) b];rfl)) λb=>Vv (QD k (hA (L0 a))) (qS m) (qI vars) (qB false) (qI (m.size:Int)) (qI (((k+1):Nat):Int))<|ai (cS c (Qt a) b) (Oe (Qt a))) λa=>(show(Ξ ((m.size:Int)==vars))=Ξ (ZN m vars)from by rw[ZN,Kf λj g=>c.2 j (hA (L1 a))];rfl)
variable{vars:Int}
def Qfi(h:decide (vars>=0)=true):(.bool (decide (vars<=12)):y9)=.bool (decide (0<=vars/\vars<=12)):=by
 have:=L0 h;congr 1;exact decide_eq_decide.2 ⟨λh=>⟨x3,h⟩,λh=>h.2⟩
def Qfh(h:decide (vars>=0)=false):(.bool false:y9)=.bool (decide (0<=vars/\vars<=12)):=by
 have:=L1 h;rw[Lc x3]
def ye(vars:Int)(w:m0):RetAt prog w 80 #[Θ vars] (Ξ (decide (0<=vars/\vars<=12))) :=
 rk [.gb 1 3 [] []] λW b c=>ZD (decide (vars>=0)) true (λa=>Qfi a) λa=>Qfh a
def jq{l:List Tm}(h:(!decide (0<=vars/\vars<=12))=true):(.int .i64 1:y9)=.int .i64 (K9 ⟨vars,l⟩):=by
 have b:¬(0<=vars/\vars<=12):=by
  cases a:decide (0<=vars/\vars<=12)with
  |true=>rw[a]at h;cases h
  |false=>exact L1 a
 unfold K9;rw[if_neg b]
def bH{l:List Tm}(h:(!decide (0<=vars/\vars<=12))=false)(a:decide ((l.length:Int)>4096)=true):(.int .i64 3:y9)=.int .i64 (K9 ⟨vars,l⟩):=by
 have b:0<=vars/\vars<=12:=l3 h;have c:4096<l.length:=hA (L0 a);unfold K9;rw[if_pos b,if_pos c]
def AD(l:List Tm)(h:(!decide (0<=vars/\vars<=12))=false)(a:decide ((l.length:Int)>4096)=false)(b:decide ((k:Int)<(l.length:Int))=true)(c:CI vars l k=true):(.int .i64 1:y9)=.int .i64 (K9 ⟨vars,l⟩):=by
 have d:0<=vars/\vars<=12:=l3 h;have e:¬ 4096<l.length:=hA (L1 a);unfold K9;rw[if_pos d,if_neg e,if_pos (ZG (Qt b) c)]
def lY{l:List Tm}(h:(!decide (0<=vars/\vars<=12))=false)(a:decide ((l.length:Int)>4096)=false)(b:decide ((k:Int)<(l.length:Int))=false)(c:∀j,j<k->CI vars l j=false):(.int .i64 0:y9)=.int .i64 (K9 ⟨vars,l⟩):=by
 have d:0<=vars/\vars<=12:=l3 h;have e:¬ 4096<l.length:=hA (L1 a);unfold K9;rw[if_pos d,if_neg e,if_neg (by rw[Kf λj (f:j<l.length)=>c j (hA (L1 b))];decide)]
def pe{A:m3}{c:Nat}{l:List Tm}(r:l.length<=4294967296)(q:∀t,t∈l->t.m.size<=1048576/\okN t.c)(w:m0)(v:QV w)(D:RdK w A l.length 4 (λj=>QK (Qb l j))):RetAt prog w 45 #[.agg #[Θ vars,Ω A l.length c]] (Θ (K9 ⟨vars,l⟩)) :=
 let y:OB:=some (52,[iV vars,lV A l.length c]);rk [x04 1 2 (bV (decide (0<=vars/\vars<=12))),.both [] [.both [] [P5 (λ(k:Nat)=>(⟨58,[(1,.ptr 0 0),(2,iV 0),(14,lV A l.length c),(15,iV (l.length:Int)),(16,iV (k:Int))],[none],[]⟩:St)) l.length (λj=>CI vars l j) (λ(k:Nat)=>[.both [x03 7 1 (.pointer (some (Q5 A (k*4+0)))),x03 7 2 (.agg #[Ψ ((Qb l k).m),Ξ ((Qb l k).c.b),Ψ ((Qb l k).c.s),Θ ((Qb l k).c.e)]),.reg 36 [],x04 8 4 (bV (ZN (Qb l k).m vars)),.gb 8 7 [.g 8 8 true,.g 8 9 true,x04 8 9 (iV (sg (Qb l k).c)),.g 8 10 true,.o 8 11 (.pk false),.gb 8 13 [.g 8 14 true,.g 8 15 true,x04 8 15 (.agg [bV (neg (dm (nv (Qb l k).c))),sV (QJ (dm (nv (Qb l k).c))),iV (de (nv (Qb l k).c))]),.g 8 16 true,.g 8 17 true,.g 8 18 true,x03 8 18 (Ξ (!(Ks (Qb l k).c))),.o 8 19 (.pk false),.gb 8 21 [.g 8 22 true,.g 8 23 true,.gb 8 24 [.g 8 25 true,.g 8 26 true,.g 8 27 true,x05 8 27 (iV ((k-1:Nat):Int)),.g 8 28 true,x03 8 28 (.pointer (some (Q5 A ((k-1)*4+0)))),.g 8 29 true,.g 8 30 true,x03 8 30 (Ψ ((Qb l (k-1)).m)),.g 8 31 true,.g 8 32 true,.g 8 33 true,x03 8 33 (Ξ (!(By ((Qb l (k-1)).m) ((Qb l k).m)))),.g 8 34 true,.o 8 34 (.pk true),.o 8 35 (.pk false),.both [] [x05 10 0 (iV ((k+1:Nat):Int)),.next 0]] [.g 8 25 false,.g 8 26 false,.g 8 27 false,.g 8 28 false,.g 8 29 false,.g 8 30 false,.g 8 31 false,.g 8 32 false,.g 8 33 false,.g 8 34 true,.o 8 34 (.pk false),.o 8 35 (.pk false),x05 10 0 (iV ((k+1:Nat):Int)),.next 0]] [.g 8 22 false,.g 8 23 false,.g 8 34 false,.o 8 35 (.pk true)]] [.g 8 14 false,.g 8 15 false,.g 8 16 false,.g 8 17 false,.g 8 18 false,.o 8 19 (.pk true)]] [.g 8 8 false,.g 8 9 false,.g 8 10 false,.o 8 11 (.pk true)]] []])]]] λW C E=>have x:=D.up C (λ_=>rfl);(λ(v:QV W)=>ai (ye vars W)<|Xi (!(decide (0<=vars/\vars<=12))) (λu=>jq (l:=l) u) λu=>Xi (decide ((l.length:Int)>4096)) (λr=>bH (l:=l) u r) λr=>KJ (qI 0) (qV (Ω A l.length c)) (qI (l.length:Int)) (qI ((0:Nat):Int)) (qk y)<|ai (c0 l.length (λj=>CI vars l j)) λ(k:Nat) (z:cQ l.length (λj=>CI vars l j) k)=>Xi (decide ((k:Int)<(l.length:Int))) (λd=>Ja (Y0 c x k (Qt d)) (ZE x k 0 (hA (L0 d)) x4 rfl rfl) (yn vars (L6 (q _ (Yh (Qt d))).1 x4) W)<|ZD (!(ZN (Qb l k).m vars)) false (λh=>KJ h h (rc W call58 λW=>GB (Qb l k).c.s (Qb l k).c.b (Qb l k).c.e W) h h<|ZD ((sg (Qb l k).c)==0) false (λf=>Yx f f (rt v call52 λW v=>KA (Qb l k).c.s (Qb l k).c.b (Qb l k).c.e W (hA ((q _ (Yh (Qt d))).2.sz)) (hA ((q _ (Yh (Qt d))).2.lo)) (hA ((q _ (Yh (Qt d))).2.hi)) v) f f f (Bg W (.tmp 36) (.tmp 38) (neg (dm (nv (Qb l k).c))) (Qb l k).c.b (QJ (dm (nv (Qb l k).c))) (Qb l k).c.s (de (nv (Qb l k).c)) (Qb l k).c.e) f<|ZD (!(Ks (Qb l k).c)) false (λp=>X0 p p<|ZD (decide ((k:Int)>0)) true (λa=>Yx a a a (show IntKind.i64.wrap ((k:Int)-1)=((k-1:Nat):Int)from Qcd (hA (L0 d)) (hA (L0 a))) a (Y0 c x (k-1) (hA (L0 d))) a a<|Yx (AT _ x (k-1) 0 (hA (L0 d)) x4 rfl) a a a (wM W (.tmp 51) (.tmp 53) ((Qb l (k-1)).m) ((Qb l k).m)) p a p<|Xi (!(By ((Qb l (k-1)).m) ((Qb l k).m))) (λB=>AD l u r d (by unfold CI;rw[h,f,p,a,B];rfl)) λB=>Vv (QD k (hA (L0 d))) (qI 0) (qV (Ω A l.length c)) (qI (l.length:Int)) (qI (((k+1):Nat):Int)) (qk y)<|ai (cS z (Qt d) (by unfold CI;rw[h,f,p,a,B];rfl)) (Oe (Qt d))) λa=>Yx a a a a a a a a<|Yx a p a p (QD k (hA (L0 d))) (qI 0) (qV (Ω A l.length c)) (qI (l.length:Int))<|X0 (qI (((k+1):Nat):Int)) (qk y)<|ai (cS z (Qt d) (by unfold CI;rw[h,f,p,a];rfl)) (Oe (Qt d))) λp=>Ky p p p p<|AD l u r d (by unfold CI;rw[h,f,p];rfl)) λf=>Vv f f f f f f<|AD l u r d (by unfold CI;rw[h,f];rfl)) λh=>Ky h h h h<|AD l u r d (by unfold CI;rw[h];rfl)) λd=>lY (l:=l) u r d z.2) (Ql v C)
def okN.nd{x:Nm}(h:okN x):ND x.b x.s x.e (nv x):=⟨rfl,L6 h.sz x4,hA h.lo,hA h.hi⟩
def okS.nd{x:Nm}(h:okS x):ND x.b x.s x.e (nv x):=⟨rfl,L6 h.sz x4,hA h.lo,hA h.hi⟩
variable{ts:List Tm}
def Qa5{b:Nat}(a:okP ⟨vars,ts⟩)(w:m0)(d:QV w)(e:SlV b 4 V7 w ts v):RetAt prog w 45 #[.agg #[.int .i64 vars,v]] (.int .i64 (K9 ⟨vars,ts⟩)):=by
 obtain⟨A,c,rfl,_,_,f⟩:=SlV.enc Bp e;exact pe a.len a.tms w d f
def bF{l:List (Nm×Nm)}(a:decide ((k:Int)<(l.length:Int))=true)(b:Mf l k=true):(.int .i64 5:y9)=.int .i64 (V8 l):=by
 unfold V8;rw[if_pos (ZG (Qt a) b)]
def bG{l:List (Nm×Nm)}(a:∀j,j<k->Mf l j=false)(b:decide ((k:Int)<(l.length:Int))=false)(c:((l.length:Int)==0)=true):(.int .i64 1:y9)=.int .i64 (V8 l):=by
 have d:l.length=0:=l3 c;unfold V8;rw[if_neg (by rw[Kf λj (e:j<l.length)=>a j (hA (L1 b))];decide),if_pos d]
def lX{l:List (Nm×Nm)}(a:∀j,j<k->Mf l j=false)(b:decide ((k:Int)<(l.length:Int))=false)(c:((l.length:Int)==0)=false):(.int .i64 0:y9)=.int .i64 (V8 l):=by
 have d:¬ l.length=0:=l3 c;unfold V8;rw[if_neg (by rw[Kf λj (e:j<l.length)=>a j (hA (L1 b))];decide),if_neg d]
def zh{A:m3}{c:Nat}{l:List (Nm×Nm)}(t:l.length<=4294967296)(d:∀s,s∈l->okN s.1/\okN s.2)(w:m0)(f:QV w)(r:RdK w A l.length 6 (λj=>JR (QN l j))):RetAt prog w 28 #[Ω A l.length c] (Θ (V8 l)) :=
 rk [P5 (λ(k:Nat)=>(⟨21,[(0,lV A l.length c),(2,iV 0),(5,lV A l.length c),(6,iV (l.length:Int)),(7,iV (k:Int))],[],[]⟩:St)) l.length (λj=>Mf l j) (λ(k:Nat)=>[.both [x03 3 0 (.pointer (some (Q5 A (k*6+0)))),x03 3 1 (.agg #[Ξ ((QN l k).1.b),Ψ ((QN l k).1.s),Θ ((QN l k).1.e),Ξ ((QN l k).2.b),Ψ ((QN l k).2.s),Θ ((QN l k).2.e)]),x04 4 4 (iV (GP (nv (QN l k).1-nv (QN l k).2))),.both [] [x05 6 0 (iV ((k+1:Nat):Int)),.next 0]] [.both [] []]])] λW p u=>have q:=r.up p (λ_=>rfl);(λ(f:QV W)=>KJ (qV (Ω A l.length c)) (qI 0) (qV (Ω A l.length c)) (qI (l.length:Int)) (qI ((0:Nat):Int))<|ai (c0 l.length (λj=>Mf l j)) λ(k:Nat) (g:cQ l.length (λj=>Mf l j) k)=>Xi (decide ((k:Int)<(l.length:Int))) (λa=>Ja (CR c q k (Qt a)) (Eu q k 0 (hA (L0 a)) x4 rfl rfl) (rt f call59 λW f=>me W (d _ (ET (Qt a))).1.nd (d _ (ET (Qt a))).2.nd f)<|Xi (decide ((GP (nv (QN l k).1-nv (QN l k).2))>=0)) (λh=>bF (l:=l) a h) λh=>Vv (QD k (hA (L0 a))) (qV (Ω A l.length c)) (qI 0) (qV (Ω A l.length c)) (qI (l.length:Int)) (qI (((k+1):Nat):Int))<|ai (cS g (Qt a) h) (Oe (Qt a))) λa=>Xi ((l.length:Int)==0) (λm=>bG (l:=l) g.2 a m) λm=>lX (l:=l) g.2 a m) (Ql f p)
variable{η:Int}
def oZ{k l m n p q r s t a b c d:y9}{u:Nat}(e:okP ⟨vars,ts⟩)(w:m0)(f:QV w)(x:Bx w g 35 #[k,Θ η,l,m,n,p,q,r,s,t,a,b,c,d])(y:SlV u 4 V7 w ts v):RetAt prog w 44 #[.agg #[Θ vars,v],x02 g] (Ξ (Yo η ⟨vars,ts⟩)) :=
 have j:=eB (Yo η ⟨vars,ts⟩);rk [x04 1 1 (iV (K9 ⟨vars,ts⟩)),.gb 1 4 [x03 1 7 (Θ η)] []] λW h B=>have z:=x.later h;have A:=y.below YS h;(λ(f:QV W)=>ai (Qa5 e W f A)<|ZD ((K9 ⟨vars,ts⟩) != 0) false (λi=>ai (Ze _ 1 z rfl)<|(j (vars != η) (by unfold Yo;rw[i];rfl))) λi=>(j true (by unfold Yo;rw[i];rfl))) (Ql f h)
abbrev Hwa(g:Nat):y9:=.func (.func 44) #[] #[.pointer (some ⟨g,0,none⟩)]
variable{b:Nat->y9}
def xK{y z B C D E F G H e h m q:y9}{u:Nat}{A:m3}{c:Nat}{l:List Py}(P:l.length<=4294967296)(r:∀p,p∈l->okP p)(w:m0)(I:QV w)(J:Bx w g 35 #[y,Θ η,z,B,C,D,E,F,G,H,e,h,m,q])(K:RdK w A l.length 2 (yz l b))(L:∀j,j<l.length->SlV u 4 V7 w (QM l j).ts (b j)):RetAt prog w 85 #[Ω A l.length c,.func (.func 44) #[] #[x02 g]] (Θ (ZX l.length λj=>Yo η (QM l j))) :=
 rk [P5 (λ(k:Nat)=>(⟨19,[(0,lV A l.length c),(1,.val (Hwa g)),(4,iV 0),(6,lV A l.length c),(7,iV (l.length:Int)),(8,iV (k:Int))],[],[]⟩:St)) l.length (λj=>Yo η (QM l j)) (λ(k:Nat)=>[.both [x03 4 3 (.pointer (some (Q5 A (k*2+0)))),x03 4 4 (.agg #[Θ ((QM l k).vars),b k]),x04 4 5 (bV (Yo η (QM l k))),.both [] [x05 6 0 (iV ((k+1:Nat):Int)),.next 0]] []])] λW d Q=>have M:=J.later d;have v:=K.up d (λ_=>rfl);(λ(N:∀j,j<l.length->SlV u 4 V7 W (QM l j).ts (b j))=>have O:=Ql I d;Vv (qV (Ω A l.length c)) (qV (Hwa g)) (qI 0) (qV (Ω A l.length c)) (qI (l.length:Int)) (qI ((0:Nat):Int))<|ai (c0 l.length (λj=>Yo η (QM l j))) λ(k:Nat) (s:cQ l.length (λj=>Yo η (QM l j)) k)=>Xi (decide ((k:Int)<(l.length:Int))) (λa=>Ja (J5 c v k (Qt a)) (D8 v k 0 (hA (L0 a)) x4 rfl rfl) (oZ (r _ (VK (Qt a))) W O M (N k (Qt a)))<|Xi (Yo η (QM l k)) (λt=>(show(Θ (k:Int):y9)=(Θ (ZX l.length λj=>Yo η (QM l j)))from Lu (Value.int .i64) (VD (λj=>Yo η (QM l j)) s.2 (hA (L0 a)) t).symm)) λt=>GL (QD k (hA (L0 a))) (qV (Ω A l.length c)) (qV (Hwa g)) (qI 0) (qV (Ω A l.length c)) (qI (l.length:Int)) (qI (((k+1):Nat):Int))<|ai (cS s (Qt a) t) (Oe (Qt a))) λa=>(show(Θ (-1):y9)=(Θ (ZX l.length λj=>Yo η (QM l j)))from Lu (Value.int .i64) (Gg (λj=>Yo η (QM l j)) λj x=>s.2 j (hA (L1 a))).symm)) (λj x=>(L j x).below YS d)
def i9(η:Int)(q0 q2 q3 q4 q5 q6 q7 q8 q9 q10 q11 q12 q13:y9)(A:m3)(c:Nat)(l:List Py)(f:l.length<=4294967296)(d:∀p,p∈l->okP p)(w:m0)(h:QV w)(i:Bx w g 35 #[q0,Θ η,q2,q3,q4,q5,q6,q7,q8,q9,q10,q11,q12,q13])(k:RdK w A l.length 2 (yz l b))(m:∀j,j<l.length->SlV e 4 V7 w (QM l j).ts (b j)):RetAt prog w 48 #[Ω A l.length c,.func (.func 44) #[] #[x02 g]] (Ξ (XQ l.length λj=>Yo η (QM l j))) :=
 rk [x04 1 2 (iV (ZX l.length λj=>Yo η (QM l j)))] λW a u=>have n:=i.later a;have q:=k.up a (λ_=>rfl);(λ(r:∀j,j<l.length->SlV e 4 V7 W (QM l j).ts (b j))=>have s:=Ql h a;ai (xK (c:=c) f d W s n q r)<|(show(Ξ (decide ((ZX l.length λj=>Yo η (QM l j))>=0)):y9)=Ξ (XQ l.length λj=>Yo η (QM l j))from Lu Ξ (DG l.length λj=>Yo η (QM l j)))) (λj t=>(m j t).below YS a)
def tR(x:List Nm)(A:m3)(c:Nat)(w:m0)(a:Bx w g 3 #[Θ η]):RetAt prog w 82 #[Ω A x.length c,x02 g] (Ξ (Xb η x)) :=
 rk [x03 1 2 (Θ η)] λW b d=>have e:=a.later b;ai (Ze _ 0 e rfl)<|d
variable{a:Nat}
def tT{x:List Nm}(w:m0)(b:Bx w g 3 #[.int .i64 η])(d:SlV a 3 VT w x v):RetAt prog w 82 #[v,.pointer (some ⟨g,0,none⟩)] (.bool (Xb η x)):=by
 obtain⟨A,c,rfl,_⟩:=d.shape;exact tR x A c w b
abbrev Hwb(g:Nat):y9:=.func (.func 82) #[] #[.pointer (some ⟨g,0,none⟩)]
def tQ{m:Nat}{A:m3}{c:Nat}{l:List (List Nm)}(x:l.length<=4294967296)(w:m0)(r:Bx w g 3 #[Θ η])(s:RdK w A l.length 1 (λj=>[b j]))(t:∀j,j<l.length->SlV m 3 VT w (Qu l j) (b j)):RetAt prog w 116 #[Ω A l.length c,.func (.func 82) #[] #[x02 g]] (Θ (ZX l.length λj=>Xb η (Qu l j))) :=
 rk [P5 (λ(k:Nat)=>(⟨19,[(0,lV A l.length c),(1,.val (Hwb g)),(4,iV 0),(6,lV A l.length c),(7,iV (l.length:Int)),(8,iV (k:Int))],[],[]⟩:St)) l.length (λj=>Xb η (Qu l j)) (λ(k:Nat)=>[.both [x03 4 3 (.pointer (some (Q5 A (k*1+0)))),x03 4 4 (b k),x04 4 5 (bV (Xb η (Qu l k))),.both [] [x05 6 0 (iV ((k+1:Nat):Int)),.next 0]] []])] λW d y=>have u:=r.later d;have p:=s.up d (λ_=>rfl);(λ(v:∀j,j<l.length->SlV m 3 VT W (Qu l j) (b j))=>Vv (qV (Ω A l.length c)) (qV (Hwb g)) (qI 0) (qV (Ω A l.length c)) (qI (l.length:Int)) (qI ((0:Nat):Int))<|ai (c0 l.length (λj=>Xb η (Qu l j))) λ(k:Nat) (e:cQ l.length (λj=>Xb η (Qu l j)) k)=>Xi (decide ((k:Int)<(l.length:Int))) (λa=>Ja (Zy c p k (Qt a)) (J6 p k 0 (hA (L0 a)) x4 rfl) (tT W u (v k (Qt a)))<|Xi (Xb η (Qu l k)) (λh=>(show(Θ (k:Int):y9)=(Θ (ZX l.length λj=>Xb η (Qu l j)))from Lu (Value.int .i64) (VD (λj=>Xb η (Qu l j)) e.2 (hA (L0 a)) h).symm)) λh=>GL (QD k (hA (L0 a))) (qV (Ω A l.length c)) (qV (Hwb g)) (qI 0) (qV (Ω A l.length c)) (qI (l.length:Int)) (qI (((k+1):Nat):Int))<|ai (cS e (Qt a) h) (Oe (Qt a))) λa=>(show(Θ (-1):y9)=(Θ (ZX l.length λj=>Xb η (Qu l j)))from Lu (Value.int .i64) (Gg (λj=>Xb η (Qu l j)) λj q=>e.2 j (hA (L1 a))).symm)) (λj q=>(t j q).below YH d)
variable{d:Nat}
def tP(η:Int){A:m3}(c:Nat){l:List (List Nm)}{a:Nat->y9}(e:l.length<=4294967296)(w:m0)(f:Bx w g 3 #[Θ η])(h:RdK w A l.length 1 (λj=>[a j]))(i:∀j,j<l.length->SlV d 3 VT w (Qu l j) (a j)):RetAt prog w 83 #[Ω A l.length c,.func (.func 82) #[] #[x02 g]] (Ξ (XQ l.length λj=>Xb η (Qu l j))) :=
 rk [x04 1 2 (iV (ZX l.length λj=>Xb η (Qu l j)))] λW b q=>have k:=f.later b;have m:=h.up b (λ_=>rfl);(λ(n:∀j,j<l.length->SlV d 3 VT W (Qu l j) (a j))=>ai (tQ (c:=c) e W k m n)<|(show(Ξ (decide ((ZX l.length λj=>Xb η (Qu l j))>=0)):y9)=Ξ (XQ l.length λj=>Xb η (Qu l j))from Lu Ξ (DG l.length λj=>Xb η (Qu l j)))) (λj p=>(i j p).below YH b)
def rM(x:List Nm)(A:m3)(c:Nat)(w:m0)(a:Bx w g 3 #[Θ η]):RetAt prog w 123 #[Ω A x.length c,x02 g] (Ξ (Xb η x)) :=
 rk [x03 1 2 (Θ η)] λW b d=>have e:=a.later b;ai (Ze _ 0 e rfl)<|d
def rO{x:List Nm}(w:m0)(b:Bx w g 3 #[.int .i64 η])(d:SlV a 3 VT w x v):RetAt prog w 123 #[v,.pointer (some ⟨g,0,none⟩)] (.bool (Xb η x)):=by
 obtain⟨A,c,rfl,_⟩:=d.shape;exact rM x A c w b
abbrev Hwc(g:Nat):y9:=.func (.func 123) #[] #[.pointer (some ⟨g,0,none⟩)]
def rL{m:Nat}{A:m3}{c:Nat}{l:List (List Nm)}(x:l.length<=4294967296)(w:m0)(r:Bx w g 3 #[Θ η])(s:RdK w A l.length 1 (λj=>[b j]))(t:∀j,j<l.length->SlV m 3 VT w (Qu l j) (b j)):RetAt prog w 116 #[Ω A l.length c,.func (.func 123) #[] #[x02 g]] (Θ (ZX l.length λj=>Xb η (Qu l j))) :=
 rk [P5 (λ(k:Nat)=>(⟨19,[(0,lV A l.length c),(1,.val (Hwc g)),(4,iV 0),(6,lV A l.length c),(7,iV (l.length:Int)),(8,iV (k:Int))],[],[]⟩:St)) l.length (λj=>Xb η (Qu l j)) (λ(k:Nat)=>[.both [x03 4 3 (.pointer (some (Q5 A (k*1+0)))),x03 4 4 (b k),x04 4 5 (bV (Xb η (Qu l k))),.both [] [x05 6 0 (iV ((k+1:Nat):Int)),.next 0]] []])] λW d y=>have u:=r.later d;have p:=s.up d (λ_=>rfl);(λ(v:∀j,j<l.length->SlV m 3 VT W (Qu l j) (b j))=>Vv (qV (Ω A l.length c)) (qV (Hwc g)) (qI 0) (qV (Ω A l.length c)) (qI (l.length:Int)) (qI ((0:Nat):Int))<|ai (c0 l.length (λj=>Xb η (Qu l j))) λ(k:Nat) (e:cQ l.length (λj=>Xb η (Qu l j)) k)=>Xi (decide ((k:Int)<(l.length:Int))) (λa=>Ja (Zy c p k (Qt a)) (J6 p k 0 (hA (L0 a)) x4 rfl) (rO W u (v k (Qt a)))<|Xi (Xb η (Qu l k)) (λh=>(show(Θ (k:Int):y9)=(Θ (ZX l.length λj=>Xb η (Qu l j)))from Lu (Value.int .i64) (VD (λj=>Xb η (Qu l j)) e.2 (hA (L0 a)) h).symm)) λh=>GL (QD k (hA (L0 a))) (qV (Ω A l.length c)) (qV (Hwc g)) (qI 0) (qV (Ω A l.length c)) (qI (l.length:Int)) (qI (((k+1):Nat):Int))<|ai (cS e (Qt a) h) (Oe (Qt a))) λa=>(show(Θ (-1):y9)=(Θ (ZX l.length λj=>Xb η (Qu l j)))from Lu (Value.int .i64) (Gg (λj=>Xb η (Qu l j)) λj q=>e.2 j (hA (L1 a))).symm)) (λj q=>(t j q).below YH d)
def rK(η:Int){A:m3}(c:Nat){l:List (List Nm)}{a:Nat->y9}(e:l.length<=4294967296)(w:m0)(f:Bx w g 3 #[Θ η])(h:RdK w A l.length 1 (λj=>[a j]))(i:∀j,j<l.length->SlV d 3 VT w (Qu l j) (a j)):RetAt prog w 83 #[Ω A l.length c,.func (.func 123) #[] #[x02 g]] (Ξ (XQ l.length λj=>Xb η (Qu l j))) :=
 rk [x04 1 2 (iV (ZX l.length λj=>Xb η (Qu l j)))] λW b q=>have k:=f.later b;have m:=h.up b (λ_=>rfl);(λ(n:∀j,j<l.length->SlV d 3 VT W (Qu l j) (a j))=>ai (rL (c:=c) e W k m n)<|(show(Ξ (decide ((ZX l.length λj=>Xb η (Qu l j))>=0)):y9)=Ξ (XQ l.length λj=>Xb η (Qu l j))from Lu Ξ (DG l.length λj=>Xb η (Qu l j)))) (λj p=>(i j p).below YH b)
def kv{A:m3}{c:Nat}(x:Nd)(f:okP x.sum)(w:m0)(k:QV w)(p:Bx w g 3 #[Θ η])(q:RdK w A x.sum.ts.length 4 (λj=>QK (Qb x.sum.ts j))):RetAt prog w 88 #[.agg #[Θ x.split,Ξ x.ο.b,Ψ x.ο.s,Θ x.ο.e,Θ x.sum.vars,Ω A x.sum.ts.length c],x02 g] (Ξ (Zm η x)) :=
 have d:=eB (Zm η x);rk [.both [.gb 2 4 [x03 2 7 (Ξ (!(lr x.ο))),.gb 2 10 [.gb 2 16 [] []] []] []] [x04 3 2 (iV (K9 x.sum)),.gb 3 5 [x03 3 8 (Θ η)] []]] λW l u=>have r:=p.later l;have t:=q.up l (λ_=>rfl);(λ(k:QV W)=>Xi (x.split != 0) (λa=>ZD (x.split != 1) false (λh=>ai (Bg W (.tmp 12) (.tmp 13) x.ο.b false x.ο.s ⟨#[]⟩ x.ο.e 0)<|ZD (!(lr x.ο)) false (λi=>ZD (x.sum.vars != 0) false (λm=>(d (decide ((x.sum.ts.length:Int)>0)) (by unfold Zm;rw[if_pos a,h,i,m];rfl))) λm=>(d true (by unfold Zm;rw[if_pos a,h,i,m];rfl))) λi=>(d true (by unfold Zm;rw[if_pos a,h,i];rfl))) λh=>(d true (by unfold Zm;rw[if_pos a,h];rfl))) λa=>ai (pe (vars:=x.sum.vars) (c:=c) f.len f.tms W k t)<|ZD ((K9 x.sum) != 0) false (λn=>ai (Ze _ 0 r rfl)<|(d (x.sum.vars != η) (by unfold Zm;rw[if_neg (show ¬(x.split != 0)=true by rw[a];decide),n];rfl))) λn=>(d true (by unfold Zm;rw[if_neg (show ¬(x.split != 0)=true by rw[a];decide),n];rfl))) (Ql k l)
def kx{x:Nd}(a:okP x.sum)(w:m0)(f:QV w)(h:Bx w g 3 #[.int .i64 η])(i:SlV d 4 V7 w x.sum.ts v):RetAt prog w 88 #[.agg #[.int .i64 x.split,.bool x.ο.b,.string x.ο.s,.int .i64 x.ο.e,.int .i64 x.sum.vars,v],.pointer (some ⟨g,0,none⟩)] (.bool (Zm η x)):=by
 obtain⟨A,c,rfl,_,_,j⟩:=SlV.enc Bp i;exact kv x a w f h j
abbrev Hwd(g:Nat):y9:=.func (.func 88) #[] #[.pointer (some ⟨g,0,none⟩)]
def QaS{t:Nat}{A:m3}{c:Nat}{l:List Nd}{d:Nat->y9}(F:l.length<=4294967296)(m:∀p,p∈l->okP p.sum)(w:m0)(x:QV w)(y:Bx w g 3 #[Θ η])(z:RdK w A l.length 6 (ndG l d))(B:∀j,j<l.length->SlV t 4 V7 w (Qn l j).sum.ts (d j)):RetAt prog w 119 #[Ω A l.length c,.func (.func 88) #[] #[x02 g]] (Θ (ZX l.length λj=>Zm η (Qn l j))) :=
 rk [P5 (λ(k:Nat)=>(⟨19,[(0,lV A l.length c),(1,.val (Hwd g)),(4,iV 0),(6,lV A l.length c),(7,iV (l.length:Int)),(8,iV (k:Int))],[],[]⟩:St)) l.length (λj=>Zm η (Qn l j)) (λ(k:Nat)=>[.both [x03 4 3 (.pointer (some (Q5 A (k*6+0)))),x03 4 4 (.agg #[Θ ((Qn l k).split),Ξ ((Qn l k).ο.b),Ψ ((Qn l k).ο.s),Θ ((Qn l k).ο.e),Θ ((Qn l k).sum.vars),d k]),x04 4 5 (bV (Zm η (Qn l k))),.both [] [x05 6 0 (iV ((k+1:Nat):Int)),.next 0]] []])] λW h G=>have C:=y.later h;have u:=z.up h (λ_=>rfl);(λ(D:∀j,j<l.length->SlV t 4 V7 W (Qn l j).sum.ts (d j))=>have E:=Ql x h;Vv (qV (Ω A l.length c)) (qV (Hwd g)) (qI 0) (qV (Ω A l.length c)) (qI (l.length:Int)) (qI ((0:Nat):Int))<|ai (c0 l.length (λj=>Zm η (Qn l j))) λ(k:Nat) (q:cQ l.length (λj=>Zm η (Qn l j)) k)=>Xi (decide ((k:Int)<(l.length:Int))) (λa=>Ja (J4 c u k (Qt a)) (D7 u k 0 (hA (L0 a)) x4 rfl rfl) (kx (m _ (DK (Qt a))) W E C (D k (Qt a)))<|Xi (Zm η (Qn l k)) (λr=>(show(Θ (k:Int):y9)=(Θ (ZX l.length λj=>Zm η (Qn l j)))from Lu (Value.int .i64) (VD (λj=>Zm η (Qn l j)) q.2 (hA (L0 a)) r).symm)) λr=>GL (QD k (hA (L0 a))) (qV (Ω A l.length c)) (qV (Hwd g)) (qI 0) (qV (Ω A l.length c)) (qI (l.length:Int)) (qI (((k+1):Nat):Int))<|ai (cS q (Qt a) r) (Oe (Qt a))) λa=>(show(Θ (-1):y9)=(Θ (ZX l.length λj=>Zm η (Qn l j)))from Lu (Value.int .i64) (Gg (λj=>Zm η (Qn l j)) λj v=>q.2 j (hA (L1 a))).symm)) (λj v=>(B j v).below YS h)
def QaR(η:Int){A:m3}(c:Nat){l:List Nd}(f:l.length<=4294967296)(d:∀p,p∈l->okP p.sum)(w:m0)(h:QV w)(i:Bx w g 3 #[Θ η])(k:RdK w A l.length 6 (ndG l b))(m:∀j,j<l.length->SlV e 4 V7 w (Qn l j).sum.ts (b j)):RetAt prog w 87 #[Ω A l.length c,.func (.func 88) #[] #[x02 g]] (Ξ (XQ l.length λj=>Zm η (Qn l j))) :=
 rk [x04 1 2 (iV (ZX l.length λj=>Zm η (Qn l j)))] λW a u=>have n:=i.later a;have q:=k.up a (λ_=>rfl);(λ(r:∀j,j<l.length->SlV e 4 V7 W (Qn l j).sum.ts (b j))=>have s:=Ql h a;ai (QaS (c:=c) f d W s n q r)<|(show(Ξ (decide ((ZX l.length λj=>Zm η (Qn l j))>=0)):y9)=Ξ (XQ l.length λj=>Zm η (Qn l j))from Lu Ξ (DG l.length λj=>Zm η (Qn l j)))) (λj t=>(m j t).below YS a)
def Vt  (w:m0):RetAt prog w 43 #[] (.agg #[Ξ false,Ξ false,Ξ false,Θ 0,Ξ false,Ξ true,Ξ false,Ξ false,Θ 1,Ξ false,Ξ true,Ξ false,Ξ false,Θ 2,Ξ true,Ξ true,Ξ false,Ξ false,Θ 1,Ξ false,Ξ true,Ξ true,Ξ false,Θ 1,Ξ false,Ξ true,Ξ false,Ξ false,Θ 0,Ξ true,Ξ false,Ξ false,Ξ true,Θ 1,Ξ false]) :=
 rk [] λW b a=>a
variable{δ:Int}
def vG(a:decide (δ<1)=true)(w:m0):RetAt prog w 42 #[Θ δ,Θ vars] (Θ 0) :=
 rk [x04 1 0 (.agg [bV false,bV false,bV false,iV 0,bV false,bV true,bV false,bV false,iV 1,bV false,bV true,bV false,bV false,iV 2,bV true,bV true,bV false,bV false,iV 1,bV false,bV true,bV true,bV false,iV 1,bV false,bV true,bV false,bV false,iV 0,bV true,bV false,bV false,bV true,iV 1,bV false]),.g 2 3 false] λW b c=>X0 (Vt W) a<|(Rx (Θ 0))
def vH(a:decide (δ<1)=false)(b:decide (δ>=7)=true)(w:m0):RetAt prog w 42 #[Θ δ,Θ vars] (Θ 0) :=
 rk [x04 1 0 (.agg [bV false,bV false,bV false,iV 0,bV false,bV true,bV false,bV false,iV 1,bV false,bV true,bV false,bV false,iV 2,bV true,bV true,bV false,bV false,iV 1,bV false,bV true,bV true,bV false,iV 1,bV false,bV true,bV false,bV false,iV 0,bV true,bV false,bV false,bV true,iV 1,bV false]),.g 2 3 true,.g 2 7 false] λW c d=>Ja (Vt W) a b<|(Rx (Θ 0))
def vJ(a:decide (δ<1)=false)(b:decide (δ>=7)=false)(c:decide (vars<1)=true)(w:m0):RetAt prog w 42 #[Θ δ,Θ vars] (Θ 0) :=
 rk [x04 1 0 (.agg [bV false,bV false,bV false,iV 0,bV false,bV true,bV false,bV false,iV 1,bV false,bV true,bV false,bV false,iV 2,bV true,bV true,bV false,bV false,iV 1,bV false,bV true,bV true,bV false,iV 1,bV false,bV true,bV false,bV false,iV 0,bV true,bV false,bV false,bV true,iV 1,bV false]),.g 2 3 true,.g 2 7 true,.br true] λW d e=>Ky (Vt W) a b c<|(Rx (Θ 0))
def vA(a:decide (vars<1)=false)(w:m0):RetAt prog w 42 #[Θ 1,Θ vars] (Θ 1) :=
 rk [x04 1 0 (.agg [bV false,bV false,bV false,iV 0,bV false,bV true,bV false,bV false,iV 1,bV false,bV true,bV false,bV false,iV 2,bV true,bV true,bV false,bV false,iV 1,bV false,bV true,bV true,bV false,iV 1,bV false,bV true,bV false,bV false,iV 0,bV true,bV false,bV false,bV true,iV 1,bV false]),.br false] λW b c=>X0 (Vt W) a<|(Rx (Θ 1))
def vB(a:decide (vars<1)=false)(w:m0):RetAt prog w 42 #[Θ 2,Θ vars] (Θ 2) :=
 rk [x04 1 0 (.agg [bV false,bV false,bV false,iV 0,bV false,bV true,bV false,bV false,iV 1,bV false,bV true,bV false,bV false,iV 2,bV true,bV true,bV false,bV false,iV 1,bV false,bV true,bV true,bV false,iV 1,bV false,bV true,bV false,bV false,iV 0,bV true,bV false,bV false,bV true,iV 1,bV false]),.br false] λW b c=>X0 (Vt W) a<|(Rx (Θ 2))
def vC(a:decide (vars<1)=false)(w:m0):RetAt prog w 42 #[Θ 3,Θ vars] (Θ 1) :=
 rk [x04 1 0 (.agg [bV false,bV false,bV false,iV 0,bV false,bV true,bV false,bV false,iV 1,bV false,bV true,bV false,bV false,iV 2,bV true,bV true,bV false,bV false,iV 1,bV false,bV true,bV true,bV false,iV 1,bV false,bV true,bV false,bV false,iV 0,bV true,bV false,bV false,bV true,iV 1,bV false]),.br false] λW b c=>X0 (Vt W) a<|(Rx (Θ 1))
def vD(a:decide (vars<1)=false)(w:m0):RetAt prog w 42 #[Θ 4,Θ vars] (Θ 1) :=
 rk [x04 1 0 (.agg [bV false,bV false,bV false,iV 0,bV false,bV true,bV false,bV false,iV 1,bV false,bV true,bV false,bV false,iV 2,bV true,bV true,bV false,bV false,iV 1,bV false,bV true,bV true,bV false,iV 1,bV false,bV true,bV false,bV false,iV 0,bV true,bV false,bV false,bV true,iV 1,bV false]),.br false] λW b c=>X0 (Vt W) a<|(Rx (Θ 1))
def vE(a:decide (vars<1)=false)(w:m0):RetAt prog w 42 #[Θ 5,Θ vars] (Θ vars) :=
 rk [x04 1 0 (.agg [bV false,bV false,bV false,iV 0,bV false,bV true,bV false,bV false,iV 1,bV false,bV true,bV false,bV false,iV 2,bV true,bV true,bV false,bV false,iV 1,bV false,bV true,bV true,bV false,iV 1,bV false,bV true,bV false,bV false,iV 0,bV true,bV false,bV false,bV true,iV 1,bV false]),.br false] λW b c=>X0 (Vt W) a<|(Rx (Θ vars))
def vF(a:decide (vars<1)=false)(w:m0):RetAt prog w 42 #[Θ 6,Θ vars] (Θ 1) :=
 rk [x04 1 0 (.agg [bV false,bV false,bV false,iV 0,bV false,bV true,bV false,bV false,iV 1,bV false,bV true,bV false,bV false,iV 2,bV true,bV true,bV false,bV false,iV 1,bV false,bV true,bV true,bV false,iV 1,bV false,bV true,bV false,bV false,iV 0,bV true,bV false,bV false,bV true,iV 1,bV false]),.br false] λW b c=>X0 (Vt W) a<|(Rx (Θ 1))
theorem ia(δ vars:Int)(w:m0):RetAt prog w 42 #[.int .i64 δ,.int .i64 vars] (.int .i64 (QY δ vars)):=by
 unfold QY;by_cases b:δ<1
 ·rw[if_pos (Or.inl b)];exact vG (Lk b) w
 by_cases c:7<=δ
 ·rw[if_pos (Or.inr (Or.inl c))];exact vH (Lc b) (Lk c) w
 by_cases a:vars<1
 ·rw[if_pos (Or.inr (Or.inr a))];exact vJ (Lc b) (Lc c) (Lk a) w
 rw[if_neg x3];have d:δ=1\/δ=2\/δ=3\/δ=4\/δ=5\/δ=6:=x3;rcases d with rfl|rfl|rfl|rfl|rfl|rfl
 ·exact vA (Lc a) w
 ·exact vB (Lc a) w
 ·exact vC (Lc a) w
 ·exact vD (Lc a) w
 ·exact vE (Lc a) w
 ·exact vF (Lc a) w
def Pi(x:Nm)(w:m0):RetAt prog w 84 #[nA x] (Ξ (bm x)) :=
 rk [x04 1 1 (iV (sg x))] λW c a=>ai (rc W call58 λW=>GB x.s x.b x.e W)<|a
def Hwe:List Dir:=[.g 5 18 false,.g 5 19 false,.g 5 20 false,.g 5 21 true,.o 5 21 (.pk true),.g 5 22 true,.o 5 22 (.pk true),.o 5 23 (.pk false)]
abbrev Hwf(j:Nat):=decide ((j:Int)>0)
def Hwg:List Dir:=[.g 5 9 false,.g 5 10 false,.g 5 11 false,.g 5 22 false,.o 5 23 (.pk true)]
def Qb2(s r c:Bool)(δ vars ζ:Int)(t u v:y9)(ν ε:Nm)(x y:m3)(k z j A:Nat)(w:m0):RetAt prog w 47 #[pA δ vars t u v (Ω x k z) ν ε ζ (Ω y j A),.agg #[Ξ s,Ξ r,Ξ c]] (Ξ (Zd s r c ν ε k ζ j)) :=
 have n:=eB (Zd s r c ν ε k ζ j);rk [.reg 19 [],x04 3 5 (bV (bm ν)),x03 3 6 (Ξ (s != (bm ν))),.gb 3 8 [.g 3 9 true,.g 3 10 true,.g 3 11 true,.gb 3 12 [.g 3 13 true,.g 3 14 true,.g 3 15 true,x03 3 15 (Ξ (!(lr ν))),.g 3 16 true,.o 3 16 (.pk true),.o 3 17 (.pk false),.both [] [.reg 25 [],x04 5 5 (bV (bm ε)),x03 5 6 (Ξ (r != (bm ε))),.gb 5 8 [.g 5 9 true,.g 5 10 true,.g 5 11 true,.gb 5 12 [.g 5 13 true,.g 5 14 true,.g 5 15 true,x03 5 15 (Ξ (!(lr ε))),.g 5 16 true,.gb 5 17 [.g 5 18 true,.g 5 19 true,.g 5 20 true,.g 5 21 true,.o 5 21 (.pk false),.g 5 22 true,.o 5 22 (.pk true),.o 5 23 (.pk false),.both [] [.g 7 3 false,.g 7 12 true,.both [] [x03 9 6 (Ξ (c==(Hwf j)))]]] Hwe] [.g 5 13 false,.g 5 14 false,.g 5 15 false,.g 5 16 false,.g 5 21 false,.g 5 22 true,.o 5 22 (.pk false),.o 5 23 (.pk false),.g 7 3 false,.g 7 12 true,.both [] [x03 9 6 (Ξ (c==(Hwf j)))]]] Hwg]] [.g 3 13 false,.g 3 14 false,.g 3 15 false,.g 3 16 true,.o 3 16 (.pk false),.o 3 17 (.pk false),.reg 25 [],x04 5 5 (bV (bm ε)),x03 5 6 (Ξ (r != (bm ε))),.gb 5 8 [.g 5 9 true,.g 5 10 true,.g 5 11 true,.gb 5 12 [.g 5 13 true,.g 5 14 true,.g 5 15 true,x03 5 15 (Ξ (!(lr ε))),.g 5 16 true,.gb 5 17 [.g 5 18 true,.g 5 19 true,.g 5 20 true,.g 5 21 true,.o 5 21 (.pk false),.g 5 22 true,.o 5 22 (.pk true),.o 5 23 (.pk false),.both [] [.g 7 3 true,.gb 7 8 [.g 7 12 false,x03 9 6 (Ξ (c==(Hwf j)))] []]] Hwe] [.g 5 13 false,.g 5 14 false,.g 5 15 false,.g 5 16 false,.g 5 21 false,.g 5 22 true,.o 5 22 (.pk false),.o 5 23 (.pk false),.g 7 3 true,.gb 7 8 [.g 7 12 false,x03 9 6 (Ξ (c==(Hwf j)))] []]] Hwg]] [.g 3 9 false,.g 3 10 false,.g 3 11 false,.g 3 16 false,.o 3 17 (.pk true)]] λW B C=>X0 (Pi ν W) (C8 W (.tmp 10) (.tmp 14) s (bm ν))<|ZD (s != (bm ν)) false (λh=>Ja h h h<|ZD (!s) true (λf=>GL f f f (Bg W (.tmp 22) (.tmp 23) ν.b false ν.s ⟨#[]⟩ ν.e 0) h f h<|Xi (!(lr ν)) (λl=>(n false (by unfold Zd;rw[h,f,l];rfl))) λl=>X0 (Pi ε W) (C8 W (.tmp 29) (.tmp 33) r (bm ε))<|ZD (r != (bm ε)) false (λd=>Ja d d d<|ZD (!r) true (λa=>KJ a a a (Bg W (.tmp 41) (.tmp 42) ε.b false ε.s ⟨#[]⟩ ε.e 0) a<|ZD (!(lr ε)) false (λi=>Yx i i i a i d a d<|Xi (decide ((k:Int)>0)) (λm=>(n false (by unfold Zd;rw[h,f,l,d,a,i,m];rfl))) λm=>X0 (show s=false by revert f;cases s<;>simp) f<|Xi (ζ != 0) (λp=>(show(Ξ false:y9)=Ξ (Zd s r c ν ε k ζ j)from by unfold Zd;rw[h,f,l,d,a,i,m,(show s=false by revert f;cases s<;>simp),p];rfl)) λp=>ai (C7 W (.tmp 71) (.tmp 75) c (Hwf j))<|(show(Ξ (c==(decide ((j:Int)>0))):y9)=Ξ (Zd s r c ν ε k ζ j)from by unfold Zd;rw[h,f,l,d,a,i,m,(show s=false by revert f;cases s<;>simp),p];rfl)) λi=>Yx i i i a i d a d<|(n false (by unfold Zd;rw[h,f,l,d,a,i];rfl))) λa=>Yx a a a a a d a d<|X0 (show s=false by revert f;cases s<;>simp) f<|Xi (ζ != 0) (λp=>(show(Ξ false:y9)=Ξ (Zd s r c ν ε k ζ j)from by unfold Zd;rw[h,f,l,d,a,(show s=false by revert f;cases s<;>simp),p];rfl)) λp=>ai (C7 W (.tmp 71) (.tmp 75) c (Hwf j))<|(show(Ξ (c==(decide ((j:Int)>0))):y9)=Ξ (Zd s r c ν ε k ζ j)from by unfold Zd;rw[h,f,l,d,a,(show s=false by revert f;cases s<;>simp),p];rfl)) λd=>KJ d d d d d<|(n false (by unfold Zd;rw[h,f,l,d];rfl))) λf=>Yx f f f h f h (Pi ε W) (C8 W (.tmp 29) (.tmp 33) r (bm ε))<|ZD (r != (bm ε)) false (λd=>Ja d d d<|ZD (!r) true (λa=>KJ a a a (Bg W (.tmp 41) (.tmp 42) ε.b false ε.s ⟨#[]⟩ ε.e 0) a<|ZD (!(lr ε)) false (λi=>Yx i i i a i d a d<|Xi (decide ((k:Int)>0)) (λm=>(n false (by unfold Zd;rw[h,f,d,a,i,m];rfl))) λm=>ai (show s=true by revert f;cases s<;>simp)<|ZD (decide (ζ<1)) false (λq=>X0 f (C7 W (.tmp 71) (.tmp 75) c (Hwf j))<|(show(Ξ (c==(decide ((j:Int)>0))):y9)=Ξ (Zd s r c ν ε k ζ j)from by unfold Zd;rw[h,f,d,a,i,m,(show s=true by revert f;cases s<;>simp),q];rfl)) λq=>(show(Ξ false:y9)=Ξ (Zd s r c ν ε k ζ j)from by unfold Zd;rw[h,f,d,a,i,m,(show s=true by revert f;cases s<;>simp),q];rfl)) λi=>Yx i i i a i d a d<|(n false (by unfold Zd;rw[h,f,d,a,i];rfl))) λa=>Yx a a a a a d a d<|ai (show s=true by revert f;cases s<;>simp)<|ZD (decide (ζ<1)) false (λq=>X0 f (C7 W (.tmp 71) (.tmp 75) c (Hwf j))<|(show(Ξ (c==(decide ((j:Int)>0))):y9)=Ξ (Zd s r c ν ε k ζ j)from by unfold Zd;rw[h,f,d,a,(show s=true by revert f;cases s<;>simp),q];rfl)) λq=>(show(Ξ false:y9)=Ξ (Zd s r c ν ε k ζ j)from by unfold Zd;rw[h,f,d,a,(show s=true by revert f;cases s<;>simp),q];rfl)) λd=>KJ d d d d d<|(n false (by unfold Zd;rw[h,f,d];rfl))) λh=>KJ h h h h h<|(n false (by unfold Zd;rw[h];rfl))
def uy(d e:m3)(nb f a cs:Nat)(g:nb<=4294967296)(w:m0):RetAt prog w 50 #[.agg #[Ω d nb f,Ω e a cs]] (Θ (Kt nb a)) :=
 have c:=eI (Kt nb a);rk [.both [x05 2 3 (iV (2*(nb:Int)))] []] λW h i=>Xi (decide ((nb:Int)>0)) (λb=>ai (show IntKind.i64.wrap (2*(nb:Int))=2*(nb:Int)from Le _ x3)<|(c (2*(nb:Int)) (by unfold Kt;rw[b];rfl))) λb=>(c (a:Int) (by unfold Kt;rw[b];rfl))
def UZ{n:Nat}(c:n<=4294967296)(d:-9223372036854775808<=vars/\vars<=9223372036854775807):((n:Int)==IntKind.i64.wrap (vars+1))=((n:Int)==vars+1):=by
 by_cases h:vars=9223372036854775807
 ·subst h;rw[show IntKind.i64.wrap (9223372036854775807+1)=-9223372036854775808 from x4];have a:((n:Int)==-9223372036854775808)=false:=Lp.2 x3;have b:((n:Int)==9223372036854775807+1)=false:=Lp.2 x3;rw[a,b]
 ·rw[Le _ x3]
def Qaa{m:Nat}(Ab:m3){n:m3}(nb cb cs:Nat){l:List (List Nm)}{h:Nat->y9}(wants:Bool)(i:l.length<=4294967296)(p:-9223372036854775808<=vars/\vars<=9223372036854775807)(w:m0)(s:RdK w n l.length 1 (λj=>[h j]))(t:∀j,j<l.length->SlV m 3 VT w (Qu l j) (h j)):RetAt prog w 46 #[.agg #[Ω Ab nb cb,Ω n l.length cs],Θ vars,Ξ wants] (Ξ (GR nb l vars wants)) :=
 have d:=eB (GR nb l vars wants);rk [.gb 1 5 [.both [.gb 2 6 [] []] [.gb 4 7 [x04 4 10 (bV (XQ l.length λj=>Xb vars (Qu l j)))] []]] [.gb 2 6 [] []]] λW q y=>have u:=s.up q (λ_=>rfl);(λ(v:∀j,j<l.length->SlV m 3 VT W (Qu l j) (h j))=>ZD (decide ((nb:Int)>0)) false (λa=>Xi wants (λe=>ZD ((nb:Int)==vars) true (λb=>(d ((l.length:Int)==0) (by unfold GR;rw[a,e,b];rfl))) λb=>(d false (by unfold GR;rw[a,e,b];rfl))) λe=>ZD ((l.length:Int)==(IntKind.i64.wrap (vars+1))) true (λf=>ai (UW call83 λV r g x=>tP vars cs i V x (u.below (λ_=>rfl) r) (λj k=>(v j k).below YH r))<|(d (!(XQ l.length λj=>Xb vars (Qu l j))) (by rw[UZ i p]at f;unfold GR;rw[a,e,f];rfl))) λf=>(d false (by rw[UZ i p]at f;unfold GR;rw[a,e,f];rfl))) λa=>ZD ((nb:Int)==vars) true (λb=>(d ((l.length:Int)==0) (by unfold GR;rw[a,b];rfl))) λb=>(d false (by unfold GR;rw[a,b];rfl))) (λj k=>(t j k).below YH q)
def aH(l:List (List Nm)):Int:=bif (decide (((l.length:Int)-1)<1)||decide (((l.length:Int)-1)>8))||XQ l.length λj=>Xb ((l.length:Int)-1) (Qu l j)then 0 else(l.length:Int)-1
def Qew{i:m3}(cs:Nat)(l:List (List Nm))(vs:Nat->y9)(n:l.length<=4294967296)(w:m0)(p:RdK w i l.length 1 (λj=>[vs j]))(q:∀j,j<l.length->SlV h 3 VT w (Qu l j) (vs j)):RetAt prog w 94 #[Ω i l.length cs] (Θ (aH l)) :=
 have b:=eI (aH l);rk [x05 1 2 (iV ((l.length:Int)-1)),.gb 3 3 [.gb 3 7 [x04 3 9 (bV (XQ l.length λj=>Xb ((l.length:Int)-1) (Qu l j))),.both [] []] []] []] λW k u=>have r:=p.up k (λ_=>rfl);(λ(s:∀j,j<l.length->SlV h 3 VT W (Qu l j) (vs j))=>ai (show IntKind.i64.wrap ((l.length:Int)-1)=(l.length:Int)-1 from Le _ x3)<|ZD (decide (((l.length:Int)-1)<1)) false (λa=>ZD (decide (((l.length:Int)-1)>8)) false (λd=>ai (UW call83 λV m g t=>rK ((l.length:Int)-1) cs n V t (r.below (λ_=>rfl) m) (λj e=>(s j e).below YH m))<|Xi (XQ l.length λj=>Xb ((l.length:Int)-1) (Qu l j)) (λf=>(b 0 (by unfold aH;rw[a,d,f];rfl))) λf=>(b ((l.length:Int)-1) (by unfold aH;rw[a,d,f];rfl))) λd=>(b 0 (by unfold aH;rw[a,d];rfl))) λa=>(b 0 (by unfold aH;rw[a];rfl))) (λj e=>(q j e).below YH k)
def J1(x:Nm):Bool:=(decide ((x.s.size:Int)>8)||decide (x.e<(-64)))||decide (x.e>64)
def CC(x y:Nm):Bool:=(x.b==y.b&&x.s.toList==y.s.toList)&&x.e==y.e
def eA(x y:Tm):Bool:=x.m.toList==y.m.toList&&CC x.c y.c
def ep(x y:Nm×Nm):Bool:=CC x.1 y.1&&CC x.2 y.2
def NG(n m:Nat)(e:Nat->Bool):Bool:=bif (n:Int) != (m:Int)then false else !XQ n λj=>!e j
def Qb1(W:World)(p q:Operand)(x y:Tm):Qp prog W (do eqGuard .neq 56 p q (.agg #[.string x.m,.bool x.c.b,.string x.c.s,.int .i64 x.c.e]) (.agg #[.string y.m,.bool y.c.b,.string y.c.s,.int .i64 y.c.e]);binOp .neq 56 (.agg #[.string x.m,.bool x.c.b,.string x.c.s,.int .i64 x.c.e]) (.agg #[.string y.m,.bool y.c.b,.string y.c.s,.int .i64 y.c.e])) (.bool (!eA x y)):=λi _=>by
 unfold eA CC;simp[go_sem];by_cases a:x.m.toList=y.m.toList<;>by_cases d:x.c.b=y.c.b<;>by_cases f:x.c.s.toList=y.c.s.toList<;>by_cases g:x.c.e=y.c.e<;>simp[a,d,f,g]
def QbQ(W:World)(p q:Operand)(x y:Nm×Nm):Qp prog W (do eqGuard .neq 76 p q (.agg #[.bool x.1.b,.string x.1.s,.int .i64 x.1.e,.bool x.2.b,.string x.2.s,.int .i64 x.2.e]) (.agg #[.bool y.1.b,.string y.1.s,.int .i64 y.1.e,.bool y.2.b,.string y.2.s,.int .i64 y.2.e]);binOp .neq 76 (.agg #[.bool x.1.b,.string x.1.s,.int .i64 x.1.e,.bool x.2.b,.string x.2.s,.int .i64 x.2.e]) (.agg #[.bool y.1.b,.string y.1.s,.int .i64 y.1.e,.bool y.2.b,.string y.2.s,.int .i64 y.2.e])) (.bool (!ep x y)):=λj _=>by
 unfold ep CC;simp[go_sem];by_cases a:x.1.b=y.1.b<;>by_cases c:x.1.s.toList=y.1.s.toList<;>by_cases d:x.1.e=y.1.e<;>by_cases f:x.2.b=y.2.b<;>by_cases g:x.2.s.toList=y.2.s.toList<;>by_cases i:x.2.e=y.2.e<;>simp[a,c,d,f,g,i]
def QaP(W:m0)(p q:x0h)(x y:Nm):Qp prog W (do eqGuard .neq 32 p q (nA x) (nA y);binOp .neq 32 (nA x) (nA y)) (.bool (!CC x y)):=Bg W p q x.b y.b x.s y.s x.e y.e
def RB(W:m0)(p q:x0h)(x y:Nm):Qp prog W (do eqGuard .eql 32 p q (nA x) (nA y);binOp .eql 32 (nA x) (nA y)) (.bool (CC x y)):=gM W p q x.b y.b x.s y.s x.e y.e
theorem AJ{n m:Nat}(e:Nat->Bool)(h:((n:Int) != (m:Int))=true):(Value.bool false)=.bool (NG n m e):=by grind[NG]
def Fl{n m:Nat}(e:Nat->Bool)(h:((n:Int) != (m:Int))=false)(a:decide ((k:Int)<(n:Int))=true)(b:(!e k)=true):(Value.bool false)=.bool (NG n m e):=by
 unfold NG;rw[h,ZG (hA (L0 a)) b];rfl
theorem AK{n m:Nat}(e:Nat->Bool)(h:((n:Int) != (m:Int))=false)(a:decide ((k:Int)<(n:Int))=false)(b:∀j,j<k->(!e j)=false):(Value.bool true)=.bool (NG n m e):=by
 grind[NG,Kf]
theorem GQ{n m:Nat}(h:((n:Int) != (m:Int))=false)(a:decide ((k:Int)<(n:Int))=true):k<m:=by
 grind
def yd(x:Nm)(w:m0):RetAt prog w 53 #[nA x] (Ξ (J1 x)) :=
 have b:=eB (J1 x);rk [.gb 1 6 [.gb 1 11 [] []] []] λW d f=>ZD (decide ((x.s.size:Int)>8)) false (λa=>ZD (decide (x.e<(-64))) false (λc=>(b (decide (x.e>64)) (by unfold J1;rw[a,c];rfl))) λc=>(b true (by unfold J1;rw[a,c];rfl))) λa=>(b true (by unfold J1;rw[a];rfl))
def zU{A f:m3}{c:Nat}{l a:List Tm}(y:l.length<=4294967296)(w:m0)(x:RdK w A l.length 4 (λj=>QK (Qb l j)))(p:RdK w f a.length 4 (λj=>QK (Qb a j))):RetAt prog w 41 #[Ω A l.length c,Ω f a.length h] (Ξ (NG l.length a.length λj=>eA (Qb l j) (Qb a j))) :=
 rk [.both [] [P5 (λ(k:Nat)=>(⟨26,[(0,lV A l.length c),(1,lV f a.length h),(4,bV false),(12,iV (l.length:Int)),(13,iV (k:Int))],[],[]⟩:St)) l.length (λj=>(!(eA (Qb l j) (Qb a j)))) (λ(k:Nat)=>[.both [.reg 9 [],x03 6 2 (.pointer (some (Q5 A (k*4+0)))),x03 6 3 (.agg #[Ψ ((Qb l k).m),Ξ ((Qb l k).c.b),Ψ ((Qb l k).c.s),Θ ((Qb l k).c.e)]),x03 6 6 (.pointer (some (Q5 f (k*4+0)))),x03 6 7 (.agg #[Ψ ((Qb a k).m),Ξ ((Qb a k).c.b),Ψ ((Qb a k).c.s),Θ ((Qb a k).c.e)]),x03 6 8 (Ξ (!(eA (Qb l k) (Qb a k)))),.both [] [x05 8 0 (iV ((k+1:Nat):Int)),.next 0]] []])]] λW r z=>have t:=x.up r (λ_=>rfl);have u:=p.up r (λ_=>rfl);Xi ((l.length:Int) != (a.length:Int)) (λg=>AJ (λj=>eA (Qb l j) (Qb a j)) g) λg=>KJ (qV (Ω A l.length c)) (qV (Ω f a.length h)) (qB false) (qI (l.length:Int)) (qI ((0:Nat):Int))<|ai (c0 l.length (λj=>(!(eA (Qb l j) (Qb a j))))) λ(k:Nat) (v:cQ l.length (λj=>(!(eA (Qb l j) (Qb a j)))) k)=>Xi (decide ((k:Int)<(l.length:Int))) (λd=>KJ (Y0 c t k (Qt d)) (ZE t k 0 (hA (L0 d)) x4 rfl rfl) (Y0 h u k (GQ g d)) (ZE u k 0 (GQ g d) x4 rfl rfl) (Qb1 W (.tmp 19) (.tmp 23) (Qb l k) (Qb a k))<|Xi (!(eA (Qb l k) (Qb a k))) (λq=>Fl (λj=>eA (Qb l j) (Qb a j)) g d q) λq=>Vv (QD k (hA (L0 d))) (qV (Ω A l.length c)) (qV (Ω f a.length h)) (qB false) (qI (l.length:Int)) (qI (((k+1):Nat):Int))<|ai (cS v (Qt d) q) (Oe (Qt d))) λd=>AK (λj=>eA (Qb l j) (Qb a j)) g d v.2
variable{f:Nat}
def zV{l b:List Tm}{e:y9}(g:l.length<=4294967296)(w:m0)(h:SlV f 4 V7 w l v)(i:SlV a 4 V7 w b e):RetAt prog w 41 #[v,e] (.bool (NG l.length b.length λj=>eA (Qb l j) (Qb b j))):=by
 obtain⟨A,c,rfl,_,_,k⟩:=SlV.enc Bp h;obtain⟨m,n,rfl,_,_,d⟩:=SlV.enc Bp i;exact zU g w k d
def zO{A d:m3}{c:Nat}{l a:List Nm}(u:l.length<=4294967296)(w:m0)(t:RdK w A l.length 3 (λj=>Xk (Xm l j)))(h:RdK w d a.length 3 (λj=>Xk (Xm a j))):RetAt prog w 18 #[Ω A l.length c,Ω d a.length g] (Ξ (NG l.length a.length λj=>CC (Xm l j) (Xm a j))) :=
 rk [.both [] [P5 (λ(k:Nat)=>(⟨26,[(0,lV A l.length c),(1,lV d a.length g),(4,bV false),(12,iV (l.length:Int)),(13,iV (k:Int))],[],[]⟩:St)) l.length (λj=>(!(CC (Xm l j) (Xm a j)))) (λ(k:Nat)=>[.both [.reg 9 [],x03 6 2 (.pointer (some (Q5 A (k*3+0)))),x03 6 3 (nA (Xm l k)),x03 6 6 (.pointer (some (Q5 d (k*3+0)))),x03 6 7 (nA (Xm a k)),x03 6 8 (Ξ (!(CC (Xm l k) (Xm a k)))),.both [] [x05 8 0 (iV ((k+1:Nat):Int)),.next 0]] []])]] λW p v=>have q:=t.up p (λ_=>rfl);have r:=h.up p (λ_=>rfl);Xi ((l.length:Int) != (a.length:Int)) (λf=>AJ (λj=>CC (Xm l j) (Xm a j)) f) λf=>KJ (qV (Ω A l.length c)) (qV (Ω d a.length g)) (qB false) (qI (l.length:Int)) (qI ((0:Nat):Int))<|ai (c0 l.length (λj=>(!(CC (Xm l j) (Xm a j))))) λ(k:Nat) (s:cQ l.length (λj=>(!(CC (Xm l j) (Xm a j)))) k)=>Xi (decide ((k:Int)<(l.length:Int))) (λb=>KJ (Es c q k (Qt b)) (JW q k 0 (hA (L0 b)) x4 rfl rfl) (Es g r k (GQ f b)) (JW r k 0 (GQ f b) x4 rfl rfl) (QaP W (.tmp 19) (.tmp 23) (Xm l k) (Xm a k))<|Xi (!(CC (Xm l k) (Xm a k))) (λm=>Fl (λj=>CC (Xm l j) (Xm a j)) f b m) λm=>Vv (QD k (hA (L0 b))) (qV (Ω A l.length c)) (qV (Ω d a.length g)) (qB false) (qI (l.length:Int)) (qI (((k+1):Nat):Int))<|ai (cS s (Qt b) m) (Oe (Qt b))) λb=>AK (λj=>CC (Xm l j) (Xm a j)) f b s.2
def zP{l b:List Nm}{e:y9}(g:l.length<=4294967296)(w:m0)(h:SlV f 3 VT w l v)(i:SlV a 3 VT w b e):RetAt prog w 18 #[v,e] (.bool (NG l.length b.length λj=>CC (Xm l j) (Xm b j))):=by
 obtain⟨A,c,rfl,_,_,k⟩:=SlV.enc nm0 h;obtain⟨m,n,rfl,_,_,d⟩:=SlV.enc nm0 i;exact zO g w k d
def zT{A f:m3}{c:Nat}{l a:List (Nm×Nm)}(x:l.length<=4294967296)(w:m0)(v:RdK w A l.length 6 (λj=>JR (QN l j)))(m:RdK w f a.length 6 (λj=>JR (QN a j))):RetAt prog w 21 #[Ω A l.length c,Ω f a.length h] (Ξ (NG l.length a.length λj=>ep (QN l j) (QN a j))) :=
 rk [.both [] [P5 (λ(k:Nat)=>(⟨26,[(0,lV A l.length c),(1,lV f a.length h),(4,bV false),(12,iV (l.length:Int)),(13,iV (k:Int))],[],[]⟩:St)) l.length (λj=>(!(ep (QN l j) (QN a j)))) (λ(k:Nat)=>[.both [.reg 9 [],x03 6 2 (.pointer (some (Q5 A (k*6+0)))),x03 6 3 (.agg #[Ξ ((QN l k).1.b),Ψ ((QN l k).1.s),Θ ((QN l k).1.e),Ξ ((QN l k).2.b),Ψ ((QN l k).2.s),Θ ((QN l k).2.e)]),x03 6 6 (.pointer (some (Q5 f (k*6+0)))),x03 6 7 (.agg #[Ξ ((QN a k).1.b),Ψ ((QN a k).1.s),Θ ((QN a k).1.e),Ξ ((QN a k).2.b),Ψ ((QN a k).2.s),Θ ((QN a k).2.e)]),x03 6 8 (Ξ (!(ep (QN l k) (QN a k)))),.both [] [x05 8 0 (iV ((k+1:Nat):Int)),.next 0]] []])]] λW q y=>have r:=v.up q (λ_=>rfl);have t:=m.up q (λ_=>rfl);Xi ((l.length:Int) != (a.length:Int)) (λg=>AJ (λj=>ep (QN l j) (QN a j)) g) λg=>KJ (qV (Ω A l.length c)) (qV (Ω f a.length h)) (qB false) (qI (l.length:Int)) (qI ((0:Nat):Int))<|ai (c0 l.length (λj=>(!(ep (QN l j) (QN a j))))) λ(k:Nat) (u:cQ l.length (λj=>(!(ep (QN l j) (QN a j)))) k)=>Xi (decide ((k:Int)<(l.length:Int))) (λd=>KJ (CR c r k (Qt d)) (Eu r k 0 (hA (L0 d)) x4 rfl rfl) (CR h t k (GQ g d)) (Eu t k 0 (GQ g d) x4 rfl rfl) (QbQ W (.tmp 19) (.tmp 23) (QN l k) (QN a k))<|Xi (!(ep (QN l k) (QN a k))) (λp=>Fl (λj=>ep (QN l j) (QN a j)) g d p) λp=>Vv (QD k (hA (L0 d))) (qV (Ω A l.length c)) (qV (Ω f a.length h)) (qB false) (qI (l.length:Int)) (qI (((k+1):Nat):Int))<|ai (cS u (Qt d) p) (Oe (Qt d))) λd=>AK (λj=>ep (QN l j) (QN a j)) g d u.2
def Ma{l b:List (Nm×Nm)}{e:y9}(g:l.length<=4294967296)(w:m0)(h:SlV f 6 yN w l v)(i:SlV a 6 yN w b e):RetAt prog w 21 #[v,e] (.bool (NG l.length b.length λj=>ep (QN l j) (QN b j))):=by
 obtain⟨A,c,rfl,_,_,k⟩:=SlV.enc (nm0,nm0) h;obtain⟨m,n,rfl,_,_,d⟩:=SlV.enc (nm0,nm0) i;exact zT g w k d
theorem SlV.rdPy2{l:List Py}(h:SlV f 2 (dX f) w l v):
  ∃(A:m3) (c:Nat) (g:Nat->m3) (cs:Nat->Nat),v=.slice A l.length c/\l.length<=c/\(A=none->l.length=0/\c=0)/\RdK w A l.length 2 (X7 l g cs)/\∀j,j<l.length->SlV f 4 V7 w (QM l j).ts (.slice (g j) (QM l j).ts.length (cs j)):=by
 let⟨A,c,i,k,m,n,o,p⟩:=h.rdPy;have key:∀j,∃x:m3×Nat,j<l.length->i j=.slice x.1 (QM l j).ts.length x.2:=λj=>by
  by_cases b:j<l.length
  ·let⟨a,d,e,_⟩:=(p j b).shape;simp_all
  ·exact⟨(none,0),λh=>absurd h b⟩
 refine⟨A,c,λj=>(Classical.choose (key j)).1,λj=>(Classical.choose (key j)).2,k,m,n,o.congr λj b=>by rw[Lq (key j) b],λj b=>?_⟩
 grind
theorem SlV.rdPt2{l:List (List Nm)}(h:SlV f 1 (kz f) w l v):
  ∃(A:m3) (c:Nat) (g:Nat->m3) (cs:Nat->Nat),v=.slice A l.length c/\l.length<=c/\(A=none->l.length=0/\c=0)/\RdK w A l.length 1 (yx l g cs)/\∀j,j<l.length->SlV f 3 VT w (Qu l j) (.slice (g j) (Qu l j).length (cs j)):=by
 let⟨A,c,i,k,m,n,o,p⟩:=h.rdPt;have key:∀j,∃x:m3×Nat,j<l.length->i j=.slice x.1 (Qu l j).length x.2:=λj=>by
  by_cases b:j<l.length
  ·let⟨a,d,e,_⟩:=(p j b).shape;simp_all
  ·exact⟨(none,0),λh=>absurd h b⟩
 refine⟨A,c,λj=>(Classical.choose (key j)).1,λj=>(Classical.choose (key j)).2,k,m,n,o.congr λj b=>by rw[Lq (key j) b],λj b=>?_⟩
 grind
theorem SlV.rdNd2{l:List Nd}(h:SlV f 6 (lu f) w l v):
  ∃(A:m3) (c:Nat) (g:Nat->m3) (cs:Nat->Nat),v=.slice A l.length c/\l.length<=c/\(A=none->l.length=0/\c=0)/\RdK w A l.length 6 (be l g cs)/\∀j,j<l.length->SlV f 4 V7 w (Qn l j).sum.ts (.slice (g j) (Qn l j).sum.ts.length (cs j)):=by
 let⟨A,c,i,k,m,n,o,p⟩:=h.rdNd;have key:∀j,∃x:m3×Nat,j<l.length->i j=.slice x.1 (Qn l j).sum.ts.length x.2:=λj=>by
  by_cases b:j<l.length
  ·let⟨a,d,e,_⟩:=(p j b).shape;simp_all
  ·exact⟨(none,0),λh=>absurd h b⟩
 refine⟨A,c,λj=>(Classical.choose (key j)).1,λj=>(Classical.choose (key j)).2,k,m,n,o.congr λj b=>by rw[Lq (key j) b],λj b=>?_⟩
 grind
def tsE(l a:List Tm):Bool:=NG l.length a.length λj=>eA (Qb l j) (Qb a j)
def ky(l a:List Nm):Bool:=NG l.length a.length λj=>CC (Xm l j) (Xm a j)
def lm(l a:List (Nm×Nm)):Bool:=NG l.length a.length λj=>ep (QN l j) (QN a j)
def TA(p q:Py):Bool:=p.vars==q.vars&&tsE p.ts q.ts
def bc(p q:Nd):Bool:=(p.split==q.split&&CC p.ο q.ο)&&TA p.sum q.sum
def vX(l a:List Py):Bool:=NG l.length a.length λj=>TA (QM l j) (QM a j)
def NT(l a:List (List Nm)):Bool:=NG l.length a.length λj=>ky (Qu l j) (Qu a j)
def kk(l a:List Nd):Bool:=NG l.length a.length λj=>bc (Qn l j) (Qn a j)
def ZS(x y:PV):Bool:=((((((((x.δ==y.δ&&x.vars==y.vars)&&CC x.ν y.ν)&&CC x.ε y.ε)&&x.ζ==y.ζ)&&(lm x.box y.box&&NT x.κ y.κ))&&vX x.ps y.ps)&&vX x.θ y.θ)&&kk x.ι y.ι)
def nZ(p q:Py){c:y9}(g:p.ts.length<=4294967296)(w:m0)(h:SlV f 4 V7 w p.ts v)(i:SlV a 4 V7 w q.ts c):RetAt prog w 20 #[.agg #[Θ p.vars,v],.agg #[Θ q.vars,c]] (Ξ (TA p q)) :=
 have d:=eB (TA p q);rk [.gb 1 6 [x04 1 10 (bV (tsE p.ts q.ts))] []] λW e l=>have j:=h.below YS e;have k:=i.below YS e;ZD (p.vars==q.vars) true (λb=>ai (zV g W j k)<|(d (tsE p.ts q.ts) (by unfold TA;rw[b];rfl))) λb=>(d false (by unfold TA;rw[b];rfl))
def ww(p q:List Nm){b:y9}(e:p.length<=4294967296)(w:m0)(f:SlV d 3 VT w p v)(g:SlV a 3 VT w q b):RetAt prog w 17 #[v,b] (Ξ (ky p q)) :=
 rk [x04 1 2 (bV (ky p q))] λW c j=>have h:=f.below YH c;have i:=g.below YH c;ai (zP e W h i)<|(Rx (Ξ (ky p q)))
variable{g:y9}
def wy{i c:Nat}(p q:Nd)(j:p.sum.ts.length<=4294967296)(w:m0)(k:SlV i 4 V7 w p.sum.ts v)(l:SlV c 4 V7 w q.sum.ts g):RetAt prog w 19 #[.agg #[Θ p.split,Ξ p.ο.b,Ψ p.ο.s,Θ p.ο.e,Θ p.sum.vars,v],.agg #[Θ q.split,Ξ q.ο.b,Ψ q.ο.s,Θ q.ο.e,Θ q.sum.vars,g]] (Ξ (bc p q)) :=
 have d:=eB (bc p q);rk [.gb 1 6 [x03 1 10 (Ξ (CC p.ο q.ο)),.gb 1 13 [x04 1 17 (bV (TA p.sum q.sum))] []] []] λW h r=>have m:=k.below YS h;have n:=l.below YS h;ZD (p.split==q.split) true (λa=>ai (RB W (.tmp 12) (.tmp 14) p.ο q.ο)<|ZD (CC p.ο q.ο) true (λf=>ai (nZ p.sum q.sum j W m n)<|(d (TA p.sum q.sum) (by unfold bc;rw[a,f];rfl))) λf=>(d false (by unfold bc;rw[a,f];rfl))) λa=>(d false (by unfold bc;rw[a];rfl))
abbrev Hwh:y9:=.func (.func 20) #[] #[]
variable{q:Nat}
def zR{z m:Nat}{A h:m3}{c:Nat}{l a:List Py}{r d:Nat->m3}{cs f:Nat->Nat}(I:l.length<=4294967296)(E:∀p,p∈l->p.ts.length<=4294967296)(w:m0)(F:RdK w A l.length 2 (X7 l r cs))(t:RdK w h a.length 2 (X7 a d f))(G:∀j,j<l.length->SlV z 4 V7 w (QM l j).ts (Ω (r j) (QM l j).ts.length (cs j)))(u:∀j,j<a.length->SlV m 4 V7 w (QM a j).ts (Ω (d j) (QM a j).ts.length (f j))):RetAt prog w 23 #[Ω A l.length c,Ω h a.length q,.func (.func 20) #[] #[]] (Ξ (vX l a)) :=
 rk [.both [] [P5 (λ(k:Nat)=>(⟨32,[(0,lV A l.length c),(1,lV h a.length q),(2,.val Hwh),(6,bV false),(15,lV A l.length c),(16,iV (l.length:Int)),(17,iV (k:Int))],[],[]⟩:St)) l.length (λj=>(!(TA (QM l j) (QM a j)))) (λ(k:Nat)=>[.both [x03 5 1 (.pointer (some (Q5 A (k*2+0)))),x03 5 2 (.agg #[Θ ((QM l k).vars),Ω (r k) (QM l k).ts.length (cs k)]),x03 6 2 (.pointer (some (Q5 h (k*2+0)))),x03 6 3 (.agg #[Θ ((QM a k).vars),Ω (d k) (QM a k).ts.length (f k)]),x04 7 3 (bV (TA (QM l k) (QM a k))),.both [] [x05 9 0 (iV ((k+1:Nat):Int)),.next 0]] []])]] λW s J=>have B:=F.up s (λ_=>rfl);have C:=t.up s (λ_=>rfl);(λ(H:∀j,j<l.length->SlV z 4 V7 W (QM l j).ts (Ω (r j) (QM l j).ts.length (cs j)))=>(λ(v:∀j,j<a.length->SlV m 4 V7 W (QM a j).ts (Ω (d j) (QM a j).ts.length (f j)))=>Xi ((l.length:Int) != (a.length:Int)) (λg=>AJ (λj=>TA (QM l j) (QM a j)) g) λg=>GL (qV (Ω A l.length c)) (qV (Ω h a.length q)) (qV Hwh) (qB false) (qV (Ω A l.length c)) (qI (l.length:Int)) (qI ((0:Nat):Int))<|ai (c0 l.length (λj=>(!(TA (QM l j) (QM a j))))) λ(k:Nat) (D:cQ l.length (λj=>(!(TA (QM l j) (QM a j)))) k)=>Xi (decide ((k:Int)<(l.length:Int))) (λb=>KJ (J5 c B k (Qt b)) (D8 B k 0 (hA (L0 b)) x4 rfl rfl) (J5 q C k (GQ g b)) (D8 C k 0 (GQ g b) x4 rfl rfl) (nZ (QM l k) (QM a k) (E _ (VK (Qt b))) W (H k (Qt b)) (v k (GQ g b)))<|Xi (!(TA (QM l k) (QM a k))) (λx=>Fl (λj=>TA (QM l j) (QM a j)) g b x) λx=>Yx (QD k (hA (L0 b))) (qV (Ω A l.length c)) (qV (Ω h a.length q)) (qV Hwh) (qB false) (qV (Ω A l.length c)) (qI (l.length:Int)) (qI (((k+1):Nat):Int))<|ai (cS D (Qt b) x) (Oe (Qt b))) λb=>AK (λj=>TA (QM l j) (QM a j)) g b D.2) (λj y=>(u j y).below YS s)) (λj y=>(G j y).below YS s)
def mO{l f:List Py}(h:l.length<=4294967296)(i:∀p,p∈l->p.ts.length<=4294967296)(w:m0)(j:SlV e 2 (dX e) w l v)(k:SlV a 2 (dX a) w f g):RetAt prog w 23 #[v,g,.func (.func 20) #[] #[]] (.bool (vX l f)):=by
 obtain⟨A,c,r,cs,rfl,_,_,m,n⟩:=SlV.rdPy2 j;obtain⟨s,t,o,q,rfl,_,_,b,d⟩:=SlV.rdPy2 k;exact zR h i w m b n d
abbrev Hwi:y9:=.func (.func 17) #[] #[]
def zQ{z m:Nat}{A h:m3}{c:Nat}{l a:List (List Nm)}{r d:Nat->m3}{cs f:Nat->Nat}(I:l.length<=4294967296)(E:∀p,p∈l->p.length<=4294967296)(w:m0)(F:RdK w A l.length 1 (yx l r cs))(t:RdK w h a.length 1 (yx a d f))(G:∀j,j<l.length->SlV z 3 VT w (Qu l j) (Ω (r j) (Qu l j).length (cs j)))(u:∀j,j<a.length->SlV m 3 VT w (Qu a j) (Ω (d j) (Qu a j).length (f j))):RetAt prog w 22 #[Ω A l.length c,Ω h a.length q,.func (.func 17) #[] #[]] (Ξ (NT l a)) :=
 rk [.both [] [P5 (λ(k:Nat)=>(⟨32,[(0,lV A l.length c),(1,lV h a.length q),(2,.val Hwi),(6,bV false),(15,lV A l.length c),(16,iV (l.length:Int)),(17,iV (k:Int))],[],[]⟩:St)) l.length (λj=>(!(ky (Qu l j) (Qu a j)))) (λ(k:Nat)=>[.both [x03 5 1 (.pointer (some (Q5 A (k*1+0)))),x03 5 2 (Ω (r k) (Qu l k).length (cs k)),x03 6 2 (.pointer (some (Q5 h (k*1+0)))),x03 6 3 (Ω (d k) (Qu a k).length (f k)),x04 7 3 (bV (ky (Qu l k) (Qu a k))),.both [] [x05 9 0 (iV ((k+1:Nat):Int)),.next 0]] []])]] λW s J=>have B:=F.up s (λ_=>rfl);have C:=t.up s (λ_=>rfl);(λ(H:∀j,j<l.length->SlV z 3 VT W (Qu l j) (Ω (r j) (Qu l j).length (cs j)))=>(λ(v:∀j,j<a.length->SlV m 3 VT W (Qu a j) (Ω (d j) (Qu a j).length (f j)))=>Xi ((l.length:Int) != (a.length:Int)) (λg=>AJ (λj=>ky (Qu l j) (Qu a j)) g) λg=>GL (qV (Ω A l.length c)) (qV (Ω h a.length q)) (qV Hwi) (qB false) (qV (Ω A l.length c)) (qI (l.length:Int)) (qI ((0:Nat):Int))<|ai (c0 l.length (λj=>(!(ky (Qu l j) (Qu a j))))) λ(k:Nat) (D:cQ l.length (λj=>(!(ky (Qu l j) (Qu a j)))) k)=>Xi (decide ((k:Int)<(l.length:Int))) (λb=>KJ (Zy c B k (Qt b)) (J6 B k 0 (hA (L0 b)) x4 rfl) (Zy q C k (GQ g b)) (J6 C k 0 (GQ g b) x4 rfl) (ww (Qu l k) (Qu a k) (E _ (Ka (Qt b))) W (H k (Qt b)) (v k (GQ g b)))<|Xi (!(ky (Qu l k) (Qu a k))) (λx=>Fl (λj=>ky (Qu l j) (Qu a j)) g b x) λx=>Yx (QD k (hA (L0 b))) (qV (Ω A l.length c)) (qV (Ω h a.length q)) (qV Hwi) (qB false) (qV (Ω A l.length c)) (qI (l.length:Int)) (qI (((k+1):Nat):Int))<|ai (cS D (Qt b) x) (Oe (Qt b))) λb=>AK (λj=>ky (Qu l j) (Qu a j)) g b D.2) (λj y=>(u j y).below YH s)) (λj y=>(G j y).below YH s)
def I9{l f:List (List Nm)}(h:l.length<=4294967296)(i:∀p,p∈l->p.length<=4294967296)(w:m0)(j:SlV e 1 (kz e) w l v)(k:SlV a 1 (kz a) w f g):RetAt prog w 22 #[v,g,.func (.func 17) #[] #[]] (.bool (NT l f)):=by
 obtain⟨A,c,r,cs,rfl,_,_,m,n⟩:=SlV.rdPt2 j;obtain⟨s,t,o,q,rfl,_,_,b,d⟩:=SlV.rdPt2 k;exact zQ h i w m b n d
abbrev Hwj:y9:=.func (.func 19) #[] #[]
def zM{C:Nat}{A m:m3}{c r:Nat}{l a:List Nd}{t f:Nat->m3}{cs g:Nat->Nat}(K:l.length<=4294967296)(G:∀p,p∈l->p.sum.ts.length<=4294967296)(w:m0)(H:RdK w A l.length 6 (be l t cs))(v:RdK w m a.length 6 (be a f g))(I:∀j,j<l.length->SlV C 4 V7 w (Qn l j).sum.ts (Ω (t j) (Qn l j).sum.ts.length (cs j)))(x:∀j,j<a.length->SlV q 4 V7 w (Qn a j).sum.ts (Ω (f j) (Qn a j).sum.ts.length (g j))):RetAt prog w 24 #[Ω A l.length c,Ω m a.length r,.func (.func 19) #[] #[]] (Ξ (kk l a)) :=
 rk [.both [] [P5 (λ(k:Nat)=>(⟨32,[(0,lV A l.length c),(1,lV m a.length r),(2,.val Hwj),(6,bV false),(15,lV A l.length c),(16,iV (l.length:Int)),(17,iV (k:Int))],[],[]⟩:St)) l.length (λj=>(!(bc (Qn l j) (Qn a j)))) (λ(k:Nat)=>[.both [x03 5 1 (.pointer (some (Q5 A (k*6+0)))),x03 5 2 (.agg #[Θ ((Qn l k).split),Ξ ((Qn l k).ο.b),Ψ ((Qn l k).ο.s),Θ ((Qn l k).ο.e),Θ ((Qn l k).sum.vars),Ω (t k) (Qn l k).sum.ts.length (cs k)]),x03 6 2 (.pointer (some (Q5 m (k*6+0)))),x03 6 3 (.agg #[Θ ((Qn a k).split),Ξ ((Qn a k).ο.b),Ψ ((Qn a k).ο.s),Θ ((Qn a k).ο.e),Θ ((Qn a k).sum.vars),Ω (f k) (Qn a k).sum.ts.length (g k)]),x04 7 3 (bV (bc (Qn l k) (Qn a k))),.both [] [x05 9 0 (iV ((k+1:Nat):Int)),.next 0]] []])]] λW u L=>have D:=H.up u (λ_=>rfl);have E:=v.up u (λ_=>rfl);(λ(J:∀j,j<l.length->SlV C 4 V7 W (Qn l j).sum.ts (Ω (t j) (Qn l j).sum.ts.length (cs j)))=>(λ(y:∀j,j<a.length->SlV q 4 V7 W (Qn a j).sum.ts (Ω (f j) (Qn a j).sum.ts.length (g j)))=>Xi ((l.length:Int) != (a.length:Int)) (λh=>AJ (λj=>bc (Qn l j) (Qn a j)) h) λh=>GL (qV (Ω A l.length c)) (qV (Ω m a.length r)) (qV Hwj) (qB false) (qV (Ω A l.length c)) (qI (l.length:Int)) (qI ((0:Nat):Int))<|ai (c0 l.length (λj=>(!(bc (Qn l j) (Qn a j))))) λ(k:Nat) (F:cQ l.length (λj=>(!(bc (Qn l j) (Qn a j)))) k)=>Xi (decide ((k:Int)<(l.length:Int))) (λd=>KJ (J4 c D k (Qt d)) (D7 D k 0 (hA (L0 d)) x4 rfl rfl) (J4 r E k (GQ h d)) (D7 E k 0 (GQ h d) x4 rfl rfl) (wy (Qn l k) (Qn a k) (G _ (DK (Qt d))) W (J k (Qt d)) (y k (GQ h d)))<|Xi (!(bc (Qn l k) (Qn a k))) (λz=>Fl (λj=>bc (Qn l j) (Qn a j)) h d z) λz=>Yx (QD k (hA (L0 d))) (qV (Ω A l.length c)) (qV (Ω m a.length r)) (qV Hwj) (qB false) (qV (Ω A l.length c)) (qI (l.length:Int)) (qI (((k+1):Nat):Int))<|ai (cS F (Qt d) z) (Oe (Qt d))) λd=>AK (λj=>bc (Qn l j) (Qn a j)) h d F.2) (λj B=>(x j B).below YS u)) (λj B=>(I j B).below YS u)
def zN{l f:List Nd}(h:l.length<=4294967296)(i:∀p,p∈l->p.sum.ts.length<=4294967296)(w:m0)(j:SlV e 6 (lu e) w l v)(k:SlV a 6 (lu a) w f g):RetAt prog w 24 #[v,g,.func (.func 19) #[] #[]] (.bool (kk l f)):=by
 obtain⟨A,c,r,cs,rfl,_,_,m,n⟩:=SlV.rdNd2 j;obtain⟨s,t,o,q,rfl,_,_,b,d⟩:=SlV.rdNd2 k;exact zM h i w m b n d
structure shortP (x:PV):Prop where
 box:x.box.length<=4294967296
 κ:x.κ.length<=4294967296
 ps:x.ps.length<=4294967296
 θ:x.θ.length<=4294967296
 ι:x.ι.length<=4294967296
 pt:∀p,p∈x.κ->p.length<=4294967296
 p:∀p,p∈x.ps->p.ts.length<=4294967296
 rule:∀p,p∈x.θ->p.ts.length<=4294967296
 node:∀p,p∈x.ι->p.sum.ts.length<=4294967296
structure Five (lo:Nat) (w:World) (x:PV) (vb vs vp vr vc:Value):Prop where
 b:SlV lo 6 yN w x.box vb
 s:SlV lo 1 (kz lo) w x.κ vs
 p:SlV lo 2 (dX lo) w x.ps vp
 r:SlV lo 2 (dX lo) w x.θ vr
 c:SlV lo 6 (lu lo) w x.ι vc
def Five.below{e:m0}{x:PV}{f i j k:y9}(h:Five a w x f g i j k)(d:Below w.heap.size w e):Five a e x f g i j k:=⟨h.b.below QbP d,h.s.below (pG a) d,h.p.below (pP a) d,h.r.below (pP a) d,h.c.below (QaK a) d⟩
def Hwk(x:PV)(y:PV):List Dir:=[x04 4 6 (bV (lm x.box y.box)),.gb 4 8 [x04 4 15 (bV (NT x.κ y.κ))] []]
def ql{I A:Nat}(x y:PV){C D E F G m n q t:y9}(a:shortP x)(w:m0)(J:Five I w x C D E F G)(K:Five A w y m n q t u):RetAt prog w 9 #[yA x C D E F G,yA y m n q t u] (Ξ (ZS x y)) :=
 have f:=eB (ZS x y);rk [.gb 1 6 [.gb 1 13 [x03 1 17 (Ξ (CC x.ν y.ν)),.gb 1 20 [x03 1 24 (Ξ (CC x.ε y.ε)),.gb 1 27 [x04 4 6 (bV (lm x.box y.box)),.gb 4 8 [x04 4 15 (bV (NT x.κ y.κ)),.gb 5 2 [.gb 5 5 [x04 5 9 (bV (vX x.ps y.ps)),.gb 5 12 [x04 5 16 (bV (vX x.θ y.θ)),.gb 5 19 [x04 5 24 (bV (kk x.ι y.ι))] []] []] []] []] [.gb 5 2 [] []]] (Hwk x y)] (Hwk x y)] (Hwk x y)] (Hwk x y)] λW H L=>have h:=J.below H;have i:=K.below H;ZD (x.δ==y.δ) true (λe=>ZD (x.vars==y.vars) true (λg=>ai (RB W (.tmp 23) (.tmp 25) x.ν y.ν)<|ZD (CC x.ν y.ν) true (λj=>ai (RB W (.tmp 30) (.tmp 32) x.ε y.ε)<|ZD (CC x.ε y.ε) true (λk=>ai (Ma a.box W h.b i.b)<|ZD (lm x.box y.box) true (λd=>ai (I9 a.κ a.pt W h.s i.s)<|ZD (x.ζ==y.ζ) true (λl=>ZD (NT x.κ y.κ) true (λv=>ai (mO a.ps a.p W h.p i.p)<|ZD (vX x.ps y.ps) true (λz=>ai (mO a.θ a.rule W h.r i.r)<|ZD (vX x.θ y.θ) true (λB=>ai (zN a.ι a.node W h.c i.c)<|(f (kk x.ι y.ι) (by unfold ZS;rw[e,g,j,k,d,l,v,z,B];rfl))) λB=>(f false (by unfold ZS;rw[e,g,j,k,d,l,v,z,B];rfl))) λz=>(f false (by unfold ZS;rw[e,g,j,k,d,l,v,z];rfl))) λv=>(f false (by unfold ZS;rw[e,g,j,k,d,l,v];rfl))) λl=>(f false (by unfold ZS;rw[e,g,j,k,d,l];rfl))) λd=>ZD (x.ζ==y.ζ) true (λl=>(f false (by unfold ZS;rw[e,g,j,k,d,l];rfl))) λl=>(f false (by unfold ZS;rw[e,g,j,k,d,l];rfl))) λk=>ai (Ma a.box W h.b i.b)<|ZD (lm x.box y.box) true (λd=>ai (I9 a.κ a.pt W h.s i.s)<|(f false (by unfold ZS;rw[e,g,j,k,d];rfl))) λd=>(f false (by unfold ZS;rw[e,g,j,k,d];rfl))) λj=>ai (Ma a.box W h.b i.b)<|ZD (lm x.box y.box) true (λd=>ai (I9 a.κ a.pt W h.s i.s)<|(f false (by unfold ZS;rw[e,g,j,d];rfl))) λd=>(f false (by unfold ZS;rw[e,g,j,d];rfl))) λg=>ai (Ma a.box W h.b i.b)<|ZD (lm x.box y.box) true (λd=>ai (I9 a.κ a.pt W h.s i.s)<|(f false (by unfold ZS;rw[e,g,d];rfl))) λd=>(f false (by unfold ZS;rw[e,g,d];rfl))) λe=>ai (Ma a.box W h.b i.b)<|ZD (lm x.box y.box) true (λd=>ai (I9 a.κ a.pt W h.s i.s)<|(f false (by unfold ZS;rw[e,d];rfl))) λd=>(f false (by unfold ZS;rw[e,d];rfl))
def QdF{x:Nm}{L S T:Nat}(a:8*x.s.size<=S)(b:-(L:Int)<=x.e)(c:x.e+S<=T):DB L T (nv x):=by
 refine IX S ?_ b c;rw[Xd];refine L9 (Dk x.s) ?_
 rw[show(256:Nat)=2^8 from rfl,<- T1];exact Lh x4 a
def okS.db{x:Nm}(h:okS x):DB 200 360 (nv x):=QdF (S:=160) (hA h.sz) (hA h.lo) (hA h.hi)
def G6{n:Nat}(f:Nat->Bool)(a:decide ((k:Int)<(n:Int))=false)(b:∀j,j<k->f j=false):XQ n f=false:=Kf λj c=>b j (hA (L1 a))
def CJ:Code->Code
 |.block _ b=>b
 |_=>.skip
def jQ:Code->Nat
 |.block i _=>i
 |_=>0
def bb:Code->Code
 |.loop b=>b
 |_=>.skip
def cdC:Code->x0h
 |.cond c _ _=>c
 |_=>.tmp 0
def V9:Code->Array Oper
 |.region _ o _=>o
 |_=>#[]
def ed:Code->Nat
 |.region i _ _=>i
 |_=>0
def U9(c:Code):Code:=Zs (bb (CJ c))
def ck(c:Code):x0h:=cdC (Zs (QE (bb (CJ c))))
def ylD(c:Code):Code:=Zs (QE (QE (bb (CJ c))))
def U0(c:Code):Code:=Zs (CJ (ylD c))
def C3(c:Code):Code:=Zs (QE (CJ (ylD c)))
def jM(c:Code):x0h:=cdC (QE (QE (CJ (ylD c))))
def jL(c:Code):Code:=QE (QE (QE (bb (CJ c))))
def su(c:Code):Code:=.block (jQ c) (.loop (.seq (U9 c) (.seq (.cond (ck c) .skip (.exit (jQ c))) (.seq (.block (jQ (ylD c)) (.seq (U0 c) (.seq (.region (ed (C3 c)) (V9 (C3 c)) false) (.cond (jM c) .ret .skip)))) (jL c)))))
def Ps(o:Oper):Option (x0h×List x0h):=match o.op,o.guard with
 |.call c,none=>(match c.callee with
  |.value f=>some (f,c.args.toList)
  |_=>none)
 |_,_=>none
def Jf(e:Ex)(p:Prop):Prop:=match e with
 |.normal=>p
 |_=>False
section
variable{P:z4}{tt:List (Nat×TI)}{w0:m0}
def Qfv{n:Nat}{a:Act}{w:m0}{next b:Act->m0->Prop}{Q:Exit->Act->m0->Prop}(i:MF o=true)(g:∀a w,next a w->b a w)(h:o.wp P a w next Q):o.wpIn Fence.wide n P a w b Q:=by
 refine⟨λ_ _=>trivial,?_⟩;rw[Oper.semAt_eq _ _ _ (λc e=>by unfold MF at i;rw[e]at i;cases i)];revert h;unfold Oper.wp;generalize (execOp a.eval o).run P w=r;intro h;cases r with
 |halt k w=>cases k<;>first|exact h|exact False.elim h
 |ok x w =>
  cases x with
  |value v=>exact g _ _ h
  |skip=>exact g _ _ h
  |defer d=>exact g _ _ h
  |enter f args =>
   refine⟨λh=>(by cases h),(callsIn_wide.2 (show Calls P f args w _ from h)).mono λe j h=>?_⟩;cases e with
   |returned v=>exact g _ _ h
   |panicked c=>exact h
   |outgrown=>exact h
  |row row args=>exact⟨λh=>(by cases h),λc cs _=>let ⟨v,j,r,s⟩:=(show Rows P row args w _ from h) c cs;⟨v,j,g _ _ r,stepsIn_wide.2 s⟩⟩
  |_=>exact False.elim h
theorem FA{n:Nat}{ops:Array Oper}(Q Q':Exit->Act->m0->Prop){m2:List Oper}(i:¬ LetsOut Q')(g:∀c a w,¬ Q' (.panic c) a w)(j:∀a w,Q' .normal a w->wpListIn Fence.wide n P ops Q m2 a w):∀ {m:List Oper} {a:Act} {w:m0},m.all MF=true->wpList P ops Q' m a w->wpListIn Fence.wide n P ops Q (m++m2) a w
 |[],_,_,_,h=>j _ _ h
 |o::m,a,w,q,h=>by
  let⟨s,p⟩:=L5.1 (show(MF o&&m.all MF)=true from q);show wpListIn Fence.wide n P ops Q (o::(m++m2)) a w;unfold wpListIn;unfold wpList at h;split
  ·rename_i k;rw[if_pos k]at h;rcases h with h|h
   ·have d:=Qfv (n:=n) s (λa w=>FA Q _ i g j p) h;refine⟨d.1,?_⟩;revert d;rintro⟨_,d⟩;revert d;generalize (o.semAt Fence.wide.round a.eval).run P w=r;intro d;cases r with
    |halt u w=>cases u<;>first|exact absurd d (g _ _ _)|exact False.elim d
    |ok x w =>
     cases x with
     |enter f args =>
      refine⟨d.1,d.2.mono λe y h=>?_⟩;cases e with
      |returned v=>exact h
      |panicked c=>exact absurd h (g _ _ _)
      |outgrown=>exact absurd h i
     |round l f t a b =>
      refine⟨d.1,d.2.mono λe y h=>?_⟩;cases e with
      |returned v=>exact h
      |panicked c=>exact absurd h (g _ _ _)
      |outgrown=>exact absurd h i
     |_=>exact d
   grind
  ·rename_i k;rw[if_neg k]at h;exact⟨λ_ _=>trivial,FA _ _ i g j p h⟩
def Sat.rebase{a:Act}{w:m0}(h:Sat w0 τ r a w)(e:τ.bs=[])(c:τ.rs=[])(V:m0):Sat V τ e0 a V:=by
 have d:Ag τ r e0:=⟨λi b=>by rw[e]at b;exact absurd b (R4 _),λi b=>by rw[c]at b;exact absurd b (R4 _)⟩
 refine⟨⟨p5 _ _,h.see.size,λk s g=>?_,λi t cs b=>?_,λi R b=>?_,λi b=>?_⟩,⟨λi p b=>?_,λi j p q b=>?_,λi R b=>?_,λi j R m b=>?_,λi j p R b=>?_⟩,h.defers⟩
 ·let⟨l,f⟩:=h.see.ts k s g;exact⟨by rw[d.den f];exact l,f⟩
 all_goals first|(rw[e]at b;cases b;done)|(rw[c]at b;cases b;done)|(rw[c]at b;exact absurd b (R4 _))
def Pd{f:x0h}{l:Nat}{args:List x0h}(b:Ps o=some (f,args)){a:Act}{d:o3}(g:a.eval f=.func (.yield l) #[] #[])(h:args.map a.eval=d)(W:m0):
  (execOp a.eval o).run P W=(Instr.yield l d.toArray).run P W/\o.guard=none/\MF o=true:=by
 unfold Ps at b;split at b
 ·rename_i c e i;split at b
  ·rename_i k j;simp only[Option.some.injEq,Prod.mk.injEq]at b;obtain⟨rfl,rfl⟩:=b;refine⟨?_,i,by unfold MF;rw[e]⟩;unfold execOp;rw[e];simp only[resolve,j,g,Deferred.ofValue,c7,Sem.run_pure,c8,invoke];rw[Kg _ _ _ h];simp
  ·cases b
 ·cases b
end
def Hs(o i:Bool)(nb:Nat)(t b:Int):Int:=bif !o then 1 else bif !i then 3 else bif (nb:Int)==0 then t else b
def tg{e:m3}{k l m:y9}(o i:Bool)(t:Int)(x:PV)(q:x.box.length<=4294967296)(n:∀s,s∈x.box->okN s.1/\okN s.2)(w:m0)(p:QV w)(r:RdK w e x.box.length 6 (λj=>JR (QN x.box j)))(u:∀W,Below w.heap.size w W->RetAt prog W 25 #[yA x (Ω e x.box.length f) g k l m] (Ξ o))(v:∀W,Below w.heap.size w W->(!o)=false->RetAt prog W 26 #[yA x (Ω e x.box.length f) g k l m] (Ξ i))(y:∀W,Below w.heap.size w W->(!o)=false->(!i)=false->((x.box.length:Int)==0)=true->RetAt prog W 27 #[g] (Θ t)):RetAt prog w 10 #[yA x (Ω e x.box.length f) g k l m] (Θ (Hs o i x.box.length t (V8 x.box))) :=
 rk [x04 1 1 (bV o),.both [] [x04 3 1 (bV i),.both [] [.both [x04 6 3 (iV t)] [x04 7 3 (iV (V8 x.box))]]]] λW b A=>have z:=r.up b (λ_=>rfl);(λ(p:QV W)=>ai (u W b)<|Xi (!o) (λa=>(show(Θ 1:y9)=Θ (Hs o i x.box.length t (V8 x.box))from by unfold Hs;rw[a];rfl)) λa=>ai (v W b a)<|Xi (!i) (λd=>(show(Θ 3:y9)=Θ (Hs o i x.box.length t (V8 x.box))from by unfold Hs;rw[a,d];rfl)) λd=>Xi ((x.box.length:Int)==0) (λh=>ai (y W b a d h)<|(show(Θ t:y9)=Θ (Hs o i x.box.length t (V8 x.box))from by unfold Hs;rw[a,d,h];rfl)) λh=>ai (zh (c:=f) q n W p z)<|(show(Θ (V8 x.box):y9)=Θ (Hs o i x.box.length t (V8 x.box))from by unfold Hs;rw[a,d,h];rfl)) (Ql p b)
def Zx(e k:Nat)(c:α->o3)(l:List α)(A:m3)(cp:Nat):Res where
 φ x S w:=(Qc e k c l A cp).φ x S w\/(x.oneCell'=true/\l=[]/\cp=0/\(∃g,A=some ⟨g,0,none⟩)/\∀b,¬ S b)
 one x S w h:=by
  rcases h with h|h
  ·exact(Qc e k c l A cp).one x S w h
  ·exact h.1
 loc x S w w' h hφ:=by
  rcases hφ with a|a
  ·exact .inl ((Qc e k c l A cp).loc x S w w' h a)
  ·exact .inr a
def l5{c:α->o3}{l:List α}{A:m3}{x a:y9}(b:a.oneCell'=true)(h:(Zx e k c l A cp).φ x S w):(Zx e k c l A cp).φ a S w:=by
 rcases(show _\/_ from h)with h|h
 ·exact(show _\/_ from .inl (Ak b h))
 ·exact(show _\/_ from .inr ⟨b,h.2⟩)
theorem IU{c:α->o3}{l a:List α}{A:m3}(b:l=a){x:y9}(h:(Zx e k c l A cp).φ x S w):(Zx e k c a A cp).φ x S w:=by
 grind
theorem l6{c:α->o3}(a:∀x,(c x).length=k){l:List α}(d:α){A:m3}{x:y9}(h:(Zx e k c l A cp).φ x S w):RdK w A l.length k (λj=>c (l.getD j d)):=by
 rcases(show _\/_ from h)with h|h
 ·have b:=Mh (L:=LP.known λj=>c (l.getD j d)) a d (λi o S w=>rfl) h;let⟨f,p,_,g,m,_⟩:=PP b;exact RdK.congr g λj n=>m j n
 ·intro q
  grind
section
variable{P:z4}{w0:m0}
def Ff(w0:m0)(e k:Nat)(c:α->o3)(a:∀x,(c x).length=k)(l:List α)(d:α)(A:m3)(cp:Nat){R:y9}(h:∀W,RdK W A l.length k (λj=>c (l.getD j d))->Qp P W M R):GJ P w0 [Zx e k c l A cp] M R:=λW _ x S b=>h W (l6 a d b) W (p5 _ _)
theorem N1{t n:Nat}(ty:Nat){c:α->o3}{l2:List α}(b:RowT P t n e k bytes)(o:∀x,(c x).length=k)(O:∀x u,u∈c x->u.oneCell'=true)(G:l2.length*bytes<=140737488355328){W:m0}(A:BO c l2 W u)(g:Nat):
  ∃q d p,(Builtin.append_ #[t,n] ty #[.slice (some ⟨g,0,none⟩) 0 0,u]).run P W=.ok (.slice q l2.length d) p/\W.grownBy p none/\((l2=[]/\q=some ⟨g,0,none⟩/\d=0/\p=W)\/p.ownsRow W.heap.size e k (.slice q l2.length d) l2.length (l2.flatMap c)):=by
 let⟨a,z,r,H,I,J,K⟩:=b.info;let⟨L,f⟩:=b.ht2;by_cases B:l2=[]
 ·subst B;refine⟨some ⟨g,0,none⟩,0,W,?_,⟨rfl,rfl,rfl,L4 _,λ_ _ _=>rfl⟩,.inl ⟨rfl,rfl,rfl,rfl⟩⟩;rcases A with⟨C,l,m,_⟩|⟨m,_⟩
  ·rw[m];refine run_append_nothing (P:=P) W t n ty e a b.ht r _ 0 0 (L4 _) _ ⟨.inl ⟨_,f⟩,λ_=>?_,?_,?_,?_,λu s=>(by cases s)⟩
   ·simp[Builtin.lenOf]
   ·simp[Builtin.firstCells,loadCells,loadCellsFrom]
   ·simp[Builtin.firstCells,loadCells,loadCellsFrom]
   ·simp
  ·rw[m];refine run_append_nothing (P:=P) W t n ty e a b.ht r _ 0 0 (L4 _) _ ⟨.inl ⟨_,f⟩,λ_=>?_,?_,?_,?_,λu s=>(by cases s)⟩;all_goals simp[Builtin.lenOf,Builtin.firstCells]
 ·have D:0<l2.length:=by
   grind
  rcases A with⟨C,l,m,i⟩|⟨_,e0⟩
  ·have w:(l2.flatMap c).length=l2.length*a.size:=by rw[QT o,I]
   have E:l2.length<=maxLen:=by
    have Q:l2.length<=l2.length*bytes:=Rz _ b.hb;simp only[maxLen];omega
   have y:(0+l2.length)*a.bytes<=140737488355328:=by rw[Lm,J];exact G
   have F:=run_append_grow (P:=P) W t ty e a z b.ht r H ⟨g,0,none⟩ 0 0 [] x6 (λj v h=>by cases j<;>cases h) C l2.length l (l2.flatMap c) w i x3 (by simp only[maxLen]at E;omega) (growslice_fits x3 y)
   rw[Lm]at F;refine⟨some ⟨W.heap.size,0,none⟩,grownCap W l2.length 0 e,W.drew.alloc (.cells (([]:o3).toArray++(l2.flatMap c).toArray++Builtin.zeroCells z.cells (grownCap W l2.length 0 e-l2.length)) e),?_,?_,.inr ⟨QT o l2,.inr ⟨W.heap.size,_,_,rfl,L4 _,heap_alloc_new W.drew _,grownCap_ge W l2.length 0 e,grownCap_le_maxLen W l2.length 0 e E,?_,?_⟩⟩⟩
   ·rw[m,Dw b.ht f];exact F
   ·exact⟨rfl,rfl,rfl,x6,λk M _=>heap_alloc_old W.drew _ M⟩
   ·have N:=grownCap_ge W l2.length 0 e;simp only[Array.size_append,Rs,size_zeroCells,K,QT o l2,S9,Lm,<- S8];congr 1;omega
   ·simp only[Array.toList_append,List.nil_append];rw[show l2.length*k=(l2.flatMap c).length from(QT o l2).symm];exact List.take_left
  ·exact absurd e0 B
def sP{t m:Nat}(ty:Nat)(c:α->o3)(l2:List α)(o:RowT P t m e k bytes)(p:∀x,(c x).length=k)(q:∀x u,u∈c x->u.oneCell'=true)(i:l2.length*bytes<=140737488355328){W:m0}(r:BO c l2 W u)(g:Nat):
  Pf P W (λy:Hp=>.slice y.1 l2.length y.2) (λy:Hp=>Zx e k c l2 y.1 y.2) (Vf .append #[t,m] ty [.slice (some ⟨g,0,none⟩) 0 0,u]):=by
 let⟨j,d,l,n,s,f⟩:=N1 ty o p q i r g;have a:Below W.heap.size W l:=by
  let⟨v,w,z,A,B⟩:=s;exact⟨v,w,z,A,λk C=>B k C x6⟩
 rcases f with⟨D,E,F,G⟩|f
 ·exact⟨(j,d),.bool false,λ_=>False,l,n,a,(show _\/_ from .inr ⟨rfl,D,F,⟨g,E⟩,λ_ h=>h⟩),λ_ h=>h.elim⟩
 ·refine⟨(j,d),.bool false,λb=>(Value.slice j l2.length d).ownBlock=some b,l,n,a,(show _\/_ from .inl (show _/\_/\_ from⟨rfl,f.mono (L7 _),λb=>Iff.rfl⟩)),λb i=>f.lt b i⟩
theorem fu{t v p:Nat}{c:α->o3}{l l2 f:List α}{A:m3}(w:RowT P t v e k bytes)(z:∀x,(c x).length=k)(B:∀x u,u∈c x->u.oneCell'=true)(C:l++l2=f)(i:f.length*bytes<=140737488355328){W:m0}(D:BO c l2 W u){x:y9}(E:(Zx e k c l A cp).φ x S W):Gc P W (λy:Hp=>.slice y.1 f.length y.2) (λy:Hp=>Zx e k c f y.1 y.2) x S (Vf .append #[t,v] p [.slice A l.length cp,u]):=by
 rcases(show _\/_ from E)with h|⟨j,F,G,⟨g,H⟩,M⟩
 ·let⟨y,I,m,k1,n,o,a⟩:=Ih (ty:=p) w z B C i D h;exact⟨y,I,m,k1,n,(show _\/_ from .inl o),a⟩
 ·subst F G H;have q:l2=f:=C;subst q;let⟨r,d,m,n,o,a⟩:=N1 p w z B i D g;rcases a with⟨J,K,L,N⟩|a
  ·exact⟨(r,d),λ_=>False,m,n,Trn.of_grown o (λk s=>nomatch s),(show _\/_ from .inr ⟨j,J,L,⟨g,K⟩,λ_ h=>h⟩),λ_ h=>h.elim⟩
  ·exact⟨(r,d),λb=>(Value.slice r l2.length d).ownBlock=some b,m,n,Trn.of_grown o (λk s=>nomatch s),(show _\/_ from .inl (show _/\_/\_ from⟨j,a.mono (L7 _),λb=>Iff.rfl⟩)),λb i=>⟨.inr (a.lt b i).1,(a.lt b i).2⟩⟩
theorem tm(w0:m0){t:Nat}(ty:Nat)(c:α->o3)(l l2 l':List α)(A:m3)(cp:Nat)(u:y9)(b:RowT P t a e k bytes)(d:∀x,(c x).length=k)(f:∀x u,u∈c x->u.oneCell'=true)(g:l++l2=l')(h:l'.length*bytes<=140737488355328)(i:∀W,Below w0.heap.size w0 W->BO c l2 W u):
 ∀W,Below w0.heap.size w0 W->∀x S,(Zx e k c l A cp).φ x S W->Gc P W (λy:Hp=>.slice y.1 l'.length y.2) (λy:Hp=>Zx e k c l' y.1 y.2) x S (Vf .append #[t,a] ty [.slice A l.length cp,u]):=by grind[fu]
theorem tn(w0:m0){t b:Nat}(ty:Nat)(bt m cp2:Nat)(c:α->o3)(l l2 l':List α)(A:m3)(cp:Nat)(cs:o3)(d:RowT P t b e k bytes)(f:∀x,(c x).length=k)(h:∀x u,u∈c x->u.oneCell'=true)(i:l++l2=l')(n:l'.length*bytes<=140737488355328)(a:cs=l2.flatMap c)(o:m=l2.length):
  ∀W,Below w0.heap.size w0 W->∀g,Bx W g bt cs.toArray->∀x S,(Zx e k c l A cp).φ x S W->Gc P W (λy:Hp=>.slice y.1 l'.length y.2) (λy:Hp=>Zx e k c l' y.1 y.2) x S (Vf .append #[t,b] ty [.slice A l.length cp,.slice (some ⟨g,0,none⟩) m cp2]) :=
 λW _ g p x S q=>by
  subst o;refine fu d f h i n (.inl ⟨⟨g,0,none⟩,cp2,rfl,λj u r=>?_⟩) q;rw[add_plain,Lm,p.cel,a]
  grind
end
def Mg{l:List α}{f g:α->List β}(h:∀a,a∈l->f a=g a):l.flatMap f=l.flatMap g:=by
 induction l with
 |nil=>rfl
 |cons a l c=>rw[Sn,Sn,h a x6,c λb d=>h b (by simp[d])]
def Da(e k:Nat)(c:α->o3)(pre:Nat->o3)(ls:Nat->List α)(post:Nat->o3):LP where
 p j S w cs:=∃A cp a,(∀b,a b->S b)/\cs=pre j++.slice A (ls j).length cp::post j/\(Zx e k c (ls j) A cp).φ (.bool false) a w
 loc:=by
  rintro j S w l cs h ⟨A,cp,a,d,f,g⟩;exact⟨A,cp,a,d,f,(Zx e k c (ls j) A cp).loc _ _ _ _ (λb i=>h b (d b i)) g⟩
 mono:=by
  rintro j S m w cs h ⟨A,cp,a,d,f,g⟩;exact⟨A,cp,a,λb i=>h b (d b i),f,g⟩
abbrev VU{α:Type}(e k:Nat)(c:α->o3)(pre:Nat->o3)(ls:Nat->List α):LP:=Da e k c pre ls λ_=>[]
theorem ft{c:α->o3}{l:List α}{A:m3}:Pe (Zx e k c l A cp):=λx S w h b a=>by
 rcases(show _\/_ from h)with h|h
 ·exact Ca _ _ _ h b a
 grind
def Qc8{m n:Nat}{A:m3}{x a:y9}(b:a.oneCell'=true)(h:(Qx e m n L A cp).φ x S w):(Qx e m n L A cp).φ a S w:=by
 let⟨_,c⟩:=(show _/\_ from h)
 exact(show _/\_ from⟨b,c⟩)
section
variable{P:z4}{w0:m0}
theorem Wf(w0:m0){t t2:Nat}(ty:Nat){m:Nat}(bt e2 k n n' cp2:Nat)(c:α->o3)(pre:Nat->o3)(ls:Nat->List α)(post:Nat->o3)(A A2:m3)(cp cq:Nat)(cs:o3)(R3:Res)(T:∀x S w,R3.φ x S w->(Zx e2 k c (ls n) A2 cq).φ x S w)(p:RowT P t t2 e m bytes)(hp:∀u,u∈pre n->u.oneCell'=true)(hq:∀u,u∈post n->u.oneCell'=true)(H:n'=n+1)(a:(n+1)*bytes<=140737488355328)(I:cs=pre n++.slice A2 (ls n).length cq::post n)(hm:cs.length=m):
  ∀W,Below w0.heap.size w0 W->∀g,Bx W g bt cs.toArray->∀x S,(Qj (Qx e m n (Da e2 k c pre ls post) A cp) R3).φ x S W->Gc P W (λy:Hp=>.slice y.1 n' y.2) (λy:Hp=>Qx e m n' (Da e2 k c pre ls post) y.1 y.2) x S (Vf .append #[t,t2] ty [.slice A n cp,.slice (some ⟨g,0,none⟩) 1 cp2]):=λW _ g hg x S hφ=>by
 subst H;let⟨S1,J,x2,hG,U,q,D⟩:=(show ∃S1 E x2,_ from hφ)
 have V:=T _ _ _ U;let⟨X,f,E,h0,r,h3,R,K⟩:=(show _/\_ from hG)
 let⟨Y,z,e1,L,e3,e4,e5⟩:=p.info;let⟨bd,Z⟩:=p.ht2;have s:∀u∈cs,u.oneCell'=true:=λu hu=>by
  rw[I]at hu;rcases Lo.1 hu with h|h
  ·exact hp u h
  ·rcases Lb.1 h with rfl|h
   ·rfl
   grind
 have l:∀j u,cs[j]?=some u->W.cell? ((⟨g,0,none⟩:Addr).add j)=some u:=λj u hj=>by
  rw[add_plain,Lm,hg.cel]
  grind
 have v:n+1<=maxLen:=by
  have h2:=p.hb;have h3:n+1<=(n+1)*bytes:=Rz _ h2
  grind[maxLen]
 have M:cs.length=1*m:=by rw[hm,Tl]
 let⟨v',G,B,d,ad,_⟩:=run_append_own (P:=P) W 0 t ty e Y z m bytes p.ht e1 L e3 e4 e5 p.hk _ _ _ r ⟨g,0,none⟩ 1 cp2 cs M l s v a (L7 _);obtain⟨N,o,rfl⟩:∃N o,v'=.slice N (n+1) o:=by
  rcases d.2 with⟨rfl,e6⟩|⟨g,cap,bi,rfl,_⟩
  all_goals grind
 have i:Trn (λb=>(Value.slice A n cp).ownBlock=some b) W G:=Trn.of_grown ad λk hk=>hk
 have O:=Fa p.ht e1 L e3 e4 e5 p.hk r M l s v a B;have F:∀b,b<W.heap.size->(Value.slice A n cp).ownBlock≠some b->G.heap[b]?=W.heap[b]?:=λb a H=>i.block b a H
 have ae:∀b,E b->G.heap[b]?=W.heap[b]?:=λb a=>F b (R b a).2 (R b a).1
 have ag:∀b,J b->G.heap[b]?=W.heap[b]?:=λb a=>F b (ft _ _ _ V b a) λe=>q b ((K b).2 (.inl e)) a
 have C:∀b,E b\/J b->(Value.slice N (n+1) o).ownBlock≠some b/\b<G.heap.size:=λb a=>by
  have al:b<W.heap.size:=a.elim (λh=>(R b h).2) (λh=>ft _ _ _ V b h);have ao:(Value.slice A n cp).ownBlock≠some b:=a.elim (λh=>(R b h).1) (λh e=>q b ((K b).2 (.inl e)) h);refine⟨λe=>?_,L9 al i.size⟩;rcases O b e with h|h|h
  ·exact ao h
  ·omega
  ·omega
 have aB:((List.range n).flatMap f++cs)=(List.range (n+1)).flatMap (λj=>if j=n then cs else f j):=by
  rw[S7,Sj];congr 1
  ·refine Mg λj hj=>?_
   rw[if_neg (hA (R7.1 hj))]
  ·simp
 rw[aB]at d;refine⟨(N,o),λb=>(Value.slice N (n+1) o).ownBlock=some b\/E b\/J b,G,?_,⟨i.os,i.tape,i.output,i.size,λb a H=>F b a λe=>H ((D b).2 (.inl ((K b).2 (.inl e))))⟩,(show _/\_ from⟨X,λj=>if j=n then cs else f j,λb=>E b\/J b,λj=>?_,d,λj hj=>?_,C,λb=>Iff.rfl⟩),λb a=>?_⟩
 ·simp only[Vf];rw[Dw p.ht Z];exact B
 ·dsimp only;split
  ·exact hm
  ·exact h0 j
 ·dsimp only;by_cases Q:j=n
  ·subst Q;rw[if_pos rfl];exact⟨A2,cq,J,λb a=>.inr a,I,(Zx e2 k c (ls j) A2 cq).loc _ _ _ _ ag (l5 rfl V)⟩
  ·rw[if_neg Q];exact(Da e2 k c pre ls post).mono j E _ _ _ (λb a=>.inl a) ((Da e2 k c pre ls post).loc j E W _ _ ae (h3 j x3))
 ·rcases a with a|a
  ·refine⟨?_,(d.lt b a).2⟩;rcases O b a with h|h|h
   ·exact .inl ((D b).2 (.inl ((K b).2 (.inl h))))
   ·exact .inr (Su h.symm)
   ·exact .inr h
  ·refine⟨.inl ((D b).2 (a.elim (λh=>.inl ((K b).2 (.inr h))) .inr)),(C b a).2⟩
def JJ(w0:m0){t:Nat}(ty:Nat){m:Nat}(bt e2 k n n' cp2:Nat)(c:α->o3)(pre:Nat->o3)(ls:Nat->List α)(A A2:m3)(cp cq:Nat)(cs:o3)(R3:Res)(a:∀x S w,R3.φ x S w->(Zx e2 k c (ls n) A2 cq).φ x S w)(f:RowT P t d e m bytes)(i:∀u,u∈pre n->u.oneCell'=true)(j:n'=n+1)(l:(n+1)*bytes<=140737488355328)(b:cs=pre n++[.slice A2 (ls n).length cq])(o:cs.length=m):
  ∀W,Below w0.heap.size w0 W->∀g,Bx W g bt cs.toArray->∀x S,(Qj (Qx e m n (VU e2 k c pre ls) A cp) R3).φ x S W->Gc P W (λy:Hp=>.slice y.1 n' y.2) (λy:Hp=>Qx e m n' (VU e2 k c pre ls) y.1 y.2) x S (Vf .append #[t,d] ty [.slice A n cp,.slice (some ⟨g,0,none⟩) 1 cp2]) :=
 Wf _ _ _ _ _ _ _ _ _ _ _ (λ_=>[]) _ _ _ _ _ _ a f i (λ_ h=>nomatch h) j l b o
end
def tp{m:Nat}{c:α->o3}{l:List α}{A:m3}(f:∀x,(c x).length=m)(d:α){x:y9}(i:(Zx e m c l A cp).φ x S w)(j:∀b,S b->a<=b):SlV a m (λ_ x cs=>cs=c x) w l (.slice A l.length cp):=by
 rcases(show _\/_ from i)with h|⟨_,rfl,rfl,⟨g,rfl⟩,_⟩
 ·exact im f d h j
 ·exact⟨_,_,rfl,L4 _,λh=>(nomatch h),λh=>absurd h (T4 _)⟩
def bu{m n g:Nat}{p:Rdg β}{l:List β}{c:α->o3}{pre:Nat->o3}{ls:Nat->List α}{A:m3}{x:y9}(i:∀x,(c x).length=k)(d:α)(o:n=l.length)(q:(Qx e m n (VU g k c pre ls) A cp).φ x S w)(r:∀b,S b->a<=b)(s:∀j (h:j<l.length) v,SlV a k (λ_ x cs=>cs=c x) w (ls j) v->p w l[j] (pre j++[v])):SlV a m p w l (.slice A n cp) :=
 fV o q r λj h C cs f t=>by
  let⟨D,u,E,k1,y,z⟩:=t;rw[y];exact s j h _ (tp i d z λb B=>f b (k1 b B))
section
variable{α:Type}{e k cp:Nat}{c:α->List y9}{l:List α}{A:m3}{x:y9}{S:Nat->Prop}{w:m0}
def il(h:(Qc e k c l A cp).φ x S w)(s:0<l.length):x.oneCell'=true/\∃g a,A=some ⟨g,0,none⟩/\Bx w g e a/\l.length<=cp/\cp<=maxLen/\a.size=cp*k/\a.toList.take (l.length*k)=l.flatMap c/\∀b,S b↔b=g:=by
 let⟨f,i,j⟩:=(show _/\_/\_ from h)
 rcases i.2 with⟨_,t⟩|⟨g,cap,a,d,_,m,n,o,p,q⟩
 ·omega
 ·injection d with d _ r
  subst d;subst r;exact⟨f,g,a,rfl,(by simpa [Bx]using m),n,o,p,q,λb=>by rw[j];exact⟨λh=>(o7 h).symm,λh=>by rw[h];rfl⟩⟩
def ee(cur:x0g){g:Nat}(a:x.oneCell'=true)(d:Bx w g e cur)(f:l.length<=cp)(i:cp<=maxLen)(j:∀x,(c x).length=k)(m:cur.size=cp*k)(n:cur.toList.take (l.length*k)=l.flatMap c)(o:∀b,S b↔b=g):(Qc e k c l (some ⟨g,0,none⟩) cp).φ x S w :=
 (show _/\_/\_ from⟨a,⟨by rw[QT j],.inr ⟨g,cp,cur,rfl,L7 _,(by simpa [Bx]using d),f,i,m,n⟩⟩,λb=>by rw[o];exact⟨λh=>by rw[h];rfl,λh=>(o7 h).symm⟩⟩)
end
section
variable{P:z4}{w0:m0}{α:Type}{e k cp:Nat}{c:α->List y9}{A:m3}
theorem mY(b:∀x,(c x).length=k)(d:α){l:List α}{i o:Nat}{a:o3}(h:i<l.length){y:α}(g:spl (c (l.getD i d)) o a=c y)(e:o+a.length<=k):spl (l.flatMap c) (i*k+o) a=(l.set i y).flatMap c:=by
 rw[<- CW c l d,an (f:=λj=>c (l.getD j d)) (λj=>b _) h e,<- CW c (l.set i y) d,List.length_set]
 grind
theorem Iz(P:z4)(w0:m0)(e k cp:Nat)(c:α->o3)(A:m3)(t i o:Nat)(l l':List α)(v:y9)(y:α)(w:∀x,(c x).length=k)(d:α)(C:Yw P t=some ti)(D:spl (c (l.getD i d)) o v.cells.toList=c y)(m:v.cells.toList.length=ti.size)(E:o+ti.size<=k)(h:i<l.length)(F:∀u,u∈v.cells.toList->u.oneCell'=true)(G:l.set i y=l'):
  ∀W,Below w0.heap.size w0 W->∀x S,(Qc e k c l A cp).φ x S W->Gc P W (λ_:Unit=>undef) (λ_:Unit=>Qc e k c l' A cp) x S (GZ t [.pointer (some (Q5 A (i*k+o))),v]):=λW _ x S H=>by
 subst G;obtain⟨I,g,a,rfl,n,z,J,p,K,q⟩:=il H x3;have r:(i+1)*k<=l.length*k:=Lt _ x3;rw[Ru]at r;have s:l.length*k<=cp*k:=Lt _ z;have f:a.toList.length=cp*k:=by rw[Si,p]
 have B:=Vo P t (i*k+o) v C (show Bx W g e a.toList.toArray from n) (by rw[<- Si];exact m) (by rw[f];omega) F;refine⟨(),S,_,?_,Vm ((q g).2 rfl) v.cells.toList (i*k+o),ee ((spl a.toList (i*k+o) v.cells.toList).toArray) I (Bx.setL _ _ (show Bx W g e a.toList.toArray from n)) (by rw[List.length_set];exact z) J w (by rw[Rs,Gv,f]) ?_ q,λb j=>⟨.inl j,?_⟩⟩
 ·unfold GZ;simp_all[Q5]
 ·show(spl a.toList (i*k+o) v.cells.toList).take ((l.set i y).length*k)=_;rw[List.length_set,ap _ _ _ _ (by rw[m];omega) (by rw[f];exact s),K,mY w d h D (by rw[m];exact E)]
 ·rw[Jd,(q b).1 j];exact n.lt
def l7{α:Type}(e k n:Nat)(c:α->o3)(l:List α)(A:m3)(cp:Nat):Res where
 φ x S w:=(Qc e k c l A cp).φ x S w/\(∃g,A=some ⟨g,0,none⟩)/\n<=cp
 one x S w h:=(Qc e k c l A cp).one x S w h.1
 loc x S w w' h hφ:=⟨(Qc e k c l A cp).loc x S w w' h hφ.1,hφ.2⟩
def kG{t ty:o0}{z:y9}{l1 l2:List α}{B:m3}{cq:Nat}(D:∀x,(c x).length=k)(F:P.underlying t=some (.slice e))(L:∀w,(zeroValue e).run P w=.ok z w)(M:z.cells.size=k)(U:0<k)(N:∀u,u∈z.cells.toList->u.oneCell'=true)(O:0<l1.length+l2.length)(Q:∀g,A=some ⟨g,0,none⟩->l1.length+l2.length<=cp->0<l2.length->B=some ⟨g,l1.length*k,none⟩):
  ∀W,Below w0.heap.size w0 W->∀x S,(Qc e k c (l1++l2) A cp).φ x S W->Gc P W (λ_:Unit=>.tuple #[]) (λ_:Unit=>l7 e k (l1.length+l2.length) c l1 A cp) x S (Vf .clear #[t] ty [.slice B l2.length cq]):=λW _ x S R=>by
 obtain⟨G,g,a,rfl,p,q,E,r,h,s⟩:=il R (by rw[La];exact O);rw[La]at q h;have v:a.toList.length=cp*k:=by rw[Si,r]
 have y:(l1.length+l2.length)*k<=cp*k:=Lt _ q;rw[S8]at y;have d:∀m:o3,m.take ((l1.length+l2.length)*k)=(l1++l2).flatMap c->m.take (l1.length*k)=l1.flatMap c:=λm E=>by
  have H:=Lu (List.take (l1.length*k)) E;rw[List.take_take,Tg (by rw[S8];omega),Sj,List.take_append_of_le_length (by rw[QT D];exact L4 _)]at H;rw[H,Rh (by rw[QT D];exact L4 _)]
 cases l:l2.length with
 |zero =>
  refine⟨(),S,W,by cases B<;>simp[Vf,Builtin.clear_,run_underlying F],Trn.refl _ _,(show _/\_ from⟨ee _ G p x3 E D r (d _ h) s,⟨g,rfl⟩,l▸q⟩),λb f=>⟨.inl f,?_⟩⟩
  rw[(s b).1 f];exact p.lt
 |succ n =>
  rw[Q g rfl q x3];have I:(Builtin.zeroCells z.cells (n+1)).toList.length=(n+1)*k:=by simp[Builtin.zeroCells,M]
  rw[l]at y;have C:=Ao (P:=P) (g:=g) (bt:=e) (o:=l1.length*k) (Builtin.zeroCells z.cells (n+1)).toList 0 W a p (by rw[I];omega) (λu J=>by
   simp only[Builtin.zeroCells,Uu,Lv]at J;obtain⟨i,_,rfl⟩:=J;have T:i % z.cells.size<z.cells.size:=Re _ x3;rw[getElem!_pos z.cells (i % z.cells.size) T];exact N _ x6)
  simp only[T9]at C;refine⟨(),S,Dr W g (l1.length*k) (Builtin.zeroCells z.cells (n+1)).toList,by simp[Vf,Builtin.clear_,run_underlying F,L,C],Vm ((s g).2 rfl) _ _,(show _/\_ from⟨ee ((spl a.toList (l1.length*k) (Builtin.zeroCells z.cells (n+1)).toList).toArray) G (Bx.setL _ _ (show Bx W g e a.toList.toArray from p)) x3 E D (by rw[Rs,Gv,v]) ?_ s,⟨g,rfl⟩,l▸q⟩),λb f=>⟨.inl f,?_⟩⟩
  ·show(spl a.toList (l1.length*k) _).take (l1.length*k)=_;rw[<- d _ h];apply List.ext_getElem?;intro j;by_cases K:j<l1.length*k
   ·rw[b9 K,b9 K,Gu _ _ _ _ (by rw[v,I];omega),if_neg x3]
   ·rw[a8 (by rw[Ll];omega),a8 (by rw[Ll];omega)]
  ·rw[Jd,(s b).1 f];exact p.lt
end
