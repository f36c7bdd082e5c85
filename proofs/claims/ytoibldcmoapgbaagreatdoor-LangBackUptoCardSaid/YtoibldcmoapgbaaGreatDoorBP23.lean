/- Laws beneath the statement. -/
import Derived.Test.YtoibldcmoapgbaaGreatDoorBP22
import Derived.Test.YtoibldcmoapgbaaGreatDoorBP17
import Derived.Test.YtoibldcmoapgbaaGreatDoorBP18
import Derived.Lib.SmallJoins
namespace Go.Proofs.YtoibldcmoapgbaaGreatDoor
set_option linter.defProp false
open Tryz
set_option maxRecDepth 100000
open Go.RowKit Go.Lib
def j7(s:m1)(h:0<s.size):∃c l,s.data.toList=c::l/\c.toNat=byt s 0:=by
 have a:0<s.data.toList.length:=l3 h;cases e:s.data.toList with
 |nil=>rw[e]at a;cases a
 |cons c l=>refine⟨c,l,rfl,?_⟩;unfold byt;rw[e];rfl
open Go
def IC(W:World)(x y:Operand)(a b:ByteArray):Qp prog W (do eqGuard .eql 9 x y (.string a) (.string b);binOp .eql 9 (.string a) (.string b)) (.bool (decide (a=b))):=λd _=>by
 have h:(a.toList=b.toList)↔a=b:=by
  rw[S5,S5];exact⟨λh=>ByteArray.ext (l3 h),λh=>by rw[h]⟩
 simp[go_sem];by_cases e:a=b
 ·subst e;simp
 ·have:¬ a.toList=b.toList:=λc=>e (h.1 c)
  simp[e,this]
def wR(W:World)(x y:Operand)(a b:ByteArray):Qp prog W (do eqGuard .neq 9 x y (.string a) (.string b);binOp .neq 9 (.string a) (.string b)) (.bool (!decide (a=b))):=λd _=>by
 have h:(a.toList=b.toList)↔a=b:=by
  rw[S5,S5];exact⟨λh=>ByteArray.ext (l3 h),λh=>by rw[h]⟩
 simp[go_sem];by_cases e:a=b
 ·subst e;simp
 ·have:¬ a.toList=b.toList:=λc=>e (h.1 c)
  simp[e,this]
def SI(W:World)(x y:Operand)(a b:ByteArray)(c:a.size+b.size<=9223372036854775807):Qp prog W (do eqGuard .add 9 x y (.string a) (.string b);binOp .add 9 (.string a) (.string b)) (.string (a++b)):=λd _=>by
 have h:¬ 9223372036854775807<a.size+b.size:=x3;simp[go_sem,h]
def wO(W:m0)(s:m1)(i:Nat)(h:i<s.size):Qp prog W (Instr.index 9 (.string s) (.int .i64 (i:Int))) (.int .u8 (byt s i:Nat)):=λa _=>io s Tryz.underlying9 i h a
def wu{w0:m0}{f:FuncId}{args:x0g}{R:y9}(a:Tab10 w0)(b:Xt prog f)(h:∀W,Tab10 W->o4 prog f args W R):RetAt prog w0 f args R:=⟨b,λW d=>h W (a.later d)⟩
theorem QeD{n:Nat}(h:n<=1099511627776):IntKind.i64.wrap ((n:Int)+1)=((n+1:Nat):Int):=by grind[Le]
def jP{a b:Int}(h:(a==b)=true):a=b:=l3 h
def xV{a b:Int}(h:(a==b)=false):a≠b:=l3 h
open Go.Shelf
def Qd3:Ren:=⟨λ|166=>64|240=>101|276=>132|n=>n,λ|0=>0|3=>3|4=>4|5=>5|9=>9|20=>20|37=>82|70=>83|72=>85|75=>139|80=>96|164=>203|n=>n,λ|n=>n⟩
def laysW:Go.Proofs.Lays.n166 prog Qd3:=by repeat'(first|kernel_rfl|decide|intro w|constructor)
def extraW:Builder.Extra prog Qd3:=by repeat'(first|kernel_rfl|decide|intro w|constructor)
def lI(B b:Nat)(bs:o3)(s:m1)(w:m0)(h:Lib.IsBuilder 85 5 B b bs w)(a:bs.length+s.size<=140737488355328)(c:B<=w.heap.size):
 Calls prog 64 #[.pointer (some ⟨b,0,none⟩),.string s] w λe d=>e=.returned (.tuple #[.int .i64 s.size,.nilIface])/\(Lib.BuilderAt 85 5 B b (.pointer (some ⟨b,0,none⟩)) (bs++Lib.strCells s) d/\Below B w d):=Any.Builder_WriteString laysW extraW B b bs s w h a c
variable{ti:TI}
section
variable{P:z4}{w0:m0}{g:Nat}{t bt:o0}{cs vs:List y9}{M:Res}
def Q2{m:Sem y9}{R:y9}(h:∀W,Bx W g t cs.toArray->Qp P W m R):GJ P w0 [Qh g t cs M] m R:=λW _ x S a=>h W (show _/\_ from a).2.1 W (p5 _ _)
def YB(w0:m0)(g:Nat)(t:o0)(cs:o3)(M:Res){m:Sem y9}{R:y9}(h:∀W x S,M.φ x S W->Qp P W m R):GJ P w0 [Qh g t cs M] m R:=λW _ x S a=>by
 let⟨_,_,b,c,d,_⟩:=(show _/\_/\∃b c,_ from a)
 exact h W _ _ d W (p5 _ _)
theorem YN(w0:m0)(P:z4)(g:Nat)(bt:o0)(cs:o3)(M:Res)(t:o0)(vs:o3)(o:Nat)(v:y9)(m:Yw P t=some ti)(n:v.cells.toList=vs)(i:vs.length=ti.size)(p:o+vs.length<=cs.length)(q:∀u,u∈vs->u.oneCell'=true):
  ∀W,Below w0.heap.size w0 W->∀x S,(Qh g bt cs M).φ x S W->Gc P W (λ_:Unit=>undef) (λ_:Unit=>Qh g bt (spl cs o vs) M) x S (GZ t [.pointer (some ⟨g,o,none⟩),v]):=λW _ x S r=>by
 let⟨s,a,c,d,w,j,k,f⟩:=(show _/\_/\∃c d,_ from r)
 subst n;have l:=Vo P t o v m a (by rw[<- Si];exact i) (by rw[<- i];exact p) q;have h:∀b,c b->b≠g:=λb a e=>j (e▸a)
 refine⟨(),S,_,?_,Vm ((f g).2 (.inl rfl)) v.cells.toList o,(show _/\_/\∃c d,_ from⟨s,Bx.setL _ _ a,c,d,M.loc _ _ _ _ (λb a=>JC _ _ _ _ _ (h b a)) w,j,λb a=>by rw[Jd];exact k b a,f⟩),λb a=>⟨.inl a,?_⟩⟩
 ·unfold GZ;simp_all
 ·rw[Jd];rcases(f b).1 a with rfl|y
  ·exact a.lt
  ·exact k b y
end
variable{g:Nat}{w:m0}
theorem Vw{t:o0}{cs:o3}{M N:Res}(l:Pe N){x:y9}{S:Nat->Prop}(h:(Qj (Qh g t cs M) N).φ x S w):(Qh g t cs (Qj M N)).φ x S w:=by
 let⟨f,a,c,m,i,j,v⟩:=(show ∃f a c,_ from h)
 let⟨n,o,k,p,q,r,s,d⟩:=(show _/\_/\∃a c,_ from m)
 refine(show _/\_/\∃a c,_ from⟨n,o,λb=>k b\/a b,p,(show ∃f a c,_ from⟨k,a,c,q,i,λb e=>j b ((d b).2 (.inr e)),λ_=>Iff.rfl⟩),λu=>u.elim r (j g ((d g).2 (.inl rfl))),λb e=>e.elim (s b) (l _ _ _ i b),λb=>?_⟩)
 grind
theorem JE(g:Nat)(t:o0)(cs:o3)(M N:Res)(j:∀(x:y9) (S:Nat->Prop) (w:m0),N.φ x S w->N.φ (.bool false) S w)(x:y9)(S:Nat->Prop)(w:m0)(h:(Qh g t cs (Qj M N)).φ x S w):∃c a,(Qh g t cs M).φ x c w/\N.φ (.bool false) a w/\(∀b,c b->¬ a b)/\∀b,c b\/a b->S b:=by
 let⟨k,l,v,m,n,o,p,d⟩:=(show _/\_/\∃a e,_ from h)
 let⟨c,a,e,q,r,y,i⟩:=(show ∃c a e,_ from n)
 refine⟨λb=>b=g\/c b,a,(show _/\_/\∃a e,_ from⟨k,l,c,m,q,λs=>o ((i g).2 (.inl s)),λb f=>p b ((i b).2 (.inl f)),λ_=>Iff.rfl⟩),j _ _ _ r,λb f u=>?_,λb f=>(d b).2 ?_⟩;all_goals grind
variable{β:Type}
def YP(F:Res)(v:y9)(val:β->y9)(R1:Res)(R:β->Res)(y:β)(a:v=val y)(b:∀(x:y9) (S:Nat->Prop) (w:m0),R1.φ x S w->(R y).φ x S w):F=F/\∃y,v=val y/\∀(x:y9) (S:Nat->Prop) (w:m0),R1.φ x S w->(R y).φ x S w:=⟨rfl,y,a,b⟩
def KP(F:Res)(v:y9)(pn:y9->Prop)(h:pn v):F=F/\∃u,SV.val v=.val u/\pn u:=⟨rfl,v,rfl,h⟩
theorem Yf(F:Res)(pn pn':y9->Prop)(h:∀v,pn v->pn' v):∀v,pn v->F=F/\∃u,SV.val v=.val u/\pn' u:=by grind
section
variable{w0:m0}{A:m3}{n c k:Nat}{f:Nat->List y9}{g:Nat}{T:o0}{cs:List y9}
def KQ(w0:m0)(c:Nat)(a:RdK w0 A n k f)(i:Nat)(h:i<n):Qp prog w0 (Instr.indexAt 61 (.slice A n c) (.int .i64 (i:Int))) (.pointer (some (Q5 A (i*2+0)))):=Kr 2 (Qm 61 _ rfl) rfl x4 a h
def Y4(w0:m0)(c:Nat)(a:RdK w0 A n k f)(i:Nat)(h:i<n):Qp prog w0 (Instr.indexAt 63 (.slice A n c) (.int .i64 (i:Int))) (.pointer (some (Q5 A (i*2+0)))):=Kr 2 (Qm 63 _ rfl) rfl x4 a h
def cX(a:RdK w0 A n k f){i:Nat}(h:i<n):Qp prog w0 (Instr.indexAt 93 (.slice A n c) (.int .i64 (i:Int))) (.pointer (some (Q5 A (i*1+0)))):=Kr 1 (Qm 93 _ rfl) rfl x4 a h
def Qs(g:Nat)(o:Nat):Qp prog w0 (Instr.fieldAt 69 (.pointer (some ⟨g,o,none⟩)) 0) (.pointer (some ⟨g,o+0,none⟩)):=ZI 4 (Qm 69 _ rfl) rfl rfl x4
def Qf(g:Nat)(o:Nat):Qp prog w0 (Instr.fieldAt 69 (.pointer (some ⟨g,o,none⟩)) 1) (.pointer (some ⟨g,o+4,none⟩)):=ZI 14 (Qm 69 _ rfl) rfl rfl x4
def NK(b:RdK w0 A n k f){i o:Nat}(a:i<n)(c:o+2<=k){l:o3}(d:l.length=2)(e:((f i).drop o).take 2=l):Qp prog w0 (Instr.loadAt 65 (.pointer (some (Q5 A (i*k+o))))) (.agg l.toArray):=CS (Qm 65 _ rfl) rfl b a d c e
def NL(b:RdK w0 A n k f){i o:Nat}(a:i<n)(c:o+2<=k){l:o3}(d:l.length=2)(e:((f i).drop o).take 2=l):Qp prog w0 (Instr.loadAt 102 (.pointer (some (Q5 A (i*k+o))))) (.agg l.toArray):=CS (Qm 102 _ rfl) rfl b a d c e
def Ym(w0:m0)(o:Nat)(a:Bx w0 g T cs.toArray){v:y9}(b:cs[o]?=some v):Qp prog w0 (Instr.loadAt 61 (.pointer (some ⟨g,o,none⟩))) v:=D9 (Qm 61 _ rfl) rfl a b
def GT(w0:m0)(b:RdK w0 A n k f)(i o:Nat)(a:i<n)(c:o<k){v:y9}(d:(f i)[o]?=some v):Qp prog w0 (Instr.loadAt 63 (.pointer (some (Q5 A (i*k+o))))) v:=B0 (Qm 63 _ rfl) rfl b a c d
def Y5(w0:m0)(o:Nat)(a:Bx w0 g T cs.toArray){v:y9}(b:cs[o]?=some v):Qp prog w0 (Instr.loadAt 63 (.pointer (some ⟨g,o,none⟩))) v:=D9 (Qm 63 _ rfl) rfl a b
end
def ZY:RowT prog 48 48 32 3 32:=⟨x5,⟨32,x5⟩,x5,x4,x4⟩
def CE:RowT prog 48 57 32 3 32:=⟨x5,⟨32,x5⟩,x5,x4,x4⟩
def M7:RowT prog 166 166 48 1 24:=⟨x5,⟨48,x5⟩,x5,x4,x4⟩
def Kv:RowT prog 25 25 57 1 24:=⟨x5,⟨57,x5⟩,x5,x4,x4⟩
def ef:RowT prog 23 23 76 6 64:=⟨x5,⟨76,x5⟩,x5,x4,x4⟩
def Xg:RowT prog 28 28 52 2 32:=⟨x5,⟨52,x5⟩,x5,x4,x4⟩
def Am:RowT prog 33 33 54 6 72:=⟨x5,⟨54,x5⟩,x5,x4,x4⟩
def XN:RowT prog 50 50 56 4 48:=⟨x5,⟨56,x5⟩,x5,x4,x4⟩
def RX:RowT prog 231 231 3 1 8:=⟨x5,⟨3,x5⟩,x5,x4,x4⟩
def tabG(g n:Nat)(e e2:o0)(Q As cs:Nat->Nat)(M:Nat->Nat->Int):Res where
 φ x S w:=x.oneCell'=true/\(∃l:o3,Bx w g e l.toArray/\∀i,i<n->l[i]?=some (.slice (some ⟨As (Q i),0,none⟩) n (cs (Q i))))/\(∀i,i<n->∃l:o3,Bx w (As i) e2 l.toArray/\∀j,j<n->l[j*2]?=some (.bool (neg (M i j)))/\l[j*2+1]?=some (.string (QJ (M i j))))/\(∀i j,i<n->j<n->i≠j->As i≠As j)/\(∀i,i<n->As i≠g)/\∀b,S b↔b=g\/∃i,i<n/\b=As i
 one _ _ _ h:=h.1
 loc x S w w' h hφ:=by
  let⟨d,⟨l,f,m⟩,o,p,q,a⟩:=hφ;exact⟨d,⟨l,(h g ((a g).2 (.inl rfl))).trans f,m⟩,λi c=>(o i c).imp λl k=>⟨(h _ ((a _).2 (.inr ⟨i,c,rfl⟩))).trans k.1,k.2⟩,p,q,a⟩
variable{b:Option Bool}
section
variable{P:z4}{w0:m0}{t:o0}{ti:TI}{g n:Nat}{e e2:o0}{Q As cs:Nat->Nat}{M:Nat->Nat->Int}{i j:Nat}
def Et(w0:m0)(g n:Nat){z a:Nat}(o m p:Nat)(c:Nat)(d:Yw P t=some ti)(e:ti.k=.slice z a b)(f:a≠0)(h:m<n)(i:o+m*a=p):Qp P w0 (Instr.indexAt t (.slice (some ⟨g,o,none⟩) n c) (.int .i64 (m:Int))) (.pointer (some ⟨g,p,none⟩)):=λW _=>i▸AR d e h f
theorem Oy(g n:Nat){z a:Nat}(o m p:Nat)(c:Nat)(d:Yw P t=some ti)(e:ti.k=.slice z a b)(f:a≠0)(h:m<n)(i:o+m*a=p):∀W,(Instr.indexAt t (.slice (some ⟨g,o,none⟩) n c) (.int .i64 (m:Int))).run P W=.ok (.pointer (some ⟨g,p,none⟩)) W:=by grind[AR]
theorem QfL{z:Nat}{a:Option Bool}{c k:Nat}(b:Yw P t=some ti)(d:ti.k=.slice z 1 a)(f:k<n)(e:n<=c):Qp P w0 (Instr.sliceAt t (.slice (some ⟨g,0,none⟩) n c) (some (.int .i64 (k:Int))) none none) (.slice (some ⟨g,k,none⟩) (n-k) (c-k)):=λW _=>by
 have h:=JO P W g 0 n c k n (some (.int .i64 (k:Int))) none b d x4 (.inr ⟨.i64,rfl⟩) (.inl ⟨rfl,rfl⟩) x3 e (t:=t)
 grind
def G1(w0:m0)(g n:Nat)(e e2:o0)(Q As cs:Nat->Nat)(M:Nat->Nat->Int)(i:Nat)(a:Yw P t=some ti)(b:ti.k.agg=false)(h:i<n):GJ P w0 [tabG g n e e2 Q As cs M] (Instr.loadAt t (.pointer (some ⟨g,i,none⟩))) (.slice (some ⟨As (Q i),0,none⟩) n (cs (Q i))):=λW _ x S c=>by
 let⟨_,⟨l,d,f⟩,_⟩:=(show _/\(∃l:o3,_)/\_ from c)
 exact D9 (w0:=W) a b d (f i h) W (p5 _ _)
def O6(w0:m0)(g n:Nat)(e e2:o0)(Q As cs:Nat->Nat)(M:Nat->Nat->Int)(i j:Nat){z:Int}(b:Yw P t=some ti)(c:ti.k.agg=true)(a:ti.size=2)(h:i<n)(d:j<n)(f:M i j=z):GJ P w0 [tabG g n e e2 Q As cs M] (Instr.loadAt t (.pointer (some ⟨As i,j*2,none⟩))) (.agg #[.bool (neg z),.string (QJ z)]):=λW _ x S m=>by
 let⟨_,_,p,_⟩:=(show _/\_/\(∀i,i<n->_)/\_ from m)
 let⟨l,q,r⟩:=p i h;let⟨k1,s⟩:=r j d;let⟨u,v⟩:=c9.1 k1;let⟨b1,b2⟩:=c9.1 s;have h:=di (w0:=W) (o:=j*2) b c q (by rw[a];omega) W (p5 _ _);rw[a,Tb u,Tb b1,v,b2,f]at h;exact h
def QbW{H:Nat->Nat->Int}{z:Int}(N:Yw P t=some ti)(I:ti.size=2)(f:i<n)(O:j<n)(J:∀c a,c<n->a<n->(if c=i/\a=j then z else M c a)=H c a):∀W,Below w0.heap.size w0 W->∀x S,(tabG g n e e2 Q As cs M).φ x S W->Gc P W (λ_:Unit=>undef) (λ_:Unit=>tabG g n e e2 Q As cs H) x S (GZ t [.pointer (some ⟨As i,j*2,none⟩),.agg #[.bool (neg z),.string (QJ z)]]):=λW _ x S R=>by
 let⟨T,⟨l,K,U⟩,C,m,s,D⟩:=(show _/\(∃l:o3,_)/\_ from R)
 let⟨E,u,w⟩:=C i f;have p:j*2+2<=E.length:=hA ((c9.1 (w j O).2).1);have y:=Vo P t (j*2) (.agg #[.bool (neg z),.string (QJ z)]) N u (by rw[I];rfl) (by rw[I];exact p) (Lg.1 rfl);refine⟨(),S,Dr W (As i) (j*2) [.bool (neg z),.string (QJ z)],by unfold GZ;rw[c7,y];rfl,Vm ((D (As i)).2 (.inr ⟨i,f,rfl⟩)) _ _,(show _/\(∃l:o3,_)/\_ from⟨T,⟨l,(JC _ _ _ _ _ (s i f).symm).trans K,U⟩,λc k=>?_,m,s,D⟩),λb A=>⟨.inl A,?_⟩⟩
 ·by_cases r:c=i
  ·subst r;have q:∀a o,o<2->(spl E (j*2) [.bool (neg z),.string (QJ z)])[a*2+o]?=if a=j then([.bool (neg z),.string (QJ z)]:o3)[o]? else E[a*2+o]?:=λa o Z=>by
    rw[Gu _ _ _ _ p];by_cases e:a=j
    ·subst e;rw[if_pos ⟨x3,by show _<_+2;omega⟩,if_pos rfl,Sq]
    ·rw[if_neg (by show ¬(_/\_<_+2);omega),if_neg e]
   refine⟨_,Bx.setL _ _ u,λa d=>?_⟩;rw[<- J c a k d];have B:=q a 0 x4;have q1:=q a 1 x4;have L:=w a d;by_cases e:a=j
   ·rw[if_pos e]at B q1;rw[if_pos ⟨rfl,e⟩];exact⟨B,q1⟩
   ·rw[if_neg e]at B q1;rw[if_neg (λh=>e h.2)];exact⟨B.trans L.1,q1.trans L.2⟩
  ·let⟨V,F,G⟩:=C c k;exact⟨V,(JC _ _ _ _ _ (m c i k f r)).trans F,λa d=>by rw[<- J c a k d,if_neg (λh=>r h.1)];exact G a d⟩
 ·rw[Jd];rcases(D b).1 A with rfl|⟨c,X,rfl⟩
  ·exact K.lt
  ·let⟨_,Y,_⟩:=C c X;exact Y.lt
def SM(w0:m0)(P:z4)(g n:Nat)(e e2:o0)(Q As cs:Nat->Nat)(M:Nat->Nat->Int)(i:Nat)(r:Nat)(Q':Nat->Nat)(s:Nat->Nat)(G:Yw P t=some ti)(D:ti.size=1)(w:i<n)(d:∀x,x<n->s x<n)(y:∀x,s (s x)=x)(H:∀x,x<n->(if x=i then r else Q x)=s (Q' x)):∀W,Below w0.heap.size w0 W->∀x S,(tabG g n e e2 Q As cs M).φ x S W->Gc P W (λ_:Unit=>undef) (λ_:Unit=>tabG g n e e2 Q' (λx=>As (s x)) (λx=>cs (s x)) (λx j=>M (s x) j)) x S (GZ t [.pointer (some ⟨g,i,none⟩),.slice (some ⟨As r,0,none⟩) n (cs r)]):=λW _ x S I=>by
 let⟨J,⟨l,z,E⟩,F,m,p,A⟩:=(show _/\(∃l:o3,_)/\_ from I)
 have f:i+1<=l.length:=(c9.1 (E i w)).1;have q:=Vo P t i (.slice (some ⟨As r,0,none⟩) n (cs r)) G z (by rw[D];rfl) (by rw[D];exact f) (Lg.1 rfl);refine⟨(),S,Dr W g i [.slice (some ⟨As r,0,none⟩) n (cs r)],by unfold GZ;rw[c7,q];rfl,Vm ((A g).2 (.inl rfl)) _ _,(show _/\(∃l:o3,_)/\_ from⟨J,⟨_,Bx.setL _ _ z,λc a=>?_⟩,λc a=>(F _ (d c a)).imp λL k=>⟨(JC _ _ _ _ _ (p _ (d c a))).trans k.1,k.2⟩,λc N a B C=>m _ _ (d _ a) (d _ B) λe=>C (by rw[<- y c,e,y]),λc a=>p _ (d c a),λb=>(A b).trans (or_congr Iff.rfl ⟨λ⟨c,a,e⟩=>⟨s c,d c a,by show b=As (s (s c));rw[y];exact e⟩,λ⟨c,a,e⟩=>⟨s c,d c a,e⟩⟩)⟩),λb u=>⟨.inl u,?_⟩⟩
 ·show _=some (Value.slice (some ⟨As (s (Q' c)),0,none⟩) n (cs (s (Q' c))));rw[Gu _ _ _ _ f,<- H c a];by_cases h:c=i
  ·subst h;rw[if_pos ⟨L4 _,x6⟩,if_pos rfl,Tp];rfl
  ·rw[if_neg x7,if_neg h];exact E c a
 ·rw[Jd];rcases(A b).1 u with rfl|⟨c,K,rfl⟩
  ·exact z.lt
  ·let⟨_,d,_⟩:=F c K;exact d.lt
def Nr{a:Nat->Nat->Int}(h:∀i j,i<n->j<n->M i j=a i j){x:y9}{S:Nat->Prop}{w:m0}(d:(tabG g n e e2 Q As cs M).φ x S w):(tabG g n e e2 Q As cs a).φ x S w:=by
 let⟨f,m,o,p⟩:=(show _/\_/\(∀i,i<n->∃l:o3,_)/\_ from d)
 exact⟨f,m,λi b=>(o i b).imp λl k=>⟨k.1,λj c=>h i j b c▸k.2 j c⟩,p⟩
theorem iG(k p x:Nat):DU k p (DU k p x)=x:=by
 grind[DU]
def Cel.bx{w:m0}{g:Nat}{t:o0}{T:Nat}{f:Nat->y9}(h:Cel w g t T f):∃l:o3,Bx w g t l.toArray/\∀j,j<T->l[j]?=some (f j):=by
 let⟨a,b,_,c⟩:=h;exact⟨a.toList,by simpa [Bx]using b,λj d=>by rw[Array.getElem?_toList];exact c j d⟩
theorem OwnTT.tabG{w:m0}{base:Nat}{v:y9}(h:OwnTT w base e e2 2 v n n (λi=>CK (M i)))(P:0<n):∃g c As cs S,v=.slice (some ⟨g,0,none⟩) n c/\n<=c/\(tabG g n e e2 (λx=>x) As cs M).φ (.bool false) S w/\∀b,S b->base<=b/\b<w.heap.size:=by
 let⟨As,cs,A,B,K,L⟩:=h;obtain⟨g,c,rfl⟩:∃g c,v=.slice (some ⟨g,0,none⟩) n c:=by
  rcases A.2 with⟨_,N⟩|⟨g,cap,o,rfl,_⟩
  all_goals grind
 let⟨G,C,p,_,q,O⟩:=OwnK.cel (k:=1) (λ_=>rfl) A;let⟨l,r,s⟩:=C.bx;have d:∀i,i<n->As i=some ⟨((As i).getD ⟨0,0,none⟩).block,0,none⟩:=λi a=>by
  rcases(B i a).2 with⟨_,N⟩|⟨b,cap,o,D,_⟩
  all_goals grind
 have key:∀i,i<n->base<=((As i).getD ⟨0,0,none⟩).block/\∃l:o3,Bx w ((As i).getD ⟨0,0,none⟩).block e2 l.toArray/\∀j,j<n->l[j*2]?=some (.bool (neg (M i j)))/\l[j*2+1]?=some (.string (QJ (M i j))):=λi a=>by
  have E:=B i a;rw[d i a]at E;let⟨F,t,H,_,u,I⟩:=OwnK.cel (k:=2) (λ_=>rfl) E;let⟨l,k1,m⟩:=t.bx;exact⟨u,l,k1,λj f=>by
   rw[m _ x3,m _ x3];exact⟨(I j f 0 x4).symm,(I j f 1 x4).symm⟩⟩
 refine⟨g,c,λi=>((As i).getD ⟨0,0,none⟩).block,cs,λb=>b=g\/∃i,i<n/\b=((As i).getD ⟨0,0,none⟩).block,rfl,p,(show _/\(∃l:o3,_)/\_ from⟨rfl,⟨l,r,λi a=>?_⟩,λi a=>(key i a).2,λi j a f y=>L i j ⟨_,0,none⟩ ⟨_,0,none⟩ a f y (d i a) (d j f),λi a D=>K i _ a (d i a) (by rw[<- D];rfl),λ_=>Iff.rfl⟩),λb z=>?_⟩
 ·have J:=O i a 0 x4;rw[s i x3,<- d i a];rw[Sz,T9]at J;exact J.symm
 ·rcases z with rfl|⟨i,a,rfl⟩
  ·exact⟨q,C.lt⟩
  ·let⟨k1,_,m,_⟩:=key i a;exact⟨k1,m.lt⟩
end
variable{e:Int}
def ox{z:Int}{x:Dyadic}(h:dy z e=x)(d:Zr z<=536870912)(a:-4611686018427387904<=e)(b:e<=4611686018427387904)(W:m0)(f:QV W):o4 prog 90 #[.agg #[.bool (neg z),.string (QJ z)],.int .i64 e] W (vN x):=by
 have c:=AF (QJ z) (neg z) e W (by rw[XU];exact d) a b f;rw[Xp,h]at c;exact c
variable{f:Int}{b:Bool}{s:m1}
def Qb6{c:Bool}{t:m1}(h:Bx w g 32 #[.bool b,.string s,.int .i64 e,.bool c,.string t,.int .i64 f]):RdK w (some ⟨g,0,none⟩) 2 3 λj=>Xk (if j=0 then⟨b,s,e⟩else⟨c,t,f⟩):=λ_=>⟨g,0,rfl,λj a i d=>by
 rw[h.cel];rcases(by omega:j=0\/j=1)with rfl|rfl<;>rcases(by omega:i=0\/i=1\/i=2)with rfl|rfl|rfl<;>rfl⟩
variable{y:Dyadic}{L:Nat}
def zd{c:Bool}{t:m1}{x:Dyadic}{A:Nat}(G:ND b s e x)(H:ND c t f y)(I:DB L A x)(J:L+A<=3000000)(w:m0)(d:QV w)(K:RdK w (some ⟨g,0,none⟩) 2 3 λj=>Xk (if j=0 then⟨b,s,e⟩else⟨c,t,f⟩)):RetAt prog w 173 #[Ω (some ⟨g,0,none⟩) 2 2] (vN (x+y)):=by
 have a:∀ {z:Int},Zr z<=300000000->Zr z<=536870912:=λh=>L6 h x4
 let⟨k1,k,l,q,r,B,q1,S,v1,M⟩:=Fg oJ G;let⟨C,m,n,u,v,D,E,T,U,N⟩:=Fg (WC I x3) H;have O:=ox (z:=k+l) (e:=k1) (x:=x) (by rw[<- PK,q,r,Dyadic.zero_add]) (L6 (DX B q1) x4) x3 x3;have P:=ox (z:=m+n) (e:=C) (x:=x+y) (by rw[<- PK,u,v]) (L6 (DX D E) x4) x3 x3;exact
 rk [x05 2 1 (iV 2),.unr 3,x03 4 0 (.pointer (some (Q5 (some ⟨g,0,none⟩) (0*3+0)))),x03 4 1 (rN b s e),x04 5 2 (.agg [iV k1,bV (neg k),sV (QJ k),bV (neg l),sV (QJ l)]),.reg 9 [],x04 6 5 (.agg [bV (neg (k+l)),sV (QJ (k+l))]),x04 6 8 (.val (vN x)),x05 7 0 (iV 1),x03 4 0 (.pointer (some (Q5 (some ⟨g,0,none⟩) (1*3+0)))),x03 4 1 (rN c t f),x04 5 2 (.agg [iV C,bV (neg m),sV (QJ m),bV (neg n),sV (QJ n)]),.reg 9 [],x04 6 5 (.agg [bV (neg (m+n)),sV (QJ (m+n))]),x04 6 8 (.val (vN (x+y))),x05 7 0 (iV 2)] λW F Q=>have d:=Ql d F;have p:=K.up F (λ_=>rfl);Yx (show(((2:Nat):Int):Int)=2 from rfl) (Gi 2 _ p 0 (by decide:0<2)) (JW p 0 0 (by decide:0<2) x4 rfl rfl) (rt d call98 M.out) (rg0 W call176 λR g h=>yi (a B) (a q1) h) (rt d call90 O) (show(IntKind.i64.wrap (0+1):Int)=1 from rfl) (Gi 2 _ p 1 (by decide:1<2))<|KJ (JW p 1 0 (by decide:1<2) x4 rfl rfl) (rt d call98 N.out) (rg0 W call176 λR g h=>yi (a D) (a E) h) (rt d call90 P) (show(IntKind.i64.wrap (1+1):Int)=2 from rfl)<|Q
variable{d:Nat}
def lA{c:Bool}{t:m1}{x:Dyadic}(i:ND b s e x)(j:ND c t f y)(k:DB L d x)(a:L+d<=3000000)(l:QV w)(h:Bx w g 32 #[.bool b,.string s,.int .i64 e,.bool c,.string t,.int .i64 f]):
 o4 prog 173 #[.slice (some ⟨g,0,none⟩) 2 2] w (vN (x+y)):=(zd i j k a w l (Qb6 h)).at
theorem Qen{c:Bool}{t:m1}{x:Dyadic}{i:Nat}(l:ND b s e x)(a:ND c t f y)(m:DB L i x)(n:DB L i y)(j:L+i<=3000000)(w:m0)(d:QV w):RetAt prog w 127 #[rN b s e,rN c t f] (vN (x-y)):=by
 have p:∀W,QV W->o4 prog 174 #[rN c t f] W (vN (-y)):=λW h=>by
  have c:=ml t c f W (L6 a.size x4) (hA a.lo) (hA a.hi) h;rwa [a.val]at c
 have q:∀W g,QV W->Bx W g 32 #[Ξ b,Ψ s,Θ e,Ξ (neg (dm (-y))),Ψ (QJ (dm (-y))),Θ (de (-y))]->o4 prog 173 #[Ω (some ⟨g,0,none⟩) 2 2] W (vN (x-y)):=λW g h u=>by
  have c:=lA l (WC (zx n) x3) m j h u;rwa [show x + -y=x-y by grind]at c
 exact
 rk [.reg 5 [],x04 1 2 (.val (vN (-y))),x04 1 4 (.val (vN (x-y)))] λW v z=>have d:=Ql d v;X0 (rt d call174 p) (rg1 d call173 q)<|z
variable{a:Nat}
def Qem{c:Bool}{t:m1}{x:Dyadic}(w:m0)(g:ND b s e x)(h:ND c t f y)(i:DB L a x)(j:DB L a y)(d:L+a<=3000000)(k:QV w):
 o4 prog 127 #[rN b s e,rN c t f] w (vN (x-y)):=(Qen g h i j d w k).at
structure KS where
 k:Nat
 As:Nat->Nat
 cs:Nat->Nat
 M:Nat->Nat->Int
 l:Int
 tb:Bool
def KS.A(a:KS)(z i:Nat):Nat:=a.As (DU a.k (a.k+z) i)
def KS.c(a:KS)(z i:Nat):Nat:=a.cs (DU a.k (a.k+z) i)
def KS.m(a:KS)(z i j:Nat):Int:=a.M (DU a.k (a.k+z) i) j
def KS.t(a:KS)(z:Nat):Bool:=if a.k+z=a.k then a.tb else !a.tb
def KS.x(a:KS)(z:Nat):KS:=⟨a.k+1,a.A z,a.c z,Eg a.k a.l (a.m z),a.m z a.k a.k,a.t z⟩
def KZ(n S:Nat)(M0:Nat->Nat->Int)(a:KS)(z:Nat):Prop:=(∀i j,a.k<i->i<n->a.k<j->j<n->(a.m z i j*a.m z a.k a.k-a.m z i a.k*a.m z a.k j) % a.l=0)/\BInv n S M0 (a.k+1) (Eg a.k a.l (a.m z)) (a.m z a.k a.k) (a.t z)/\(∀i j,i<n->j<n->Zr (a.m z i j)<=100000000)/\Zr a.l<=100000000/\a.l≠0
section
variable{n S z:Nat}{M0:Nat->Nat->Int}{a:KS}
def dd(h:BInv n S M0 a.k a.M a.l a.tb)(g:n<=4)(c:a.k<n)(b:a.k+z<n/\a.M (a.k+z) a.k≠0)(d:256*(S+3)<=100000000):
  KZ n S M0 a z:=by
 have f:=h.step g c (Rm _ _) b.1 b.2;have e:a.m z a.k a.k=a.M (a.k+z) a.k:=by unfold KS.m;rw[qQ]
 exact⟨f.1,e▸f.2,λi j o p=>qR x3 d (h.sm _ _ (V5 c b.1 o) p),qR x3 d h.sl,h.ne⟩
theorem un(a:KS)(h:z=0):a.As=a.A z/\a.cs=a.c z/\a.M=a.m z/\a.tb=a.t z:=by
 grind[DU,KS.A,KS.c,KS.m,KS.t]
theorem Qdi(h:¬ z=0):(!a.tb)=a.t z:=by grind[KS.t]
def gc(p q:Operand){x y z:Int}(h:IntKind.i64.wrap (x+y)=z):∀W,(do eqGuard .add 3 p q (.int .i64 x) (.int .i64 y);binOp .add 3 (.int .i64 x) (.int .i64 y):Sem Value).run prog W=.ok (.int .i64 z) W:=λW=>by
 subst h;simp[go_sem]
theorem Qeb{x:Int}(h:(JZ x != 0)=false):x=0:=by
 grind[JZ]
def qt{x:Int}(h:(JZ x != 0)=true):x≠0:=λe=>by subst e;cases h
def i7{x y:Int}{g:Nat}(W:m0)(b:Zr x<=100000000)(c:Zr y<=100000000)(h:Bx W g 30 #[.bool (neg x),.string (QJ x),.bool (neg y),.string (QJ y)]):
  o4 prog 170 #[.slice (some ⟨g,0,none⟩) 2 2] W (vI (x*y)):=by
 have h:=se _ 2 2 _ _ 134217728 W x4 x4 (λj=>by split<;>(rw[XU];omega)) x4 (pV h)
 have e:Vb (λj=>Qe (if j=0 then neg x else neg y) (Qa (if j=0 then QJ x else QJ y))) 2=x*y:=by
  show(1*Qe (neg x) (Qa (QJ x)))*Qe (neg y) (Qa (QJ y))=_;simp[Xp]
 rwa [e]at h
def xG{x y:Int}(b:Zr x<=200000000)(d:Zr y<=200000000)(w:m0):RetAt prog w 130 #[vI x,vI y] (vI (x-y)):=⟨λa w=>call130 a w,λW _=>by
 have c:=Nw (QJ x) (QJ y) (neg x) (neg y) W (by rw[XU];omega) (by rw[XU];omega);rw[Xp,Xp]at c;exact c⟩
def QeC(w:m0):RetAt prog w 165 #[.int .i64 1] (vI 1):=⟨λa w=>call165 a w,λW _=>Cm 1 W x4 x4⟩
def xB{x y:Int}(d:Zr x<=100000000+100000000+1)(e:Zr y<=100000000)(b:y≠0)(c:x % y=0)(w:m0):RetAt prog w 171 #[vI x,vI y] (.tuple #[vI (x / y),vI (x % y),.bool true]):=⟨λa w=>call171 a w,λW _=>xz W x3 x3 b c⟩
def xC(x:Int)(w:m0):RetAt prog w 172 #[vI x] (vI (-x)):=⟨λa w=>call172 a w,λW _=>by
 have c:=E4 (QJ x) (neg x) W;rw[Xp]at c;exact c⟩
def sf(z:Int)(w:m0):RetAt prog w 97 #[vI z] (.int .i64 (JZ z)):=⟨λa w=>call97 a w,λW _=>by
 have c:=GI (QJ z) (neg z) W;rw[Xp]at c;exact c⟩
end
variable{k:Nat}
theorem Qdj{q x:Nat}:(if x=k+q then k else if x=k then k+q else x)=DU k (k+q) x:=by
 grind[DU]
abbrev Hxa(a:KS):=some (3,[iV (a.k:Int)])
abbrev Hxb:=some (30,[bV false,sV ⟨#[]⟩])
abbrev Hxc(a:KS):=some (30,[bV (neg a.l),sV (QJ a.l)])
abbrev Hxd(a:KS)(z:Nat)(i:Nat)(j:Nat):=a.m z i j*a.m z a.k a.k-a.m z i a.k*a.m z a.k j
abbrev Hxe(g:Nat)(a:KS)(q:Nat)(n:Nat):=λ(E:Unit)=>([.pur 18,x03 10 18 (.pointer (some ⟨g,a.k+q,none⟩)),x08 10 19 0 (λ(I:Unit)=>(undef,tabG g n 242 30 (λx=>x) (a.A q) (a.c q) (a.m q),[.nxc q []]))]:List Dir)
abbrev Hxf(g:Nat)(n:Nat)(c:Nat):y9:=.slice (some ⟨g,0,none⟩) n c
abbrev Hxg(g:Nat)(a:KS):m3:=some ⟨g,a.k,none⟩
abbrev Hxh(a:KS)(z:Nat)(i:Nat)(j:Nat):=Yu a.k a.l (a.m z) i j
abbrev Hxi(a:KS)(q:Nat)(n:Nat):y9:=.slice (some ⟨a.As (a.k+q),0,none⟩) n (a.cs (a.k+q))
abbrev Hxj(a:KS)(z:Nat)(i:Nat):=Yu a.k a.l (a.m z) i (a.k+1)
abbrev Hxk(a:KS)(z:Nat)(n:Nat):y9:=.slice (some ⟨(a.A z) a.k,0,none⟩) n ((a.c z) a.k)
abbrev Hxl(g:Nat)(a:KS)(n:Nat)(c:Nat):y9:=.slice (Hxg g a) (n-a.k) (c-a.k)
abbrev Hxm:=λ(E:Unit)=>undef
abbrev Hxn(a:KS)(z:Nat):y9:=.agg #[.bool (neg (a.m z a.k a.k)),.string (QJ (a.m z a.k a.k))]
abbrev Hxo(g:Nat)(a:KS):y9:=.pointer (Hxg g a)
abbrev Hxp(a:KS)(z:Nat)(i:Nat)(n:Nat):y9:=.slice (some ⟨(a.A z) i,0,none⟩) n ((a.c z) i)
def jf(g:Nat){n c:Nat}(S:Nat)(As cs:Nat->Nat){M0:Nat->Nat->Int}(C:n<=4)(O:256*(S+3)<=100000000)(T:n<=c)(U:BInv n S M0 0 M0 1 false)(W:m0):FxF prog W (tabG g n 242 30 (λx=>x) As cs M0) 126 #[Ω (some ⟨g,0,none⟩) n c] (λ_:Unit=>vI (KI n M0)) (λ_=>anyR) (λ_=>False) :=
 VC (β:=Unit) Qm QU (λa w=>call126 a w) func126 ntmps126 results126 _ rfl _ _ _ _ [x04 2 0 (.agg [bV (neg (1)),sV (QJ (1))]),.loop (λ(a:KS)=>(⟨120,[(0,lV (some ⟨g,0,none⟩) n c),(2,.ptr 0 0),(3,iV (n:Int)),(4,.ptr 1 0),(5,bV a.tb),(14,iV (n:Int)),(15,iV (a.k:Int))],[none,some (30,[bV (neg a.l),sV (QJ a.l)])],[some (tabG g n 242 30 (λx=>x) a.As a.cs a.M),none]⟩:St)) (λ(a:KS)=>(a.k<=n/\BInv n S M0 a.k a.M a.l a.tb)) (λ(a:KS)=>(n-a.k)) (⟨0,As,cs,M0,1,false⟩:KS) (λ(a:KS) z=>a.x z) (λ(a:KS)=>[.both [x03 6 2 (Hxl g a n c),.inl 6 4 f168,.loop (λ(q:Nat)=>(⟨19,[(0,lV (Hxg g a) (n-a.k) (c-a.k)),(1,.clo (.func 169) [] [.ptr 2 0]),(6,lV (Hxg g a) (n-a.k) (c-a.k)),(7,iV (((n-a.k):Nat):Int)),(8,iV (q:Int))],[none,none,none],[none,none]⟩:St)) (λ(q:Nat)=>(q<=n-a.k/\∀x,x<q->a.M (a.k+x) a.k=0)) (λ(q:Nat)=>(n-a.k-q)) (0:Nat) (λ(q:Nat) _=>q+1) (λ(q:Nat)=>[.both [x03 4 3 (.pointer (some ⟨g,a.k+q,none⟩)),x06 4 4 [0] (Hxi a q n),.inl 4 5 f169,x03 1 2 (.pointer (some ⟨a.As (a.k+q),a.k*2,none⟩)),x06 1 3 [0] (.agg #[Ξ (neg (a.M (a.k+q) a.k)),Ψ (QJ (a.M (a.k+q) a.k))]),x04 1 4 (iV (JZ (a.M (a.k+q) a.k))),.both [.br false,.cut 12 (λ(z:Nat)=>(⟨120,[(0,lV (some ⟨g,0,none⟩) n c),(2,.ptr 0 0),(3,iV (n:Int)),(4,.ptr 1 0),(5,bV (a.t z)),(6,.ptr 2 0),(14,iV (n:Int)),(15,iV (a.k:Int))],[none,none,none],[some (tabG g n 242 30 (λx=>x) (a.A z) (a.c z) (a.m z)),none]⟩:St)) (λ(z:Nat)=>(KZ n S M0 a z)) (λk u=>k) (λ(z:Nat)=>[x05 12 1 (iV ((a.k+1:Nat):Int)),.loop (λ(i:Nat)=>(⟨120,[(0,lV (some ⟨g,0,none⟩) n c),(2,.ptr 0 0),(3,iV (n:Int)),(4,.ptr 1 0),(5,bV (a.t z)),(6,.ptr 2 0),(8,iV (i:Int)),(14,iV (n:Int)),(15,iV (a.k:Int))],[none,none,none],[some (tabG g n 242 30 (λx=>x) (a.A z) (a.c z) (Hxj a z i)),none]⟩:St)) (λ(i:Nat)=>(a.k<i/\i<=n)) (λ(i:Nat)=>(n-i)) ((a.k+1):Nat) (λ(i:Nat) _=>i+1) (λ(i:Nat)=>[.both [x05 15 1 (iV ((a.k+1:Nat):Int)),.loop (λ(j:Nat)=>(⟨120,[(0,lV (some ⟨g,0,none⟩) n c),(2,.ptr 0 0),(3,iV (n:Int)),(4,.ptr 1 0),(5,bV (a.t z)),(6,.ptr 2 0),(8,iV (i:Int)),(9,iV (j:Int)),(14,iV (n:Int)),(15,iV (a.k:Int))],[none,none,none],[some (tabG g n 242 30 (λx=>x) (a.A z) (a.c z) (Hxh a z i j)),none]⟩:St)) (λ(j:Nat)=>(a.k<j/\j<=n)) (λ(j:Nat)=>(n-j)) ((a.k+1):Nat) (λ(j:Nat) _=>j+1) (λ(j:Nat)=>[.both [.reg 34 [],x03 18 2 (.pointer (some ⟨g,i,none⟩)),x06 18 3 [0] (Hxp a z i n),x03 18 5 (.pointer (some ⟨(a.A z) i,j*2,none⟩)),x06 18 6 [0] (.agg #[Ξ (neg (a.m z i j)),Ψ (QJ (a.m z i j))]),x03 18 9 (Hxo g a),x06 18 10 [0] (Hxk a z n),x03 18 12 (.pointer (some ⟨(a.A z) a.k,a.k*2,none⟩)),x06 18 13 [0] (Hxn a z),x04 18 15 (.agg [bV (neg (a.m z i j*a.m z a.k a.k)),sV (QJ (a.m z i j*a.m z a.k a.k))]),x03 18 18 (.pointer (some ⟨g,i,none⟩)),x06 18 19 [0] (Hxp a z i n),x03 18 21 (.pointer (some ⟨(a.A z) i,a.k*2,none⟩)),x06 18 22 [0] (.agg #[Ξ (neg (a.m z i a.k)),Ψ (QJ (a.m z i a.k))]),x03 18 25 (Hxo g a),x06 18 26 [0] (Hxk a z n),x03 18 28 (.pointer (some ⟨(a.A z) a.k,j*2,none⟩)),x06 18 29 [0] (.agg #[Ξ (neg (a.m z a.k j)),Ψ (QJ (a.m z a.k j))]),x04 18 31 (.agg [bV (neg (a.m z i a.k*a.m z a.k j)),sV (QJ (a.m z i a.k*a.m z a.k j))]),x04 18 32 (.agg [bV (neg (Hxd a z i j)),sV (QJ (Hxd a z i j))]),.reg 13 [10,11],x03 19 2 (.pointer (some ⟨g,i,none⟩)),x06 19 3 [0] (Hxp a z i n),x04 19 7 (.tup [.agg [bV (neg ((Hxd a z i j) / a.l)),sV (QJ ((Hxd a z i j) / a.l))],.agg [bV (neg ((Hxd a z i j) % a.l)),sV (QJ ((Hxd a z i j) % a.l))],bV true]),x03 19 12 (.pointer (some ⟨(a.A z) i,j*2,none⟩)),.eff 19 13 0 Hxm (λ(E:Unit)=>tabG g n 242 30 (λx=>x) (a.A z) (a.c z) (Yu a.k a.l (a.m z) i (j+1))) (λ(E:Unit)=>[x05 17 1 (iV ((j+1:Nat):Int)),.next 0])] [x05 14 1 (iV ((i+1:Nat):Int)),.next 0]])] [.reg 7 [],x03 20 2 (Hxo g a),x06 20 3 [0] (Hxk a z n),x03 20 5 (.pointer (some ⟨(a.A z) a.k,a.k*2,none⟩)),x06 20 6 [0] (Hxn a z),x05 21 0 (iV ((a.k+1:Nat):Int)),.next z]])]),.both [.orh [(2,3,[Θ (a.k:Int)])],.pur 0,.lod 1,.pur 2,.lod 3,.pur 4,.pur 5,x03 10 5 (Θ ((a.k+q:Nat):Int)),.pur 6,.lod 7,.pur 8,.pur 9,x03 10 9 (Θ ((a.k+q:Nat):Int)),.pur 10,x03 10 10 (.pointer (some ⟨g,a.k+q,none⟩)),.pur 12,.lod 13,.pur 14,x03 10 14 (Hxo g a),.both [x06 10 11 [0] (Hxi a q n),x06 10 15 [0] (Ω (some ⟨a.As a.k,0,none⟩) n (a.cs a.k)),.pur 16,x03 10 16 (Hxo g a),.eff 10 17 0 Hxm (λ(E:Unit)=>tabG g n 242 30 (λx=>if x=a.k then a.k+q else x) a.As a.cs a.M) (Hxe g a q n)] [x06 10 15 [0] (Ω (some ⟨a.As a.k,0,none⟩) n (a.cs a.k)),x06 10 11 [0] (Hxi a q n),.pur 16,x03 10 16 (Hxo g a),.eff 10 17 0 Hxm (λ(E:Unit)=>tabG g n 242 30 (λx=>if x=a.k then a.k+q else x) a.As a.cs a.M) (Hxe g a q n)]] [.nxc q []]] [x05 6 0 (iV ((q+1:Nat):Int)),.next 0]] []])] [.both [x04 23 1 (.agg [bV (neg (-a.l)),sV (QJ (-a.l))])] []]])] (λF=>Yx (QeC W) (qV (Hxf g n c)) (qI (n:Int)) (qB false) (qI (n:Int)) (qI ((0:Nat):Int)) (qk Hxb) (qB (neg (1)))<|Ja (qS (QJ (1))) (XR (tabG g n 242 30 (λx=>x) As cs M0)) (XR F)<|ai (show 0<=n/\BInv n S M0 0 M0 1 false from⟨L7 _,U⟩) λ(a:KS) (H:(a.k<=n/\BInv n S M0 a.k a.M a.l a.tb))=>Xi (decide ((a.k:Int)<(n:Int))) (λb=>Yx (QfL (w0:=W) (g:=g) (Qm 195 _ rfl) rfl (Qt b) T) func168 (λa w=>call168 a w) (qV (Hxl g a n c)) (Rx (.func 169:Fn)) (qV (Hxl g a n c)) (qI (((n-a.k):Nat):Int)) (qI ((0:Nat):Int))<|KJ (qk Hxb) (qk (Hxc a)) (qk (Hxa a)) (XR (tabG g n 242 30 (λx=>x) a.As a.cs a.M)) (XR F)<|ai (show(0<=n-a.k/\∀x,x<0->a.M (a.k+x) a.k=0)from⟨L7 _,λx G=>absurd G (R4 _)⟩) λ(q:Nat) (Y:(q<=n-a.k/\∀x,x<q->a.M (a.k+x) a.k=0))=>Xi (decide ((q:Int)<(((n-a.k):Nat):Int))) (λf=>GL (Et W g (n-a.k) a.k q (a.k+q) (c-a.k) (Qm 195 _ rfl) rfl x4 (Qt f) x3) (G1 W g n 242 30 (λx=>x) a.As a.cs a.M (a.k+q) (Qm 242 _ rfl) rfl (hA (Qt f))) func169 (λa w=>call169 a w) (Et W (a.As (a.k+q)) n 0 a.k (a.k*2) (a.cs (a.k+q)) (Qm 242 _ rfl) rfl x4 (Qt b) x3) (O6 W g n 242 30 (λx=>x) a.As a.cs a.M (a.k+q) a.k (Qm 30 _ rfl) rfl rfl (hA (Qt f)) (Qt b) rfl) (sf (a.M (a.k+q) a.k) W)<|Xi ((JZ (a.M (a.k+q) a.k)) != 0) (λK=>ai (show decide ((q:Int)<0)=false from Lc x3)<|p0 (Xi (decide ((q:Int)>0)) (λJ=>KJ (qk (Hxa a)) (gc (.tmp 31) (.tmp 32) (show IntKind.i64.wrap ((a.k:Int)+(q:Int))=((a.k+q:Nat):Int)from by have:=Qt f;have:=C;rw[Le _ x3];omega)) (gc (.tmp 35) (.tmp 36) (show IntKind.i64.wrap ((a.k:Int)+(q:Int))=((a.k+q:Nat):Int)from by have:=Qt f;have:=C;rw[Le _ x3];omega)) (Oy g n 0 (a.k+q) (a.k+q) c (Qm 195 _ rfl) rfl x4 (hA (Qt f)) x3) (Oy g n 0 a.k a.k c (Qm 195 _ rfl) rfl x4 (Qt b) x3)<|(p0 (KJ (G1 W g n 242 30 (λx=>x) a.As a.cs a.M (a.k+q) (Qm 242 _ rfl) rfl (hA (Qt f))) (qk (Hxa a)) (G1 W g n 242 30 (λx=>x) a.As a.cs a.M a.k (Qm 242 _ rfl) rfl (Qt b)) (qk (Hxa a)) (Oy g n 0 a.k a.k c (Qm 195 _ rfl) rfl x4 (Qt b) x3)<|ai (SM W prog g n 242 30 (λx=>x) a.As a.cs a.M a.k (a.k+q) (λx=>if x=a.k then a.k+q else x) (λx=>x) (Qm 242 _ rfl) rfl (Qt b) (λ_ h=>h) (λ_=>rfl) (λ_ _=>rfl)) λ(E:Unit)=>X0 (qk (Hxa a)) (Oy g n 0 (a.k+q) (a.k+q) c (Qm 195 _ rfl) rfl x4 (hA (Qt f)) x3)<|ai (SM W prog g n 242 30 (λx=>if x=a.k then a.k+q else x) a.As a.cs a.M (a.k+q) a.k (λx=>x) (DU a.k (a.k+q)) (Qm 242 _ rfl) rfl (hA (Qt f)) (λx G=>V5 (Qt b) (hA (Qt f)) G) (iG a.k (a.k+q)) (λx _=>Qdj)) λ(I:Unit)=>Yx (qk (Hxa a)) (qV (Hxf g n c)) (qI (n:Int)) (show(!a.tb)=a.t q from Qdi (show ¬ q=0 from hA (L0 J))) (qI (n:Int)) (qI (a.k:Int)) (qk Hxb) (qk (Hxc a))<|Ja (qk (Hxa a)) (XR (tabG g n 242 30 (λx=>x) (a.A q) (a.c q) (a.m q))) (XR F)<|(show KZ n S M0 a q from dd H.2 C (Qt b) ⟨hA (Qt f),qt K⟩ O)) (KJ (G1 W g n 242 30 (λx=>x) a.As a.cs a.M a.k (Qm 242 _ rfl) rfl (Qt b)) (qk (Hxa a)) (G1 W g n 242 30 (λx=>x) a.As a.cs a.M (a.k+q) (Qm 242 _ rfl) rfl (hA (Qt f))) (qk (Hxa a)) (Oy g n 0 a.k a.k c (Qm 195 _ rfl) rfl x4 (Qt b) x3)<|ai (SM W prog g n 242 30 (λx=>x) a.As a.cs a.M a.k (a.k+q) (λx=>if x=a.k then a.k+q else x) (λx=>x) (Qm 242 _ rfl) rfl (Qt b) (λ_ h=>h) (λ_=>rfl) (λ_ _=>rfl)) λ(E:Unit)=>X0 (qk (Hxa a)) (Oy g n 0 (a.k+q) (a.k+q) c (Qm 195 _ rfl) rfl x4 (hA (Qt f)) x3)<|ai (SM W prog g n 242 30 (λx=>if x=a.k then a.k+q else x) a.As a.cs a.M (a.k+q) a.k (λx=>x) (DU a.k (a.k+q)) (Qm 242 _ rfl) rfl (hA (Qt f)) (λx G=>V5 (Qt b) (hA (Qt f)) G) (iG a.k (a.k+q)) (λx _=>Qdj)) λ(I:Unit)=>Yx (qk (Hxa a)) (qV (Hxf g n c)) (qI (n:Int)) (show(!a.tb)=a.t q from Qdi (show ¬ q=0 from hA (L0 J))) (qI (n:Int)) (qI (a.k:Int)) (qk Hxb) (qk (Hxc a))<|Ja (qk (Hxa a)) (XR (tabG g n 242 30 (λx=>x) (a.A q) (a.c q) (a.m q))) (XR F)<|(show KZ n S M0 a q from dd H.2 C (Qt b) ⟨hA (Qt f),qt K⟩ O)))) λJ=>Yx (qV (Hxf g n c)) (qI (n:Int)) (show a.tb=a.t q from(un a (show q=0 from hA (L1 J))).2.2.2) (qI (n:Int)) (qI (a.k:Int)) (qk Hxb) (qk (Hxc a)) (qk (Hxa a))<|X0 (Yq (tabG g n 242 30 (λx=>x) a.As a.cs a.M) (tabG g n 242 30 (λx=>x) (a.A q) (a.c q) (a.m q)) λ_ _ _ h=>(show(tabG g n 242 30 (λx=>x) (a.A q) (a.c q) (a.m q)).φ _ _ _ from by rw[<- (un a (show q=0 from hA (L1 J))).1,<- (un a (show q=0 from hA (L1 J))).2.1,<- (un a (show q=0 from hA (L1 J))).2.2.1];exact h)) (XR F)<|(show KZ n S M0 a q from dd H.2 C (Qt b) ⟨hA (Qt f),qt K⟩ O)) λ(z:Nat) (D:(KZ n S M0 a z))=>Yx (QD a.k (hA (Qt b))) (qV (Hxf g n c)) (qI (n:Int)) (qB (a.t z)) (qI (((a.k+1):Nat):Int)) (qI (n:Int)) (qI (a.k:Int)) (qk Hxb)<|Ky (qk (Hxc a)) (qk (Hxa a)) (Yq (tabG g n 242 30 (λx=>x) (a.A z) (a.c z) (a.m z)) (tabG g n 242 30 (λx=>x) (a.A z) (a.c z) (Yu a.k a.l (a.m z) (a.k+1) (a.k+1))) λ_ _ _ h=>Nr (λx y _ _=>UT a.k a.l (a.m z) x y) h) (XR F)<|ai (show a.k<a.k+1/\a.k+1<=n from⟨Sh _,Qt b⟩) λ(i:Nat) (L:(a.k<i/\i<=n))=>Xi (decide ((i:Int)<(n:Int))) (λs=>Yx (QD a.k (hA (Qt b))) (qV (Hxf g n c)) (qI (n:Int)) (qB (a.t z)) (qI (i:Int)) (qI (((a.k+1):Nat):Int)) (qI (n:Int)) (qI (a.k:Int))<|KJ (qk Hxb) (qk (Hxc a)) (qk (Hxa a)) (XR (tabG g n 242 30 (λx=>x) (a.A z) (a.c z) (Hxj a z i))) (XR F)<|ai (show a.k<a.k+1/\a.k+1<=n from⟨Sh _,Qt b⟩) λ(j:Nat) (N:(a.k<j/\j<=n))=>Xi (decide ((j:Int)<(n:Int))) (λB=>Yx (Et W g n 0 i i c (Qm 195 _ rfl) rfl x4 (Qt s) x3) (G1 W g n 242 30 (λx=>x) (a.A z) (a.c z) (Hxh a z i j) i (Qm 242 _ rfl) rfl (Qt s)) (Et W ((a.A z) i) n 0 j (j*2) ((a.c z) i) (Qm 242 _ rfl) rfl x4 (Qt B) x3) (O6 W g n 242 30 (λx=>x) (a.A z) (a.c z) (Hxh a z i j) i j (Qm 30 _ rfl) rfl rfl (Qt s) (Qt B) (mM a.k a.l (a.m z) i j)) (Et W g n 0 a.k a.k c (Qm 195 _ rfl) rfl x4 (Qt b) x3) (G1 W g n 242 30 (λx=>x) (a.A z) (a.c z) (Hxh a z i j) a.k (Qm 242 _ rfl) rfl (Qt b)) (Et W ((a.A z) a.k) n 0 a.k (a.k*2) ((a.c z) a.k) (Qm 242 _ rfl) rfl x4 (Qt b) x3) (O6 W g n 242 30 (λx=>x) (a.A z) (a.c z) (Hxh a z i j) a.k a.k (Qm 30 _ rfl) rfl rfl (Qt b) (Qt b) (Fk a.k a.l (a.m z) i j a.k))<|Yx (rg0 W (λa w=>call170 a w) λV g h=>i7 V (D.2.2.1 _ _ (Qt s) (Qt B)) (D.2.2.1 _ _ (Qt b) (Qt b)) h) (Et W g n 0 i i c (Qm 195 _ rfl) rfl x4 (Qt s) x3) (G1 W g n 242 30 (λx=>x) (a.A z) (a.c z) (Hxh a z i j) i (Qm 242 _ rfl) rfl (Qt s)) (Et W ((a.A z) i) n 0 a.k (a.k*2) ((a.c z) i) (Qm 242 _ rfl) rfl x4 (Qt b) x3) (O6 W g n 242 30 (λx=>x) (a.A z) (a.c z) (Hxh a z i j) i a.k (Qm 30 _ rfl) rfl rfl (Qt s) (Qt b) (Fk a.k a.l (a.m z) i j i)) (Et W g n 0 a.k a.k c (Qm 195 _ rfl) rfl x4 (Qt b) x3) (G1 W g n 242 30 (λx=>x) (a.A z) (a.c z) (Hxh a z i j) a.k (Qm 242 _ rfl) rfl (Qt b)) (Et W ((a.A z) a.k) n 0 j (j*2) ((a.c z) a.k) (Qm 242 _ rfl) rfl x4 (Qt B) x3)<|GL (O6 W g n 242 30 (λx=>x) (a.A z) (a.c z) (Hxh a z i j) a.k j (Qm 30 _ rfl) rfl rfl (Qt b) (Qt B) (jH a.k a.l (a.m z) i j j)) (rg0 W (λa w=>call170 a w) λV g h=>i7 V (D.2.2.1 _ _ (Qt s) (Qt b)) (D.2.2.1 _ _ (Qt b) (Qt B)) h) (xG (Js (D.2.2.1 _ _ (Qt s) (Qt B)) (D.2.2.1 _ _ (Qt b) (Qt b))) (Js (D.2.2.1 _ _ (Qt s) (Qt b)) (D.2.2.1 _ _ (Qt b) (Qt B))) W) (Et W g n 0 i i c (Qm 195 _ rfl) rfl x4 (Qt s) x3) (G1 W g n 242 30 (λx=>x) (a.A z) (a.c z) (Hxh a z i j) i (Qm 242 _ rfl) rfl (Qt s)) (xB (υ (Js (D.2.2.1 _ _ (Qt s) (Qt B)) (D.2.2.1 _ _ (Qt b) (Qt b))) (Js (D.2.2.1 _ _ (Qt s) (Qt b)) (D.2.2.1 _ _ (Qt b) (Qt B)))) D.2.2.2.1 D.2.2.2.2 (D.1 i j L.1 (Qt s) N.1 (Qt B)) W) (Et W ((a.A z) i) n 0 j (j*2) ((a.c z) i) (Qm 242 _ rfl) rfl x4 (Qt B) x3)<|ai (QbW (w0:=W) (P:=prog) (g:=g) (n:=n) (e:=242) (e2:=30) (Q:=λx=>x) (As:=a.A z) (cs:=a.c z) (M:=Yu a.k a.l (a.m z) i j) (i:=i) (j:=j) (z:=(Hxd a z i j) / a.l) (Qm 30 _ rfl) rfl (Qt s) (Qt B) (λx y _ _=>jF a.k a.l (a.m z) i j x y L.1 N.1)) λ(E:Unit)=>Yx (QD j (hA (Qt B))) (qV (Hxf g n c)) (qI (n:Int)) (qB (a.t z)) (qI (i:Int)) (qI (((j+1):Nat):Int)) (qI (n:Int)) (qI (a.k:Int))<|KJ (qk Hxb) (qk (Hxc a)) (qk (Hxa a)) (XR (tabG g n 242 30 (λx=>x) (a.A z) (a.c z) (Yu a.k a.l (a.m z) i (j+1)))) (XR F)<|ai (show a.k<j+1/\j+1<=n from⟨Nat.lt_succ_of_lt N.1,Qt B⟩) (show n-(j+1)<n-j from hA (Qt B))) λB=>Yx (QD i (hA (Qt s))) (qV (Hxf g n c)) (qI (n:Int)) (qB (a.t z)) (qI (((i+1):Nat):Int)) (qI (n:Int)) (qI (a.k:Int)) (qk Hxb)<|Ky (qk (Hxc a)) (qk (Hxa a)) (Yq (tabG g n 242 30 (λx=>x) (a.A z) (a.c z) (Hxh a z i j)) (tabG g n 242 30 (λx=>x) (a.A z) (a.c z) (Yu a.k a.l (a.m z) (i+1) (a.k+1))) λ_ _ _ h=>Nr (λx y _ Z=>by rw[show j=n from Ra N.2 (geq B)];exact jG a.k a.l (a.m z) i n x y Z) h) (XR F)<|ai (show a.k<i+1/\i+1<=n from⟨Nat.lt_succ_of_lt L.1,Qt s⟩) (show n-(i+1)<n-i from hA (Qt s))) λs=>Yx (Et W g n 0 a.k a.k c (Qm 195 _ rfl) rfl x4 (Qt b) x3) (G1 W g n 242 30 (λx=>x) (a.A z) (a.c z) (Hxj a z i) a.k (Qm 242 _ rfl) rfl (Qt b)) (Et W ((a.A z) a.k) n 0 a.k (a.k*2) ((a.c z) a.k) (Qm 242 _ rfl) rfl x4 (Qt b) x3) (O6 W g n 242 30 (λx=>x) (a.A z) (a.c z) (Hxj a z i) a.k a.k (Qm 30 _ rfl) rfl rfl (Qt b) (Qt b) (Fk a.k a.l (a.m z) i (a.k+1) a.k)) (QD a.k (hA (Qt b))) (qV (Hxf g n c)) (qI (n:Int)) (qB (a.t z))<|GL (qI (n:Int)) (qI ((a.k+1:Nat):Int)) (qk Hxb) (qB (neg (a.m z a.k a.k))) (qS (QJ (a.m z a.k a.k))) (Yq (tabG g n 242 30 (λx=>x) (a.A z) (a.c z) (Hxj a z i)) (tabG g n 242 30 (λx=>x) (a.A z) (a.c z) (Eg a.k a.l (a.m z))) λ_ _ _ h=>Nr (λx y G _=>by rw[show i=n from Ra L.2 (geq s)];exact jE a.k a.l (a.m z) n x y G) h) (XR F)<|ai (show a.k+1<=n/\BInv n S M0 (a.k+1) (Eg a.k a.l (a.m z)) (a.m z a.k a.k) (a.t z)from⟨Qt b,D.2.1⟩) (show n-(a.k+1)<n-a.k from hA (Qt b))) λK=>Yx (QD q (hA (Qt f))) (qV (Hxl g a n c)) (Rx (.func 169:Fn)) (qV (Hxl g a n c)) (qI (((n-a.k):Nat):Int)) (qI (((q+1):Nat):Int)) (qk Hxb) (qk (Hxc a))<|Ja (qk (Hxa a)) (XR (tabG g n 242 30 (λx=>x) a.As a.cs a.M)) (XR F)<|ai (show((q+1)<=n-a.k/\∀x,x<(q+1)->a.M (a.k+x) a.k=0)from⟨Qt f,λx G=>(Nat.lt_succ_iff_lt_or_eq.1 G).elim (Y.2 x) λe=>e▸Qeb K⟩) (show n-a.k-(q+1)<n-a.k-q from hA (Qt f))) λf=>(YP F (.agg #[Ξ false,x00]) (λ_:Unit=>vI (KI n M0)) (tabG g n 242 30 (λx=>x) a.As a.cs a.M) (λ_=>anyR) () (show vI 0=vI _ from by rw[H.2.zero C (Qt b) λx h1 h2=>by have:=Y.2 (x-a.k) (hA (geq f));rwa [Nat.add_sub_cancel' h1]at this]) λ_ _ _ h=>h.1)) λb=>Xi a.tb (λX=>ai (xC a.l W)<|(YP F (.agg #[Ξ (neg (-a.l)),Ψ (QJ (-a.l))]) (λ_:Unit=>vI (KI n M0)) (tabG g n 242 30 (λx=>x) a.As a.cs a.M) (λ_=>anyR) () (by have e:=(show a.k=n from Ra H.1 (geq b));have d:=H.2;rw[e]at d;show vI (-a.l)=vI _;rw[d.done C,X];rfl) λ_ _ _ h=>h.1)) λX=>(YP F (.agg #[Ξ (neg a.l),Ψ (QJ a.l)]) (λ_:Unit=>vI (KI n M0)) (tabG g n 242 30 (λx=>x) a.As a.cs a.M) (λ_=>anyR) () (by have e:=(show a.k=n from Ra H.1 (geq b));have d:=H.2;rw[e]at d;show vI a.l=vI _;rw[d.done C,X];rfl) λ_ _ _ h=>h.1)) λF=>x5
def Mp(g:Nat)(s:m1)(p:Nat):Res where
 φ x S w:=x.oneCell'=true/\w.heap[g]?=some (.stringIter s p)/\∀b,S b↔b=g
 one _ _ _ h:=h.1
 loc x S w w' h hφ:=⟨hφ.1,(h g ((hφ.2.2 g).2 rfl)).trans hφ.2.1,hφ.2.2⟩
variable{p:Nat}
section
variable{P:z4}{w0:m0}{s:m1}
def QdE{t:o0}(a:P.underlying t=some .string):II P w0 [] (λg:Nat=>.pointer (some ⟨g,0,none⟩)) (λg:Nat=>Mp g s 0) (Instr.range t (.string s)):=λW _=>by
 show Pf P W _ _ _;refine⟨W.heap.size,.bool false,λb=>b=W.heap.size,W.iter s 0,run_range_string W t s a,?_,(show _/\_ from⟨rfl,World.iter_heap W s 0,λ_=>Iff.rfl⟩),λb c=>?_⟩
 ·exact(p5 _ W).alloc (L4 _) _
 ·have d:(W.iter s 0).heap.size=W.heap.size+1:=World.size_alloc _ _;omega
theorem uj(a:o0)(h:p<s.size):∀W,Below w0.heap.size w0 W->∀x S,(Mp g s p).φ x S W->Gc P W (λ_:Unit=>.tuple #[.bool true,.int .i64 (p:Int),.int .i32 (((Utf8.decode s p).1:Nat):Int)]) (λ_:Unit=>Mp g s (p+(Utf8.decode s p).2)) x S (Instr.next (.pointer (some ⟨g,0,none⟩)) true a):=λW _ x S d=>by
 let⟨e,c,f⟩:=(show _/\_/\_ from d)
 refine⟨(),S,W.iterAt g s (p+(Utf8.decode s p).2),run_next_any_at W g s p a c h,?_,(show _/\_/\_ from⟨e,iterAt_heap W g s p _ c,f⟩),λb i=>⟨.inl i,?_⟩⟩
 ·refine⟨rfl,rfl,rfl,Su (by simp[World.iterAt]),λk _ j=>?_⟩
  grind[World.iterAt]
 grind[World.iterAt]
theorem Qak(a:o0)(h:¬ p<s.size):∀W,Below w0.heap.size w0 W->∀x S,(Mp g s p).φ x S W->Gc P W (λ_:Unit=>.tuple #[.bool false]) (λ_:Unit=>Mp g s p) x S (Instr.next (.pointer (some ⟨g,0,none⟩)) true a):=λW _ x S c=>by
 let⟨f,d,i⟩:=(show _/\_/\_ from c)
 refine⟨(),S,W,run_next_end_at W g s p a d h,⟨rfl,rfl,rfl,L4 _,λ_ _ _=>rfl⟩,c,λb e=>⟨.inl e,?_⟩⟩
 grind
theorem fE(h:p<s.size)(b:(s.data.toList.getD p 0).toNat<128):Utf8.decode s p=((s.data.toList.getD p 0).toNat,1):=by
 have e:(s[p]'h)=s.data.toList.getD p 0:=by
  have a:p<s.data.toList.length:=l3 h;rw[List.getD,p6 a];rfl
 grind[decode_ascii]
theorem UM(h:p<s.size)(d:128<=(s.data.toList.getD p 0).toNat):128<=(Utf8.decode s p).1/\1<=(Utf8.decode s p).2/\p+(Utf8.decode s p).2<=s.size/\∀j,j<(Utf8.decode s p).2->128<=(s.data.toList.getD (p+j) 0).toNat:=by
 have e:(s[p]'h)=s.data.toList.getD p 0:=by
  have f:p<s.data.toList.length:=l3 h;rw[List.getD,p6 f];rfl
 have g:∀k,p+k<s.size->s.get! (p+k)=s.data.toList.getD (p+k) 0:=λk o=>by
  have f:p+k<s.data.toList.length:=l3 o;rw[List.getD,p6 f];show s.data[p+k]! = _
  grind
 rw[<- e]at d;let⟨i,b⟩:=decode_high s p h d;refine⟨i,b,?_⟩;have q:=g 0 h;have r:128<=(s.get! (p+0)).toNat:=by rw[q,T9,<- e];exact d
 have key:∀w:Nat,(∀k,0<k->k<w->(decide (p+k<s.size)&&(s.get! (p+k)).toNat / 64==2)=true)->1<=w->p+w<=s.size/\∀j,j<w->128<=(s.data.toList.getD (p+j) 0).toNat:=λw u i=>by
  have t:∀k,0<k->k<w->p+k<s.size/\128<=(s.get! (p+k)).toNat:=λk b a=>by
   grind
  refine⟨?_,λj v=>?_⟩
  ·rcases R5 1 w with b|b
   ·have:=(t (w-1) x3 x3).1;omega
   ·omega
  grind
 have one:∀w:Nat,w=1->p+w<=s.size/\∀j,j<w->128<=(s.data.toList.getD (p+j) 0).toNat:=λw e=>by
  subst e;exact key 1 (λk b a=>x3) (L4 _)
 unfold Utf8.decode;dsimp only;split
 ·exact one _ rfl
 ·split
  ·rename_i a;split
   ·exact key 2 (λk l m=>by
     have e:k=1:=x3;subst e;exact(L5.1 a).2) x4
   ·exact one _ rfl
  ·split
   ·rename_i a;split
    ·exact key 3 (λk l m=>by
      have c:=L5.1 a;rcases(show k=1\/k=2 by omega)with e|e
      ·subst e;exact(L5.1 c.1).2
      ·subst e;exact c.2) x4
    ·exact one _ rfl
   ·split
    ·rename_i a;split
     ·exact key 4 (λk l m=>by
       have c:=L5.1 a;have n:=L5.1 c.1;rcases(show k=1\/k=2\/k=3 by omega)with e|e|e
       ·subst e;exact(L5.1 n.1).2
       ·subst e;exact n.2
       ·subst e;exact c.2) x4
     ·exact one _ rfl
    ·exact one _ rfl
end
def Cp(z:Int):o3:=[.int .i64 z]
def BX(z:Int):(Cp z).length=1:=rfl
def nq(z:Int)(u:y9)(h:u∈Cp z):u.oneCell'=true:=by
 obtain rfl:=Ly.1 h;rfl
def NM(S:List Int):Int:=S.getD (S.length-1) 0
def Nc(n:Nd)(S:List Int):List Int:=bif n.split==0 then S.take (S.length-1)else S.take (S.length-1)++[IntKind.i64.wrap (NM S+1),IntKind.i64.wrap (NM S+1)]
def YM(ct:List Nd):Nat->List Int
 |0=>[0]
 |k+1=>Nc (Qn ct k) (YM ct k)
def OH(ct:List Nd):Nat->Int
 |0=>0
 |k+1=>bif (Qn ct k).split==0 then IntKind.i64.wrap (OH ct k+1)else OH ct k
def PH(ct:List Nd):Nat->Int
 |0=>0
 |k+1=>max (PH ct k) (NM (YM ct k))
def IB(ct:List Nd):∀k,(YM ct k).length<=k+1
 |0=>L4 _
 |k+1=>by
  have:=IB ct k;show(Nc (Qn ct k) (YM ct k)).length<=_;unfold Nc;cases (Qn ct k).split==0 with
  |true=>simp;omega
  |false=>simp;omega
def NB(ct:List Nd):Bool:=bif decide ((ct.length:Int)>4096)then false else bif XQ ct.length (λj=>(((YM ct j).length:Nat):Int)==0)then false else(((YM ct ct.length).length:Nat):Int)==0
def qu(ct:List Nd):y9:=.tuple #[.int .i64 (bif NB ct then OH ct ct.length else 0),.int .i64 (bif NB ct then PH ct ct.length else 0),.bool (NB ct)]
def Gs(η:Int)(ct:List Nd):Bool:=bif (ct.length:Int)==0 then true else bif NB ct then !XQ ct.length (λj=>Zm η (Qn ct j))else false
variable{ct:List Nd}
theorem iC(h:((Qn ct k).split==0)=true):YM ct (k+1)=(YM ct k).take ((YM ct k).length-1):=by
 show Nc _ _=_
 grind[Nc]
theorem iB(h:((Qn ct k).split==0)=false):YM ct (k+1)=(YM ct k).take ((YM ct k).length-1)++[IntKind.i64.wrap (NM (YM ct k)+1),IntKind.i64.wrap (NM (YM ct k)+1)]:=by
 show Nc _ _=_
 grind[Nc]
def QdD(h:((Qn ct k).split==0)=true):OH ct (k+1)=IntKind.i64.wrap (OH ct k+1):=by
 show(bif _ then _ else _)=_;rw[h];rfl
def QdC(h:((Qn ct k).split==0)=false):OH ct (k+1)=OH ct k:=by
 show(bif _ then _ else _)=_;rw[h];rfl
theorem MJ{S:List Int}(h:(((S.length:Int))==0)=false):0<S.length:=by
 grind
variable{α:Type}
section
variable{P:z4}{w0:m0}
theorem fJ(w0:m0)(P:z4)(t e:Nat)(m:Nat){u:Option Bool}(v:Yw P t=some ti)(z:ti.k=.slice e k u)(B:k≠0){c:α->o3}(j:∀x,(c x).length=k)(l:List α)(A:m3)(cp:Nat)(C:m<=l.length)(M:0<l.length):
  ∀W,Below w0.heap.size w0 W->∀x S,(Qc e k c l A cp).φ x S W->Gc P W (λy:Hp=>.slice y.1 (l.take m).length y.2) (λy:Hp=>Qc e k c (l.take m) y.1 y.2) x S (Instr.sliceAt t (.slice A l.length cp) none (some (.int .i64 (m:Int))) none):=λW _ x S D=>by
 let⟨E,q,r⟩:=(show _/\_/\_ from D)
 rcases q.2 with⟨i,e2⟩|⟨g,cap,d,i,F,G,N,H,I,p⟩
 ·omega
 injection i with i _ J
 subst i;subst J;have a:(l.take m).length=m:=by rw[Ll];omega
 refine⟨(some ⟨g,0,none⟩,cp),S,W,?_,Trn.refl _ _,(show _/\_/\_ from⟨E,⟨?_,.inr ⟨g,cp,d,rfl,F,G,by rw[a];omega,H,I,?_⟩⟩,r⟩),λb f=>⟨.inl f,?_⟩⟩
 ·have h:=JO P W g 0 l.length cp 0 m none (some (.int .i64 (m:Int))) v z B (.inl ⟨rfl,rfl⟩) (.inr ⟨.i64,rfl⟩) (L7 _) x3
  grind
 ·rw[QT j,a]
 ·rw[a];have K:m*k<=l.length*k:=Lt _ C;have s:((d.toList.take (l.length*k)).take (m*k))=(l.flatMap c).take (m*k):=by rw[p]
  rw[List.take_take,Tg K]at s;rw[s];have L:l.flatMap c=(l.take m).flatMap c++(l.drop m).flatMap c:=by rw[<- Sj,Uq]
  rw[L,List.take_append_of_le_length (by rw[QT j,a];exact L4 _),Rh (by rw[QT j,a];exact L4 _)]
 ·exact(q.lt b ((r b).1 f)).2
end
abbrev Kn:Type:=Py×m3×Nat
def Zn(x:Kn):o3:=[.int .i64 x.1.vars,.slice x.2.1 x.1.ts.length x.2.2]
def Zb(x:Kn):(Zn x).length=2:=rfl
def EL(x:Kn)(u:y9)(h:u∈Zn x):u.oneCell'=true:=by
 simp only[Zn,Lb,Ri,or_false]at h;rcases h with rfl|rfl<;>rfl
def XM:Kn:=(NU,none,0)
variable{i:TypeInfo}
section
variable{P:z4}{w0:m0}
def NW{c:α->o3}(b:∀x,(c x).length=k)(d:0<k)(a:α)(n:Nat):(Builtin.zeroCells (c a).toArray n).toList=(List.replicate n a).flatMap c:=by
 have m:((List.replicate n a).flatMap c).length=n*k:=by rw[QT b,Sl]
 apply List.ext_getElem?;intro j;unfold Builtin.zeroCells;by_cases e:j<n*k
 ·have o:j=j / k*k+j % k:=by rw[Ls];exact(Tc j k).symm
  have p:j / k<n:=(Lr d).2 e;have f:j % k<k:=Re _ d;have g:=Jv (c:=c) b (l:=List.replicate n a) (j:=j / k) (i:=j % k) (l3 p) f;rw[<- o,List.getElem_replicate]at g;rw[g];have q:j<n*(c a).toArray.size:=by rw[Rs,b];exact e
  rw[Uu,List.getElem?_map];have r:(Array.range (n*(c a).toArray.size)).toList[j]?=some j:=by
   rw[Array.toList_range,List.getElem?_range q]
  rw[r];simp only[Option.map_some,Rs,b];have h:j % k<(c a).length:=by rw[b];exact f
  rw[p6 h];simp[h]
 ·rw[a8 (by simp[b];omega),a8 (by rw[m];omega)]
def HJ{t u ty e:o0}{z:y9}(j:P.underlying t=some (.slice e))(k:P.underlying u=some (.int .i64))(l:P.info? e=some i)(m:i.zero=some z){n:Nat}(o:0<n)(p:0<i.size)(q:n<=4294967296)(x:n*i.bytes<=140737488355328)(w:m0):
  (Builtin.append_ #[t,u] ty #[.slice none 0 0,.int .i64 (n:Int)]).run P w=.ok (.slice (some ⟨w.heap.size,0,none⟩) n (grownCap w n 0 e)) (w.drew.alloc (.cells (Builtin.zeroCells z.cells n++Builtin.zeroCells z.cells (grownCap w n 0 e-n)) e)):=by
 have g:n≠0:=x3;have r:IntKind.i64.wrap (n:Int)=(n:Int):=Le _ x3;have s:¬((n:Int)<0):=x3;have v:¬(281474976710656<(n:Int)*(i.bytes:Int)):=by
  omega
 have a:¬(9223372036854775807<(n:Int)):=x3;have b:¬(281474976710656<Builtin.nextslicecap n 0*i.bytes):=by rw[nextslicecap_zero o];omega
 have c:i.size≠0:=x3;have d:¬((n:Int)<=0):=x3;have f:max (n:Int) 0=n:=x3;simp[Builtin.append_,run_underlying j,run_underlying k,sizeOf,typeInfo,zeroValue,l,m,Builtin.lenOf,Builtin.firstCells,g,s,v,a,b,c,r,asInt,asIntOf,f,d,Question.forced,newRow,grownCap];intro h;exact absurd ((Nat.mul_eq_zero.1 h).resolve_left g) c
theorem uL{t u ty e bytes:Nat}{c:α->o3}(d:RowT P t t e k bytes)(s:P.underlying u=some (.int .i64))(o:∀x,(c x).length=k)(p:α)(v:∀i z,P.info? e=some i->i.zero=some z->z.cells=(c p).toArray){n:Nat}(w:0<n)(f:n<=4294967296)(q:n*bytes<=140737488355328):
  II P w0 [] (λy:Hp=>.slice y.1 n y.2) (λy:Hp=>Qc e k c (List.replicate n p) y.1 y.2) (Vf .append #[t,u] ty [.slice none 0 0,.int .i64 (n:Int)]):=λW _=>by
 let⟨g,z,r,e2,A,B,D⟩:=d.info;have j:=v g z r e2;have C:=d.hk;have a:=HJ (P:=P) (ty:=ty) d.ht s r e2 w (by rw[A];exact C) f (by rw[B];exact q) W;have l:=grownCap_ge W n 0 e;have m:grownCap W n 0 e<=maxLen:=grownCap_le_maxLen W n 0 e (by simp only[maxLen];omega);show Pf P W _ _ _;refine⟨(some ⟨W.heap.size,0,none⟩,grownCap W n 0 e),.bool false,λb=>b=W.heap.size,_,a,((p5 _ W).drew).alloc (L4 _) _,(show _/\_/\_ from⟨rfl,⟨by rw[QT o],.inr ⟨W.heap.size,_,_,by rw[Sl],L7 _,heap_alloc_new W.drew _,by rw[Sl];exact l,m,?_,?_⟩⟩,λb=>⟨λh=>by rw[h];rfl,λh=>(o7 h).symm⟩⟩),λb q=>?_⟩
 ·rw[j];simp only[Array.size_append,size_zeroCells,Rs,o,<- S8]
  grind
 all_goals simp_all[NW]
end
theorem pR(i:TypeInfo)(z:y9)(a:prog.info? 52=some i)(b:i.zero=some z):z.cells=(Zn XM).toArray:=by
 have c:((prog.info? 52).bind λi=>i.zero).map (λz=>z.cells)=some (Zn XM).toArray:=x5
 grind
theorem BU{f:α->List β}{l:List α}{M:Nat}(h:∀x,x∈l->(f x).length<=M):(l.flatMap f).length<=l.length*M:=by
 induction l with
 |nil=>simp
 |cons x l a =>
  grind[Ru]
def cH(f:α->List β){l:List α}(M:Nat)(k:Nat)(h:∀x,x∈l->(f x).length<=M):((l.take k).flatMap f).length<=l.length*M :=
 L6 (BU λx a=>h x (U5 a)) (Lt _ x7)
def Qk(ν ε:Nm)(bx:List (Nm×Nm))(κ:List (List Nm))(ct:List Nd):List Nm:=(([ν,ε]++bx.flatMap λs=>[s.1,s.2])++κ.flatMap λp=>p)++ct.flatMap λn=>[n.ο]
structure okL0 (bx:List (Nm×Nm)) (κ:List (List Nm)) (ct:List Nd):Prop where
 hb:bx.length<=1048576
 hs:κ.length<=1048576
 hp:∀p,p∈κ->p.length<=1048576
 hc:ct.length<=1048576
section
variable{ν ε:Nm}{bx:List (Nm×Nm)}{κ:List (List Nm)}{ct:List Nd}
theorem pi(h:okL0 bx κ ct)(k:Nat):([ν,ε]++(bx.take k).flatMap λs=>[s.1,s.2]).length*32<=140737488355328:=by
 have a:=cH (λs:Nm×Nm=>[s.1,s.2]) 2 k (λ(x:Nm×Nm) (_:x∈bx)=>L4 _);have:=h.hb
 grind
def pj(h:okL0 bx κ ct)(k:Nat):(([ν,ε]++bx.flatMap λs=>[s.1,s.2])++(κ.take k).flatMap λp=>p).length*32<=140737488355328:=by
 have a:=BU (f:=λs:Nm×Nm=>[s.1,s.2]) (M:=2) (λ(x:Nm×Nm) (_:x∈bx)=>L4 _);have b:=cH (λp:List Nm=>p) 1048576 k h.hp;have:=h.hb;have c:=h.hs;rw[La,La];simp only[Li,S9];omega
def dR(h:okL0 bx κ ct)(k:Nat):((([ν,ε]++bx.flatMap λs=>[s.1,s.2])++κ.flatMap λp=>p)++(ct.take k).flatMap λn=>[n.ο]).length*32<=140737488355328:=by
 have a:=BU (f:=λs:Nm×Nm=>[s.1,s.2]) (M:=2) (λ(x:Nm×Nm) (_:x∈bx)=>L4 _);have b:=BU (f:=λp:List Nm=>p) (M:=1048576) h.hp;have c:=cH (λn:Nd=>[n.ο]) 1 k (λ(x:Nd) (_:x∈ct)=>L4 _);have:=h.hb;have d:=h.hs;have:=h.hc;rw[La,La,La];simp only[Li,S9];omega
end
variable{lo:Nat}{v:y9}
def lC{c:α->o3}(a:∀x,(c x).length=k)(b:0<k)(d:α){l:List α}(h:SlV lo k (λ_ x cs=>cs=c x) w l v):BO c l w v:=by
 obtain⟨A,g,rfl,i,e,f⟩:=h.enc d;exact GM a b (d:=d) f e
variable{Ab As Ac:m3}{κ:List (List Nm)}
def pU(lo:Nat)(cb cs cc:Nat)(us uc:Nat->y9)(ν ε:Nm){bx:List (Nm×Nm)}(δ vars ζ:Int)(Ap Ar:m3)(np kp nr kr:Nat)(q:okL0 bx κ ct)(w:m0)(H:RdK w Ab bx.length 6 (λj=>JR (QN bx j)))(I:RdK w As κ.length 1 (λj=>[us j]))(J:∀j,j<κ.length->SlV lo 3 VT w (Qu κ j) (us j))(K:RdK w Ac ct.length 6 (ndG ct uc)):NewIn prog w [] 12 #[tA δ vars Ab bx.length cb As κ.length cs Ap np kp Ar nr kr ν ε ζ Ac ct.length cc] (λ(y:Hp)=>Ω y.1 (Qk ν ε bx κ ct).length y.2) (λ(y:Hp)=>Qc 32 3 Xk (Qk ν ε bx κ ct) y.1 y.2) :=
 let B:OB:=some (35,(tS δ vars Ab bx.length cb As κ.length cs Ap np kp Ar nr kr ν ε ζ Ac ct.length cc));Bf Hp Qm QU (λa w=>call12 a w) func12 ntmps12 results12 _ rfl 0 _ _ [.row 2 99999 1 [3,11] 32 3 Xk ([ν,ε]) (λ(z:Hp)=>[B2 (λ(q1:Nat×Hp)=>(⟨70,[(1,.ptr 0 0),(3,lV q1.2.1 (([ν,ε]++(bx.take q1.1).flatMap λs=>[s.1,s.2])).length q1.2.2),(4,iV (q1.1:Int))],[none],[some (Qc 32 3 Xk ([ν,ε]++(bx.take q1.1).flatMap λs=>[s.1,s.2]) q1.2.1 q1.2.2)]⟩:St)) bx.length (0,z) (λ(q1:Nat×Hp)=>[.both [.reg 16 [],x03 5 5 (.pointer (some (Q5 Ab (q1.1*6+0)))),x03 5 7 (nA ((QN bx q1.1).1)),x03 5 12 (.pointer (some (Q5 Ab (q1.1*6+0)))),x03 5 14 (nA ((QN bx q1.1).2)),x08 5 16 0 (λ(k:Hp)=>(Ω k.1 (([ν,ε]++(bx.take (q1.1+1)).flatMap λs=>[s.1,s.2])).length k.2,Qc 32 3 Xk ([ν,ε]++(bx.take (q1.1+1)).flatMap λs=>[s.1,s.2]) k.1 k.2,[x05 4 1 (iV ((q1.1+1:Nat):Int)),.nxt [k]]))] [B2 (λ(d:Nat×Hp)=>(⟨70,[(1,.ptr 0 0),(3,lV d.2.1 ((([ν,ε]++bx.flatMap λs=>[s.1,s.2])++(κ.take d.1).flatMap λp=>p)).length d.2.2),(5,iV (d.1:Int))],[none],[some (Qc 32 3 Xk (([ν,ε]++bx.flatMap λs=>[s.1,s.2])++(κ.take d.1).flatMap λp=>p) d.2.1 d.2.2)]⟩:St)) κ.length (0,q1.2) (λ(d:Nat×Hp)=>[.both [x03 9 5 (.pointer (some (Q5 As (d.1*1+0)))),x03 9 6 (us d.1),x08 9 7 0 (λ(k:Hp)=>(Ω k.1 ((([ν,ε]++bx.flatMap λs=>[s.1,s.2])++(κ.take (d.1+1)).flatMap λp=>p)).length k.2,Qc 32 3 Xk (([ν,ε]++bx.flatMap λs=>[s.1,s.2])++(κ.take (d.1+1)).flatMap λp=>p) k.1 k.2,[x05 8 1 (iV ((d.1+1:Nat):Int)),.nxt [k]]))] [B2 (λ(g:Nat×Hp)=>(⟨70,[(1,.ptr 0 0),(3,lV g.2.1 (((([ν,ε]++bx.flatMap λs=>[s.1,s.2])++κ.flatMap λp=>p)++(ct.take g.1).flatMap λn=>[n.ο])).length g.2.2),(6,iV (g.1:Int))],[none],[some (Qc 32 3 Xk ((([ν,ε]++bx.flatMap λs=>[s.1,s.2])++κ.flatMap λp=>p)++(ct.take g.1).flatMap λn=>[n.ο]) g.2.1 g.2.2)]⟩:St)) ct.length (0,d.2) (λ(g:Nat×Hp)=>[.both [x03 13 4 (.pointer (some (Q5 Ac (g.1*6+0)))),x03 13 6 (nA ((Qn ct g.1).ο)),x08 13 8 0 (λ(k:Hp)=>(Ω k.1 (((([ν,ε]++bx.flatMap λs=>[s.1,s.2])++κ.flatMap λp=>p)++(ct.take (g.1+1)).flatMap λn=>[n.ο])).length k.2,Qc 32 3 Xk ((([ν,ε]++bx.flatMap λs=>[s.1,s.2])++κ.flatMap λp=>p)++(ct.take (g.1+1)).flatMap λn=>[n.ο]) k.1 k.2,[x05 12 1 (iV ((g.1+1:Nat):Int)),.nxt [k]]))] []])]])]])])] (λW C=>have D:=H.up C (λ_=>rfl);have F:=I.up C (λ_=>rfl);(λ(L:∀j,j<κ.length->SlV lo 3 VT W (Qu κ j) (us j))=>have G:=K.up C (λ_=>rfl);ai (show([Ξ ν.b,Ψ ν.s,Θ ν.e,Ξ ε.b,Ψ ε.s,Θ ε.e]:o3)=List.flatMap Xk ([ν,ε])from rfl)<|ai (p0 Xx (show([ν,ε]).length<=maxLen from(by simp[maxLen]))) λ(z:Hp)=>Ky (show(Ω z.1 ([ν,ε]).length z.2:y9)=(Ω z.1 (([ν,ε]++(bx.take 0).flatMap λs=>[s.1,s.2])).length z.2)from x6) (qI ((0:Nat):Int)) (qk B) (Yq (Qc 32 3 Xk ([ν,ε]) z.1 z.2) (Qc 32 3 Xk ([ν,ε]++(bx.take 0).flatMap λs=>[s.1,s.2]) z.1 z.2) λ_ _ _ h=>XY x6 x6 h)<|ai (show 0<=bx.length from L7 _) λ(q1:Nat×Hp) (M:(q1.1<=bx.length))=>Xi (decide ((q1.1:Int)<(bx.length:Int))) (λr=>Ky (CR cb D q1.1 (Qt r)) (JW D q1.1 0 (Qt r) x4 rfl rfl) (CR cb D q1.1 (Qt r)) (JW D q1.1 3 (Qt r) x4 rfl rfl)<|ai (YJ W 48 32 2 2 Xk ([ν,ε]++(bx.take q1.1).flatMap λs=>[s.1,s.2]) ([(QN bx q1.1).1,(QN bx q1.1).2]) ([ν,ε]++(bx.take (q1.1+1)).flatMap λs=>[s.1,s.2]) q1.2.1 q1.2.2 ([Ξ ((QN bx q1.1).1.b),Ψ ((QN bx q1.1).1.s),Θ ((QN bx q1.1).1.e),Ξ ((QN bx q1.1).2.b),Ψ ((QN bx q1.1).2.s),Θ ((QN bx q1.1).2.e)]) ZY Xx Gn (tk (λs=>[s.1,s.2]) (nm0,nm0) (Qt r) [ν,ε]) (pi q (q1.1+1)) rfl rfl) λ(k:Hp)=>KJ (QD q1.1 (by have:=L0 r;have:=q.hb;have:=q.hs;have:=q.hc;omega)) (qV (Ω k.1 (([ν,ε]++(bx.take (q1.1+1)).flatMap λs=>[s.1,s.2])).length k.2)) (qI (((q1.1+1):Nat):Int)) (qk B) (Yq (Qc 32 3 Xk ([ν,ε]++(bx.take (q1.1+1)).flatMap λs=>[s.1,s.2]) k.1 k.2) (Qc 32 3 Xk ([ν,ε]++(bx.take (q1.1+1)).flatMap λs=>[s.1,s.2]) k.1 k.2) λ_ _ _ h=>h)<|ai (show q1.1+1<=bx.length from Qt r) (show bx.length-(q1.1+1)<bx.length-q1.1 from hA (L0 r))) λr=>Ky (show(Ω q1.2.1 (([ν,ε]++(bx.take q1.1).flatMap λs=>[s.1,s.2])).length q1.2.2:y9)=(Ω q1.2.1 ((([ν,ε]++bx.flatMap λs=>[s.1,s.2])++(κ.take 0).flatMap λp=>p)).length q1.2.2)from(by rw[Jg (λs=>[s.1,s.2]) (show bx.length<=q1.1 by have:=L1 r;omega) [ν,ε]];simp)) (qI ((0:Nat):Int)) (qk B) (Yq (Qc 32 3 Xk ([ν,ε]++(bx.take q1.1).flatMap λs=>[s.1,s.2]) q1.2.1 q1.2.2) (Qc 32 3 Xk (([ν,ε]++bx.flatMap λs=>[s.1,s.2])++(κ.take 0).flatMap λp=>p) q1.2.1 q1.2.2) λ_ _ _ h=>XY (by rw[Jg (λs=>[s.1,s.2]) (show bx.length<=q1.1 by have:=L1 r;omega) [ν,ε]];simp) (by rw[Jg (λs=>[s.1,s.2]) (show bx.length<=q1.1 by have:=L1 r;omega) [ν,ε]];simp) h)<|ai (show 0<=κ.length from L7 _) λ(d:Nat×Hp) (N:(d.1<=κ.length))=>Xi (decide ((d.1:Int)<(κ.length:Int))) (λt=>X0 (Zy cs F d.1 (Qt t)) (J6 F d.1 0 (Qt t) x4 rfl)<|ai (Gf W 48 Xk (([ν,ε]++bx.flatMap λs=>[s.1,s.2])++(κ.take d.1).flatMap λp=>p) (Qu κ d.1) (([ν,ε]++bx.flatMap λs=>[s.1,s.2])++(κ.take (d.1+1)).flatMap λp=>p) d.2.1 d.2.2 (us d.1) CE Xx Gn (tk (λp=>p) [] (Qt t) ([ν,ε]++bx.flatMap λs=>[s.1,s.2])) (pj q (d.1+1)) (λQ E=>lC Xx x4 nm0 ((L d.1 (hA (L0 t))).below YH E))) λ(k:Hp)=>KJ (QD d.1 (by have:=L0 t;have:=q.hb;have:=q.hs;have:=q.hc;omega)) (qV (Ω k.1 ((([ν,ε]++bx.flatMap λs=>[s.1,s.2])++(κ.take (d.1+1)).flatMap λp=>p)).length k.2)) (qI (((d.1+1):Nat):Int)) (qk B) (Yq (Qc 32 3 Xk (([ν,ε]++bx.flatMap λs=>[s.1,s.2])++(κ.take (d.1+1)).flatMap λp=>p) k.1 k.2) (Qc 32 3 Xk (([ν,ε]++bx.flatMap λs=>[s.1,s.2])++(κ.take (d.1+1)).flatMap λp=>p) k.1 k.2) λ_ _ _ h=>h)<|ai (show d.1+1<=κ.length from Qt t) (show κ.length-(d.1+1)<κ.length-d.1 from hA (L0 t))) λt=>Ky (show(Ω d.2.1 ((([ν,ε]++bx.flatMap λs=>[s.1,s.2])++(κ.take d.1).flatMap λp=>p)).length d.2.2:y9)=(Ω d.2.1 (((([ν,ε]++bx.flatMap λs=>[s.1,s.2])++κ.flatMap λp=>p)++(ct.take 0).flatMap λn=>[n.ο])).length d.2.2)from(by rw[Jg (λp=>p) (show κ.length<=d.1 by have:=L1 t;omega) ([ν,ε]++bx.flatMap λs=>[s.1,s.2])];simp)) (qI ((0:Nat):Int)) (qk B) (Yq (Qc 32 3 Xk (([ν,ε]++bx.flatMap λs=>[s.1,s.2])++(κ.take d.1).flatMap λp=>p) d.2.1 d.2.2) (Qc 32 3 Xk ((([ν,ε]++bx.flatMap λs=>[s.1,s.2])++κ.flatMap λp=>p)++(ct.take 0).flatMap λn=>[n.ο]) d.2.1 d.2.2) λ_ _ _ h=>XY (by rw[Jg (λp=>p) (show κ.length<=d.1 by have:=L1 t;omega) ([ν,ε]++bx.flatMap λs=>[s.1,s.2])];simp) (by rw[Jg (λp=>p) (show κ.length<=d.1 by have:=L1 t;omega) ([ν,ε]++bx.flatMap λs=>[s.1,s.2])];simp) h)<|ai (show 0<=ct.length from L7 _) λ(g:Nat×Hp) (O:(g.1<=ct.length))=>Xi (decide ((g.1:Int)<(ct.length:Int))) (λv=>X0 (J4 cc G g.1 (Qt v)) (JW G g.1 1 (Qt v) x4 rfl rfl)<|ai (YJ W 48 32 1 1 Xk ((([ν,ε]++bx.flatMap λs=>[s.1,s.2])++κ.flatMap λp=>p)++(ct.take g.1).flatMap λn=>[n.ο]) ([(Qn ct g.1).ο]) ((([ν,ε]++bx.flatMap λs=>[s.1,s.2])++κ.flatMap λp=>p)++(ct.take (g.1+1)).flatMap λn=>[n.ο]) g.2.1 g.2.2 ([Ξ ((Qn ct g.1).ο.b),Ψ ((Qn ct g.1).ο.s),Θ ((Qn ct g.1).ο.e)]) ZY Xx Gn (tk (λn=>[n.ο]) Eh (Qt v) (([ν,ε]++bx.flatMap λs=>[s.1,s.2])++κ.flatMap λp=>p)) (dR q (g.1+1)) rfl rfl) λ(k:Hp)=>KJ (QD g.1 (by have:=L0 v;have:=q.hb;have:=q.hs;have:=q.hc;omega)) (qV (Ω k.1 (((([ν,ε]++bx.flatMap λs=>[s.1,s.2])++κ.flatMap λp=>p)++(ct.take (g.1+1)).flatMap λn=>[n.ο])).length k.2)) (qI (((g.1+1):Nat):Int)) (qk B) (Yq (Qc 32 3 Xk ((([ν,ε]++bx.flatMap λs=>[s.1,s.2])++κ.flatMap λp=>p)++(ct.take (g.1+1)).flatMap λn=>[n.ο]) k.1 k.2) (Qc 32 3 Xk ((([ν,ε]++bx.flatMap λs=>[s.1,s.2])++κ.flatMap λp=>p)++(ct.take (g.1+1)).flatMap λn=>[n.ο]) k.1 k.2) λ_ _ _ h=>h)<|ai (show g.1+1<=ct.length from Qt v) (show ct.length-(g.1+1)<ct.length-g.1 from hA (L0 v))) λv=>(show ∃y:Hp,SV.val (Ω g.2.1 (((([ν,ε]++bx.flatMap λs=>[s.1,s.2])++κ.flatMap λp=>p)++(ct.take g.1).flatMap λn=>[n.ο])).length g.2.2)=SV.val ((λ(y:Hp)=>Ω y.1 (Qk ν ε bx κ ct).length y.2) y)/\∀(x:y9) (S:Nat->Prop) (w:m0),(Qc 32 3 Xk ((([ν,ε]++bx.flatMap λs=>[s.1,s.2])++κ.flatMap λp=>p)++(ct.take g.1).flatMap λn=>[n.ο]) g.2.1 g.2.2).φ x S w->((λ(y:Hp)=>Qc 32 3 Xk (Qk ν ε bx κ ct) y.1 y.2) y).φ x S w from⟨g.2,(by rw[Jg (λn=>[n.ο]) (show ct.length<=g.1 by have:=L1 v;omega) (([ν,ε]++bx.flatMap λs=>[s.1,s.2])++κ.flatMap λp=>p)];rfl),λx S w h=>XY (by rw[Jg (λn=>[n.ο]) (show ct.length<=g.1 by have:=L1 v;omega) (([ν,ε]++bx.flatMap λs=>[s.1,s.2])++κ.flatMap λp=>p)];rfl) (by rw[Jg (λn=>[n.ο]) (show ct.length<=g.1 by have:=L1 v;omega) (([ν,ε]++bx.flatMap λs=>[s.1,s.2])++κ.flatMap λp=>p)];rfl) h⟩)) (λj P=>(J j P).below YH C)) λW=>x5
def QX(fn:Func):Code:=fn.body.getD .skip
variable{W:m0}
def AS{a:m0}(h:Below W.heap.size W a):KpC W a:=⟨h.size,λk o b _=>(h.block k (b8.1 b).1).trans b⟩
def YU{B:Nat}{J:β->m0->Prop}(b:AbidesFrom B J){s:β}{a:m0}(h:Below W.heap.size W a)(c:J s W):J s a :=
 b s W a none c ⟨h.os,h.tape,h.output,h.size,λk d _=>h.block k d⟩ λ_ e=>by cases e
def FU{α:Type}:∀ {l:List α} {i:Nat} {o:α},l[i]?=some o->l=l.take i++o::l.drop (i+1)
 |[],_,_,h=>by simp at h
 |x::l,0,o,h=>by simp at h;simp[h]
 |x::l,i+1,o,h=>by
  have a:l[i]?=some o:=l3 h;show x::l=x::(l.take i++o::l.drop (i+1));rw[<- FU a]
variable{f:x0h}{σ:St}{r:Env}{o:Oper}
section
variable{P:z4}{tt:List (Nat×TI)}{w0:m0}
def OR(o:YF P tt)(q:P.follows .mixedOrders=true){n:Nat}{c:Code}{d:List Dir}{p:St->List Dir->Prop}{X:Act->m0->Prop}{Q:Exit->Act->m0->Prop}{a:Act}{w:m0}(h:XE P tt (Kj P tt w0) (0,0) w0 c σ d λe g j=>Jf e (p g j))(s:Sat w0 σ r a w)(t:∀g j r' b f,p g j->Sat w0 g r' b f->X b f):c.wpIn Fence.wide n P (Exit.then X Q) a w:=by
 refine wpIn_wide.2 (wp_mono (fL o q (JV o q 9) (0,0) c σ d _ h ⟨L7 _,L7 _⟩ r a w s (λe b f=>e=.normal/\X b f) (λ_ _ _ _ _ h=>by cases h.1) (λ_ _ _ _ _ _ h=>False.elim h) λe g j r' b f k l _ _=>?_) λe b f m=>?_)
 ·cases e with
  |normal=>exact⟨rfl,t g j r' b f k l⟩
  |ret=>exact False.elim k
  |exit i=>exact False.elim k
 ·obtain⟨rfl,m⟩:=m;exact m
def Ny(C:YF P tt)(R:P.follows .mixedOrders=true){c:Code}(hc:su c=c){τ:Nat->St}(g:∀k,(τ k).bs=[]/\(τ k).rs=[]){xs:List α}{l m n:Nat}{enc:α->y9}(df:α)(cA:m+n<=xs.length){F:m0->Prop}(S:∀W O,F W->KpC W O->F O){ci dst:Nat}(ho:(V9 (C3 c)).toList[ci]?=some o){args:List x0h}(D:Ps o=some (f,args))(T:o.dst=some dst)(bl:∀k,BF (some dst) (τ k).n=true)(bX:(V9 (C3 c)).toList.all MF=true)(h1:∀k W,k<=n->F W->∃d,XE P tt (Kj P tt W) (0,0) W (U9 c) (τ k) d λe σ _=>Jf e (Vz σ (ck c) λs=>s=.val (.bool (decide ((k:Int)<(n:Int))))/\Yb σ (τ k) True))(h2:∀k W,k<n->F W->∃d,XE P tt (Kj P tt W) (0,0) W (U0 c) (τ k) d λe σ d=>Jf e (KC P tt (Kj P tt W) W (ed (C3 c)) (V9 (C3 c)) ((V9 (C3 c)).toList.take ci) 0 σ d λσ _=>v1 σ f λfv=>vL σ args λvs=>fv=.func (.yield l) #[] #[]/\vs=[enc (xs.getD (m+k) df)]/\Yb σ (τ k) True))(h3:∀k W b,k<n->∃d,KC P tt (Kj P tt W) W (ed (C3 c)) (V9 (C3 c)) ((V9 (C3 c)).toList.drop (ci+1)) (ci+1) ((τ k).push (some dst) (bV b)) d λσ _=>Vz σ (jM c) λs=>s=.val (.bool (!b))/\Yb σ (τ k) True)(h4:∀k W,k<n->∃d,XE P tt (Kj P tt W) (0,0) W (jL c) (τ k) d λe σ _=>Jf e (Yb σ (τ (k+1)) True)){J Jx:List {x // x∈xs}->m0->Prop}{B:Nat}(hJ:AbidesFrom B J)(bY:AbidesFrom B Jx)(hY:∀pre x W1,J pre W1->pre.length<xs.length->YieldAt Fence.wide 7 P l #[enc x.1] W1 λe O=>(e=.returned (.bool true)/\J (pre++[x]) O/\KpC W1 O)\/(e=.returned (.bool false)/\Jx (pre++[x]) O)){Q:Exit->Act->m0->Prop}{a:Act}{w:m0}(hS:Sat w0 (τ 0) r a w)(y:F w)(E:J (xs.attach.take m) w)(G:∀U W,Sat W (τ n) e0 U W->F W->J (xs.attach.take (m+n)) W->Q .normal U W)(H:∀U W pre,Jx pre W->U.defers=[]->Q .ret U W):c.wpIn Fence.wide 8 P Q a w:=by
 rw[<- hc];unfold su;refine wpIn_block (Du (λk a w=>k<=n/\Sat w (τ k) e0 a w/\F w/\J (xs.attach.take (m+k)) w) (λk=>n-k) (λk a w ca=>?_) 0 ⟨L7 _,hS.rebase (g 0).1 (g 0).2 w,y,E⟩);let⟨hk,hS,y,E⟩:=ca;let⟨d1,e1⟩:=h1 k w hk y;refine wpIn_seq (OR C R e1 hS λσ1 _ r1 a1 I hp K=>?_);let⟨s,q1,q2,q3⟩:=QI hp;have he:=(QB K.see q1).1;rw[q2]at he;have X:=((Q3 w q3).2 _ _ _ K).rebase (g k).1 (g k).2 I;have Y:=K.see.low;have L:=S _ _ y (AS Y);have Z:=YU hJ Y E;by_cases q:k<n
 ·refine wpIn_seq (wpIn_cond_true (by rw[he];simp[SV.den,q]) (wpIn_skip ?_));refine wpIn_seq (wpIn_block ?_);let⟨d2,e2⟩:=h2 k I q L;refine wpIn_seq (OR C R e2 X λσ2 d2 r2 a2 w2 cd cf=>?_);refine wpIn_seq (wpIn_region_list ?_);have t:=bX;have ch:=FU ho;generalize V9 (C3 c)=j at *;rw[ch]at t ⊢;rw[List.all_append,Lx]at t;let⟨n1,n2⟩:=t;let⟨_,n3⟩:=L5.1 (show(MF o&&(j.toList.drop (ci+1)).all MF)=true from n2);refine FA _ (λe a w=>e=.normal/\wpListIn Fence.wide 8 P j _ (o::j.toList.drop (ci+1)) a w) (λ⟨_,_,h,_⟩=>by cases h) (λ_ _ _ h=>by cases h.1) (λ_ _ h=>h.2) n1 (VA C (JV C R 9) _ 0 σ2 d2 _ cd r2 a2 w2 cf _ (λ_ _ _ _ _ _ h=>False.elim h) λσ3 d3 r3 a3 w3 M z _ _=>⟨rfl,?_⟩);let⟨fv,M,cj⟩:=Xr I M;obtain⟨vs,⟨rfl,rfl,ad⟩,cl⟩:=Br I M;have ae:=z.see.low;have cm:=S _ _ L (AS ae);have cn:=YU hJ ae Z;let⟨y1,y2,y3⟩:=Pd (P:=P) D (cj r3 a3 w3 z.see) (cl r3 a3 w3 z.see) w3;let⟨fn,tmps,assign,body,y4,y5⟩:=hY _ ⟨xs[m+k],List.getElem_mem x3⟩ w3 cn (by rw[Ll,List.length_attach];omega);unfold wpListIn;rw[if_pos (by unfold Region.wanted;rw[y2])];refine⟨λ_ _=>trivial,?_⟩;rw[Oper.semAt_eq _ _ _ (λc e=>by unfold MF at y3;rw[e]at y3;cases y3),y1,show xs.getD (m+k) df=xs[m+k]from YZ x3,y4];refine⟨λh=>(by cases h),y5.mono λe v hr=>?_⟩;have ag:=λV=>((Q3 I ad).2 _ _ _ z).rebase (g k).1 (g k).2 V
  have after:∀(b:Bool) (v:m0) {Qr:Exit->Act->m0->Prop},(∀N r5 A p,Vz N (jM c) (λs=>s=.val (.bool (!b))/\Yb N (τ k) True)->Sat v N r5 A p->Qr .normal A p)->wpListIn Fence.wide 8 P j Qr (j.toList.drop (ci+1)) (a3.put o.dst (.bool b)) v:=λb v Qr hq=>by
   let⟨d5,e5⟩:=h3 k v b q;have cp:=(ag v).put (s:=bV b) (bl k) rfl;have h6:=FA Qr (λe a w=>e=.normal/\Qr .normal a w) (λ⟨_,_,h,_⟩=>by cases h) (λ_ _ _ h=>by cases h.1) (λ_ _ h=>h.2) (n:=8) (P:=P) (ops:=j) (m2:=[]) n3 (VA C (JV C R 9) _ (ci+1) _ d5 _ e5 e0 _ v cp _ (λ_ _ _ _ _ _ h=>False.elim h) λN d5 r5 A p u i _ _=>⟨rfl,hq N r5 A p u i⟩);rw[Rq]at h6;rw[T];exact h6
  rcases hr with⟨rfl,cq,cr⟩|⟨rfl,al⟩
  ·refine after true v λN r5 A p u i=>?_
   let⟨s,u1,u2,u3⟩:=QI u;have hu:=(QB i.see u1).1;rw[u2]at hu;refine wpIn_cond_false (by rw[hu];rfl) (wpIn_skip ?_);have ao:=((Q3 v u3).2 _ _ _ i).rebase (g k).1 (g k).2 p;have aB:=i.see.low;have cu:=S _ _ (S _ _ cm cr) (AS aB);have cw:=YU hJ aB cq;let⟨d6,e6⟩:=h4 k p q;show(jL c).wpIn Fence.wide 8 P _ A p;refine OR C R e6 ao λσ6 _ r6 a6 w6 cy bd=>?_
   have bi:=bd.see.low;refine⟨k+1,⟨q,((Q3 p cy).2 _ _ _ bd).rebase (g (k+1)).1 (g (k+1)).2 w6,S _ _ cu (AS bi),?_⟩,x3⟩;have h7:=YU hJ bi cw;rw[show m+(k+1)=m+k+1 by omega,Rj (by rw[List.length_attach];omega),List.getElem_attach];exact h7
  ·refine after false v λN r5 A p u i=>?_
   let⟨s,u1,u2,u3⟩:=QI u;have hu:=(QB i.see u1).1;rw[u2]at hu;refine wpIn_cond_true (by rw[hu];rfl) (wpIn_ret ?_);show Q .ret A p;exact H A p _ (YU bY i.see.low al) i.defers
 ·have bk:k=n:=x3;subst bk;refine wpIn_seq (wpIn_cond_false (by rw[he];simp[SV.den]) (wpIn_exit ?_));show(if jQ c=jQ c then Q .normal a1 I else _);rw[if_pos rfl];exact G a1 I X L Z
end
abbrev Hxq(y:Nat):y9:=.pointer (some ⟨y,0,none⟩)
abbrev Hxr(l:Nat):y9:=.func (.yield l) #[] #[]
variable{y cb cc kp kr:Nat}{us:Nat->y9}{Uc:Nat->Nat}{ν ε:Nm}{δ vars ζ:Int}{Ap Ar:m3}
def pp{l:Nat}{cs:Nat}{D:Nat->m3}{E:Nat->Nat}{bx:List (Nm×Nm)}{I nr:Nat}(k:okL0 bx κ ct)(W:m0)(w:Bx W y 35 #[Θ δ,Θ vars,Ω Ab bx.length cb,Ω As κ.length cs,Ω Ap I kp,Ω Ar nr kr,Ξ ν.b,Ψ ν.s,Θ ν.e,Ξ ε.b,Ψ ε.s,Θ ε.e,Θ ζ,Ω Ac ct.length cc])(F:RdK W Ab bx.length 6 (λj=>JR (QN bx j)))(G:RdK W As κ.length 1 (λj=>[us j]))(J:∀j,j<κ.length->SlV lo 3 VT W (Qu κ j) (us j))(H:RdK W Ac ct.length 6 (sC ct D E Uc)):BQ prog tt W f89 (Qc5 (V4 4 f89) (λy:Hp=>(⟨69,[(0,.val (.func (.yield l) #[] #[])),(3,lV y.1 (Qk ν ε bx κ ct).length y.2)],[],[]⟩:St)) 0 (λy:Hp=>Qc 32 3 Xk (Qk ν ε bx κ ct) y.1 y.2) True) (SH 69 [.func (.yield l) #[] #[],x02 y]) [x03 0 1 (nA ν),x03 0 3 (nA ε),.row 1 99999 0 [3,16] 32 3 Xk ([ν,ε]) (λ(v:Hp)=>[x03 1 2 (Ω Ab bx.length cb),B2 (λ(q1:Nat×Hp)=>(⟨69,[(0,.val (.func (.yield l) #[] #[])),(1,.val (x02 y)),(3,lV q1.2.1 (([ν,ε]++(bx.take q1.1).flatMap λs=>[s.1,s.2])).length q1.2.2),(19,lV Ab bx.length cb),(20,iV (bx.length:Int)),(21,iV (q1.1:Int))],[],[some (Qc 32 3 Xk ([ν,ε]++(bx.take q1.1).flatMap λs=>[s.1,s.2]) q1.2.1 q1.2.2)]⟩:St)) bx.length (0,v) (λ(q1:Nat×Hp)=>[.both [x03 3 0 (.pointer (some (Q5 Ab (q1.1*6+0)))),x03 3 1 (.agg #[Ξ ((QN bx q1.1).1.b),Ψ ((QN bx q1.1).1.s),Θ ((QN bx q1.1).1.e),Ξ ((QN bx q1.1).2.b),Ψ ((QN bx q1.1).2.s),Θ ((QN bx q1.1).2.e)]),x08 4 6 0 (λ(g:Hp)=>(Ω g.1 (([ν,ε]++(bx.take (q1.1+1)).flatMap λs=>[s.1,s.2])).length g.2,Qc 32 3 Xk ([ν,ε]++(bx.take (q1.1+1)).flatMap λs=>[s.1,s.2]) g.1 g.2,[x05 5 0 (iV ((q1.1+1:Nat):Int)),.nxt [g]]))] [x03 6 2 (Ω As κ.length cs),B2 (λ(d:Nat×Hp)=>(⟨69,[(0,.val (.func (.yield l) #[] #[])),(1,.val (x02 y)),(3,lV d.2.1 ((([ν,ε]++bx.flatMap λs=>[s.1,s.2])++(κ.take d.1).flatMap λp=>p)).length d.2.2),(35,lV As κ.length cs),(36,iV (κ.length:Int)),(37,iV (d.1:Int))],[],[some (Qc 32 3 Xk (([ν,ε]++bx.flatMap λs=>[s.1,s.2])++(κ.take d.1).flatMap λp=>p) d.2.1 d.2.2)]⟩:St)) κ.length (0,q1.2) (λ(d:Nat×Hp)=>[.both [x03 8 0 (.pointer (some (Q5 As (d.1*1+0)))),x03 8 1 (us d.1),x08 9 2 0 (λ(g:Hp)=>(Ω g.1 ((([ν,ε]++bx.flatMap λs=>[s.1,s.2])++(κ.take (d.1+1)).flatMap λp=>p)).length g.2,Qc 32 3 Xk (([ν,ε]++bx.flatMap λs=>[s.1,s.2])++(κ.take (d.1+1)).flatMap λp=>p) g.1 g.2,[x05 10 0 (iV ((d.1+1:Nat):Int)),.nxt [g]]))] [x03 11 1 (Ω Ac ct.length cc),B2 (λ(a:Nat×Hp)=>(⟨69,[(0,.val (.func (.yield l) #[] #[])),(1,.val (x02 y)),(3,lV a.2.1 (((([ν,ε]++bx.flatMap λs=>[s.1,s.2])++κ.flatMap λp=>p)++(ct.take a.1).flatMap λn=>[n.ο])).length a.2.2),(46,lV Ac ct.length cc),(47,iV (ct.length:Int)),(48,iV (a.1:Int))],[],[some (Qc 32 3 Xk ((([ν,ε]++bx.flatMap λs=>[s.1,s.2])++κ.flatMap λp=>p)++(ct.take a.1).flatMap λn=>[n.ο]) a.2.1 a.2.2)]⟩:St)) ct.length (0,d.2) (λ(a:Nat×Hp)=>[.both [x03 13 0 (.pointer (some (Q5 Ac (a.1*6+0)))),x03 13 1 (.agg #[Θ ((Qn ct a.1).split),Ξ ((Qn ct a.1).ο.b),Ψ ((Qn ct a.1).ο.s),Θ ((Qn ct a.1).ο.e),Θ ((Qn ct a.1).sum.vars),Ω (D a.1) (E a.1) (Uc a.1)]),x08 14 4 0 (λ(g:Hp)=>(Ω g.1 (((([ν,ε]++bx.flatMap λs=>[s.1,s.2])++κ.flatMap λp=>p)++(ct.take (a.1+1)).flatMap λn=>[n.ο])).length g.2,Qc 32 3 Xk ((([ν,ε]++bx.flatMap λs=>[s.1,s.2])++κ.flatMap λp=>p)++(ct.take (a.1+1)).flatMap λn=>[n.ο]) g.1 g.2,[x05 15 0 (iV ((a.1+1:Nat):Int)),.nxt [g]]))] [.esc 16]])]])]])])] (λ_ _ _=>False) :=
 XG (Ja (nU (o:=6) w (by first|decide|exact L8 rfl)) (nU (o:=9) w (by first|decide|exact L8 rfl)) (show([Ξ ν.b,Ψ ν.s,Θ ν.e,Ξ ε.b,Ψ ε.s,Θ ε.e]:o3)=List.flatMap Xk ([ν,ε])from rfl)<|ai (p0 Xx (show([ν,ε]).length<=maxLen from(by simp[maxLen]))) λ(v:Hp)=>Yx (dg _ 2 w rfl) (qV (Hxr l)) (qV (Hxq y)) (show(Ω v.1 ([ν,ε]).length v.2:y9)=(Ω v.1 (([ν,ε]++(bx.take 0).flatMap λs=>[s.1,s.2])).length v.2)from x6) (qV (Ω Ab bx.length cb)) (qI (bx.length:Int)) (qI ((0:Nat):Int)) (Yq (Qc 32 3 Xk ([ν,ε]) v.1 v.2) (Qc 32 3 Xk ([ν,ε]++(bx.take 0).flatMap λs=>[s.1,s.2]) v.1 v.2) λ_ _ _ h=>XY x6 x6 h)<|ai (show 0<=bx.length from L7 _) λ(q1:Nat×Hp) (K:(q1.1<=bx.length))=>Xi (decide ((q1.1:Int)<(bx.length:Int))) (λr=>X0 (CR cb F q1.1 (Qt r)) (Eu F q1.1 0 (Qt r) x4 rfl rfl)<|ai (YJ W 48 32 2 2 Xk ([ν,ε]++(bx.take q1.1).flatMap λs=>[s.1,s.2]) ([(QN bx q1.1).1,(QN bx q1.1).2]) ([ν,ε]++(bx.take (q1.1+1)).flatMap λs=>[s.1,s.2]) q1.2.1 q1.2.2 ([Ξ ((QN bx q1.1).1.b),Ψ ((QN bx q1.1).1.s),Θ ((QN bx q1.1).1.e),Ξ ((QN bx q1.1).2.b),Ψ ((QN bx q1.1).2.s),Θ ((QN bx q1.1).2.e)]) ZY Xx Gn (tk (λs=>[s.1,s.2]) (nm0,nm0) (Qt r) [ν,ε]) (pi k (q1.1+1)) rfl rfl) λ(g:Hp)=>Yx (QD q1.1 (by have:=L0 r;have:=k.hb;have:=k.hs;have:=k.hc;omega)) (qV (Hxr l)) (qV (Hxq y)) (qV (Ω g.1 (([ν,ε]++(bx.take (q1.1+1)).flatMap λs=>[s.1,s.2])).length g.2)) (qV (Ω Ab bx.length cb)) (qI (bx.length:Int)) (qI (((q1.1+1):Nat):Int)) (Yq (Qc 32 3 Xk ([ν,ε]++(bx.take (q1.1+1)).flatMap λs=>[s.1,s.2]) g.1 g.2) (Qc 32 3 Xk ([ν,ε]++(bx.take (q1.1+1)).flatMap λs=>[s.1,s.2]) g.1 g.2) λ_ _ _ h=>h)<|ai (show q1.1+1<=bx.length from Qt r) (show bx.length-(q1.1+1)<bx.length-q1.1 from hA (L0 r))) λr=>Yx (GU _ 3 w rfl) (qV (Hxr l)) (qV (Hxq y)) (show(Ω q1.2.1 (([ν,ε]++(bx.take q1.1).flatMap λs=>[s.1,s.2])).length q1.2.2:y9)=(Ω q1.2.1 ((([ν,ε]++bx.flatMap λs=>[s.1,s.2])++(κ.take 0).flatMap λp=>p)).length q1.2.2)from(by rw[Jg (λs=>[s.1,s.2]) (show bx.length<=q1.1 by have:=L1 r;omega) [ν,ε]];simp)) (qV (Ω As κ.length cs)) (qI (κ.length:Int)) (qI ((0:Nat):Int)) (Yq (Qc 32 3 Xk ([ν,ε]++(bx.take q1.1).flatMap λs=>[s.1,s.2]) q1.2.1 q1.2.2) (Qc 32 3 Xk (([ν,ε]++bx.flatMap λs=>[s.1,s.2])++(κ.take 0).flatMap λp=>p) q1.2.1 q1.2.2) λ_ _ _ h=>XY (by rw[Jg (λs=>[s.1,s.2]) (show bx.length<=q1.1 by have:=L1 r;omega) [ν,ε]];simp) (by rw[Jg (λs=>[s.1,s.2]) (show bx.length<=q1.1 by have:=L1 r;omega) [ν,ε]];simp) h)<|ai (show 0<=κ.length from L7 _) λ(d:Nat×Hp) (L:(d.1<=κ.length))=>Xi (decide ((d.1:Int)<(κ.length:Int))) (λq=>X0 (Zy cs G d.1 (Qt q)) (J6 G d.1 0 (Qt q) x4 rfl)<|ai (Gf W 48 Xk (([ν,ε]++bx.flatMap λs=>[s.1,s.2])++(κ.take d.1).flatMap λp=>p) (Qu κ d.1) (([ν,ε]++bx.flatMap λs=>[s.1,s.2])++(κ.take (d.1+1)).flatMap λp=>p) d.2.1 d.2.2 (us d.1) CE Xx Gn (tk (λp=>p) [] (Qt q) ([ν,ε]++bx.flatMap λs=>[s.1,s.2])) (pj k (d.1+1)) (λN x=>lC Xx x4 nm0 ((J d.1 (hA (L0 q))).below YH x))) λ(g:Hp)=>Yx (QD d.1 (by have:=L0 q;have:=k.hb;have:=k.hs;have:=k.hc;omega)) (qV (Hxr l)) (qV (Hxq y)) (qV (Ω g.1 ((([ν,ε]++bx.flatMap λs=>[s.1,s.2])++(κ.take (d.1+1)).flatMap λp=>p)).length g.2)) (qV (Ω As κ.length cs)) (qI (κ.length:Int)) (qI (((d.1+1):Nat):Int)) (Yq (Qc 32 3 Xk (([ν,ε]++bx.flatMap λs=>[s.1,s.2])++(κ.take (d.1+1)).flatMap λp=>p) g.1 g.2) (Qc 32 3 Xk (([ν,ε]++bx.flatMap λs=>[s.1,s.2])++(κ.take (d.1+1)).flatMap λp=>p) g.1 g.2) λ_ _ _ h=>h)<|ai (show d.1+1<=κ.length from Qt q) (show κ.length-(d.1+1)<κ.length-d.1 from hA (L0 q))) λq=>Yx (Ey _ 13 w rfl) (qV (Hxr l)) (qV (Hxq y)) (show(Ω d.2.1 ((([ν,ε]++bx.flatMap λs=>[s.1,s.2])++(κ.take d.1).flatMap λp=>p)).length d.2.2:y9)=(Ω d.2.1 (((([ν,ε]++bx.flatMap λs=>[s.1,s.2])++κ.flatMap λp=>p)++(ct.take 0).flatMap λn=>[n.ο])).length d.2.2)from(by rw[Jg (λp=>p) (show κ.length<=d.1 by have:=L1 q;omega) ([ν,ε]++bx.flatMap λs=>[s.1,s.2])];simp)) (qV (Ω Ac ct.length cc)) (qI (ct.length:Int)) (qI ((0:Nat):Int)) (Yq (Qc 32 3 Xk (([ν,ε]++bx.flatMap λs=>[s.1,s.2])++(κ.take d.1).flatMap λp=>p) d.2.1 d.2.2) (Qc 32 3 Xk ((([ν,ε]++bx.flatMap λs=>[s.1,s.2])++κ.flatMap λp=>p)++(ct.take 0).flatMap λn=>[n.ο]) d.2.1 d.2.2) λ_ _ _ h=>XY (by rw[Jg (λp=>p) (show κ.length<=d.1 by have:=L1 q;omega) ([ν,ε]++bx.flatMap λs=>[s.1,s.2])];simp) (by rw[Jg (λp=>p) (show κ.length<=d.1 by have:=L1 q;omega) ([ν,ε]++bx.flatMap λs=>[s.1,s.2])];simp) h)<|ai (show 0<=ct.length from L7 _) λ(a:Nat×Hp) (M:(a.1<=ct.length))=>Xi (decide ((a.1:Int)<(ct.length:Int))) (λt=>X0 (J4 cc H a.1 (Qt t)) (D7 H a.1 0 (Qt t) x4 rfl rfl)<|ai (YJ W 48 32 1 1 Xk ((([ν,ε]++bx.flatMap λs=>[s.1,s.2])++κ.flatMap λp=>p)++(ct.take a.1).flatMap λn=>[n.ο]) ([(Qn ct a.1).ο]) ((([ν,ε]++bx.flatMap λs=>[s.1,s.2])++κ.flatMap λp=>p)++(ct.take (a.1+1)).flatMap λn=>[n.ο]) a.2.1 a.2.2 ([Ξ ((Qn ct a.1).ο.b),Ψ ((Qn ct a.1).ο.s),Θ ((Qn ct a.1).ο.e)]) ZY Xx Gn (tk (λn=>[n.ο]) Eh (Qt t) (([ν,ε]++bx.flatMap λs=>[s.1,s.2])++κ.flatMap λp=>p)) (dR k (a.1+1)) rfl rfl) λ(g:Hp)=>Yx (QD a.1 (by have:=L0 t;have:=k.hb;have:=k.hs;have:=k.hc;omega)) (qV (Hxr l)) (qV (Hxq y)) (qV (Ω g.1 (((([ν,ε]++bx.flatMap λs=>[s.1,s.2])++κ.flatMap λp=>p)++(ct.take (a.1+1)).flatMap λn=>[n.ο])).length g.2)) (qV (Ω Ac ct.length cc)) (qI (ct.length:Int)) (qI (((a.1+1):Nat):Int)) (Yq (Qc 32 3 Xk ((([ν,ε]++bx.flatMap λs=>[s.1,s.2])++κ.flatMap λp=>p)++(ct.take (a.1+1)).flatMap λn=>[n.ο]) g.1 g.2) (Qc 32 3 Xk ((([ν,ε]++bx.flatMap λs=>[s.1,s.2])++κ.flatMap λp=>p)++(ct.take (a.1+1)).flatMap λn=>[n.ο]) g.1 g.2) λ_ _ _ h=>h)<|ai (show a.1+1<=ct.length from Qt t) (show ct.length-(a.1+1)<ct.length-a.1 from hA (L0 t))) λt=>X0 (show V4 4 f89=some (K7 4 f89)from x5) trivial<|(show ∃y:Hp,(∀(z:y9) (B:Nat->Prop) (C:m0),(Qc 32 3 Xk ((([ν,ε]++bx.flatMap λs=>[s.1,s.2])++κ.flatMap λp=>p)++(ct.take a.1).flatMap λn=>[n.ο]) a.2.1 a.2.2).φ z B C->(Qc 32 3 Xk (Qk ν ε bx κ ct) y.1 y.2).φ z B C)/\((.func (.yield l) #[] #[]:y9)=.func (.yield l) #[] #[])/\((Ω a.2.1 (((([ν,ε]++bx.flatMap λs=>[s.1,s.2])++κ.flatMap λp=>p)++(ct.take a.1).flatMap λn=>[n.ο])).length a.2.2:y9)=Ω y.1 (Qk ν ε bx κ ct).length y.2)/\True from⟨a.2,λz B C h=>XY (by rw[Jg (λn=>[n.ο]) (show ct.length<=a.1 by have:=L1 t;omega) (([ν,ε]++bx.flatMap λs=>[s.1,s.2])++κ.flatMap λp=>p)];rfl) (by rw[Jg (λn=>[n.ο]) (show ct.length<=a.1 by have:=L1 t;omega) (([ν,ε]++bx.flatMap λs=>[s.1,s.2])++κ.flatMap λp=>p)];rfl) h,rfl,(by rw[Jg (λn=>[n.ο]) (show ct.length<=a.1 by have:=L1 t;omega) (([ν,ε]++bx.flatMap λs=>[s.1,s.2])++κ.flatMap λp=>p)];rfl),trivial⟩)) x5
def QdM(A:m3)(cp:Nat)(l:Nat)(ν ε:Nm)(bx:List (Nm×Nm))(κ:List (List Nm))(ct:List Nd)(W:m0):XE prog tt (Kj prog tt W) (0,0) W (Zs (K7 4 f89)) (⟨69,[(0,.val (.func (.yield l) #[] #[])),(3,lV A (Qk ν ε bx κ ct).length cp)],[],[]⟩:St) [] (λe σ _=>Jf e (Yb σ (⟨69,[(0,.val (.func (.yield l) #[] #[])),(58,lV A (Qk ν ε bx κ ct).length cp),(59,iV (((Qk ν ε bx κ ct).length:Nat):Int)),(60,iV ((0:Nat):Int))],[],[]⟩:St) True)) :=
 XG (Ky (qV (.func (.yield l) #[] #[])) (qV (Ω A (Qk ν ε bx κ ct).length cp)) (qI (((Qk ν ε bx κ ct).length:Nat):Int)) (qI ((0:Nat):Int))<|trivial) x5
def QdN{A:m3}{l:Nat}{bx:List (Nm×Nm)}(k:Nat)(W:m0):XE prog tt (Kj prog tt W) (0,0) W (U9 (QE (K7 4 f89))) (⟨69,[(0,.val (.func (.yield l) #[] #[])),(58,lV A (Qk ν ε bx κ ct).length a),(59,iV (((Qk ν ε bx κ ct).length:Nat):Int)),(60,iV (k:Int))],[],[]⟩:St) [] (λe σ _=>Jf e (Vz σ (ck (QE (K7 4 f89))) λs=>s=.val (Ξ (decide ((k:Int)<(((Qk ν ε bx κ ct).length:Nat):Int))))/\Yb σ (⟨69,[(0,.val (.func (.yield l) #[] #[])),(58,lV A (Qk ν ε bx κ ct).length a),(59,iV (((Qk ν ε bx κ ct).length:Nat):Int)),(60,iV (k:Int))],[],[]⟩:St) True)) :=
 XG (KJ (show((.val (Ξ (decide ((k:Int)<(((Qk ν ε bx κ ct).length:Nat):Int)))):SV)=bV (decide ((k:Int)<(((Qk ν ε bx κ ct).length:Nat):Int))))from rfl) (qV (.func (.yield l) #[] #[])) (qV (Ω A (Qk ν ε bx κ ct).length a)) (qI (((Qk ν ε bx κ ct).length:Nat):Int)) (qI (k:Int))<|trivial) x5
def QdO{A:m3}{l:Nat}{bx:List (Nm×Nm)}(k:Nat)(b:k<(Qk ν ε bx κ ct).length)(W:m0)(f:RdK W A (Qk ν ε bx κ ct).length 3 (λj=>Xk (Xm (Qk ν ε bx κ ct) j))):XE prog tt (Kj prog tt W) (0,0) W (U0 (QE (K7 4 f89))) (⟨69,[(0,.val (.func (.yield l) #[] #[])),(58,lV A (Qk ν ε bx κ ct).length a),(59,iV (((Qk ν ε bx κ ct).length:Nat):Int)),(60,iV (k:Int))],[],[]⟩:St) [x03 18 0 (.pointer (some (Q5 A (k*3+0)))),x03 18 1 (nA (Xm (Qk ν ε bx κ ct) k))] (λe σ d=>Jf e (KC prog tt (Kj prog tt W) W (ed (C3 (QE (K7 4 f89)))) (V9 (C3 (QE (K7 4 f89)))) ((V9 (C3 (QE (K7 4 f89)))).toList.take 2) 0 σ d λσ _=>v1 σ (.tmp 64) λg=>vL σ [.tmp 65] λvs=>g=.func (.yield l) #[] #[]/\vs=[(nA (Xm (Qk ν ε bx κ ct) k):y9)]/\Yb σ (⟨69,[(0,.val (.func (.yield l) #[] #[])),(58,lV A (Qk ν ε bx κ ct).length a),(59,iV (((Qk ν ε bx κ ct).length:Nat):Int)),(60,iV (k:Int))],[],[]⟩:St) True)) :=
 XG (Yx (Gi a _ f k b) (JW f k 0 b x4 rfl rfl) (qV (.func (.yield l) #[] #[])) (show(([nA (Xm (Qk ν ε bx κ ct) k)]:o3)=[(nA (Xm (Qk ν ε bx κ ct) k):y9)])from rfl) (qV (.func (.yield l) #[] #[])) (qV (Ω A (Qk ν ε bx κ ct).length a)) (qI (((Qk ν ε bx κ ct).length:Nat):Int)) (qI (k:Int))<|trivial) x5
def QdP{A:m3}{l:Nat}{bx:List (Nm×Nm)}(k:Nat)(b:Bool)(W:m0):KC prog tt (Kj prog tt W) W (ed (C3 (QE (K7 4 f89)))) (V9 (C3 (QE (K7 4 f89)))) ((V9 (C3 (QE (K7 4 f89)))).toList.drop 3) 3 ((⟨69,[(0,.val (.func (.yield l) #[] #[])),(58,lV A (Qk ν ε bx κ ct).length a),(59,iV (((Qk ν ε bx κ ct).length:Nat):Int)),(60,iV (k:Int))],[],[]⟩:St).push (some 66) (bV b)) [] (λσ _=>Vz σ (jM (QE (K7 4 f89))) λs=>s=.val (Ξ (!b))/\Yb σ (⟨69,[(0,.val (.func (.yield l) #[] #[])),(58,lV A (Qk ν ε bx κ ct).length a),(59,iV (((Qk ν ε bx κ ct).length:Nat):Int)),(60,iV (k:Int))],[],[]⟩:St) True) :=
 XG (KJ (show((.val (Ξ (!b)):SV)=bV (!b))from rfl) (qV (.func (.yield l) #[] #[])) (qV (Ω A (Qk ν ε bx κ ct).length a)) (qI (((Qk ν ε bx κ ct).length:Nat):Int)) (qI (k:Int))<|trivial) x5
def QdQ{A:m3}{l:Nat}{bx:List (Nm×Nm)}(k:Nat)(b:k<4611686018427387904)(W:m0):XE prog tt (Kj prog tt W) (0,0) W (jL (QE (K7 4 f89))) (⟨69,[(0,.val (.func (.yield l) #[] #[])),(58,lV A (Qk ν ε bx κ ct).length a),(59,iV (((Qk ν ε bx κ ct).length:Nat):Int)),(60,iV (k:Int))],[],[]⟩:St) [x05 20 0 (iV ((k+1:Nat):Int))] (λe σ _=>Jf e (Yb σ (⟨69,[(0,.val (.func (.yield l) #[] #[])),(58,lV A (Qk ν ε bx κ ct).length a),(59,iV (((Qk ν ε bx κ ct).length:Nat):Int)),(60,iV ((k+1:Nat):Int))],[],[]⟩:St) True)) :=
 XG (KJ (QD k x3) (qV (.func (.yield l) #[] #[])) (qV (Ω A (Qk ν ε bx κ ct).length a)) (qI (((Qk ν ε bx κ ct).length:Nat):Int)) (qI ((k+1:Nat):Int))<|trivial) x5
def tc{b:m0}(h:KpC W b){p:Addr}(a:W.cell? p=some v):b.cell? p=some v:=by
 unfold World.cell? at a ⊢;split at a
 ·rename_i c t z e;rw[h.2 p.block _ e rfl];exact a
 ·cases a
def RQ{a:m0}{A:m3}{n:Nat}{f:Nat->o3}(g:∀j,(f j).length=k)(h:RdK W A n k f)(l:KpC W a):RdK a A n k f:=λm=>by
 let⟨b,off,e,o⟩:=h m;refine⟨b,off,e,λj p i c=>?_⟩;have d:=o j p i c;obtain⟨u,q⟩:∃u,(f j)[i]?=some u:=⟨_,p6 (by rw[g];exact c)⟩
 rw[q]at d ⊢;exact tc l d
def QaZ(c:Code)(i:Nat):Oper:=((V9 (C3 c)).toList[i]?).getD default
theorem Qbe{bx:List (Nm×Nm)}(a:okL0 bx κ ct)(ν ε:Nm):(Qk ν ε bx κ ct).length<4611686018427387904:=by
 have h:=dR (ν:=ν) (ε:=ε) a ct.length
 grind[Qk]
theorem Hj{cs:Nat}{M:Nat->m3}{N:Nat->Nat}{bx:List (Nm×Nm)}{S nr:Nat}(q:okL0 bx κ ct)(w:m0)(T:Bx w y 35 #[.int .i64 δ,.int .i64 vars,.slice Ab bx.length cb,.slice As κ.length cs,.slice Ap S kp,.slice Ar nr kr,.bool ν.b,.string ν.s,.int .i64 ν.e,.bool ε.b,.string ε.s,.int .i64 ε.e,.int .i64 ζ,.slice Ac ct.length cc])(U:RdK w Ab bx.length 6 (λj=>JR (QN bx j)))(V:RdK w As κ.length 1 (λj=>[us j]))(X:∀j,j<κ.length->SlV lo 3 VT w (Qu κ j) (us j))(Y:RdK w Ac ct.length 6 (sC ct M N Uc)):SeqStopsK Fence.wide 8 prog 89 #[.pointer (some ⟨y,0,none⟩)] (λx:{x // x∈(Qk ν ε bx κ ct)}=>#[nA x.1]) KpC (λZ=>Z=(Qk ν ε bx κ ct).attach) (λ_=>True) (Qk ν ε bx κ ct).length w:=by
 intro l J O W t H I hY h0;have u:=Qbe q ν ε;have h1:=T.later t;have h2:RdK W Ab bx.length 6 (λj=>JR (QN bx j)):=U.below (λ_=>rfl) t;have h3:RdK W As κ.length 1 (λj=>[us j]):=V.below (λ_=>rfl) t;have h4:∀j,j<κ.length->SlV lo 3 VT W (Qu κ j) (us j):=λj hj=>(X j hj).below YH t
 have h5:RdK W Ac ct.length 6 (sC ct M N Uc):=Y.below (λ_=>rfl) t;refine callsIn_wide.2 (jp (args:=[.func (.yield l) #[] #[],.pointer (some ⟨y,0,none⟩)]) Qm QU func89 x5 (pp (l:=l) q W h1 h2 h3 h4 h5) λb σ r a G he P=>?_);let⟨hb,_,⟨A,Q⟩,hφ,K⟩:=jJ he P;rw[<- Ns hb,show(K7 4 f89)=.seq (Zs (K7 4 f89)) (QE (K7 4 f89))from x5];have z:RdK G A (Qk ν ε bx κ ct).length 3 (λj=>Xk (Xm (Qk ν ε bx κ ct) j)):=JN Xx nm0 hφ;refine(wpIn_wide (n:=8)).1 (wpIn_seq (OR Qm QU (QdM A Q l ν ε bx κ ct G) (K.rebase rfl rfl G) λσ2 _ r2 a2 w2 hp B=>?_));have L:=(Q3 G hp).2 _ _ _ B;have C:=B.see.low;have p:RdK w2 A (Qk ν ε bx κ ct).length 3 (λj=>Xk (Xm (Qk ν ε bx κ ct) j)):=z.below (λ_=>rfl) C;have g:∀i:Act,i.defers=[]->∀d,((∃D,D=(Qk ν ε bx κ ct).attach/\J D d)\/(∃pre,True/\O pre d))->i.defers=[]/\∃v,(results f89 i.tmps).run prog d=.ok v d/\(∃v',Ending.returned v=.returned v')/\((∃D,D=(Qk ν ε bx κ ct).attach/\J D d)\/(∃pre,True/\O pre d)):=λi hd d h=>⟨hd,_,results_none x5 _ _ _,⟨_,rfl⟩,h⟩
 refine Ny Qm QU (c:=(QE (K7 4 f89))) x5 (τ:=λk=>(⟨69,[(0,.val (.func (.yield l) #[] #[])),(58,lV A (Qk ν ε bx κ ct).length Q),(59,iV (((Qk ν ε bx κ ct).length:Nat):Int)),(60,iV (k:Int))],[],[]⟩:St)) (λk=>⟨rfl,rfl⟩) (l:=l) (m:=0) (n:=(Qk ν ε bx κ ct).length) (xs:=(Qk ν ε bx κ ct)) (enc:=λx=>nA x) nm0 x3 (F:=λW=>RdK W A (Qk ν ε bx κ ct).length 3 (λj=>Xk (Xm (Qk ν ε bx κ ct) j))) (λW d h E=>RQ (λ_=>rfl) h E)
  (ci:=2) (dst:=66) (o:=QaZ (QE (K7 4 f89)) 2) x5 (f:=.tmp 64) (args:=[.tmp 65]) x5 x5 (λk=>rfl) x5
  (λk W _ _=>⟨_,QdN k W⟩) (λk W E hF=>⟨_,by rw[Lm];exact QdO k E W hF⟩) (λk W b _=>⟨_,QdP k b W⟩) (λk W E=>⟨_,QdQ k (Ut E u) W⟩)
  H I (λpre x W1 h hl=>hY pre x W1 h hl) L p (YU H C (YU H P.see.low h0)) (λi d k1 R k3=>?_) (λi d pre k1 R=>g i R d (.inr ⟨pre,trivial,k1⟩))
 refine g i k1.defers d (.inl ⟨_,rfl,?_⟩)
 grind[List.length_attach]
def oX(c:Code)(i:Nat):Oper:=((V9 c).toList[i]?).getD default
variable{a:Act}{b:Array Oper}{Q:Exit->Act->m0->Prop}
theorem E5{P:z4}{i:Nat}{K:Act->m0->Prop}(c:b[i]?=some o)(d:o.guard=none)(h:o.wp P a w K Q):wpOp P b Q i K a w:=by
 grind[wpOp,Region.wanted]
section
variable{P:z4}{Q:Exit->Act->m0->Prop}
theorem gO(t x d:Nat)(v:y9){a:Act}{w:m0}{K:Act->m0->Prop}(b:o.op=.load t (.tmp x))(c:o.dst=some d)(h:(Instr.loadAt t (a.tmps.getD x undef)).run P w=.ok v w)(f:K (a.put (some d) v) w):o.wp P a w K Q:=by
 unfold Oper.wp;have e:(execOp a.eval o).run P w=.ok (.value v) w:=by
  unfold execOp;rw[b];simp only[c7];rw[show a.eval (.tmp x)=a.tmps.getD x undef from rfl,h];rfl
 rw[e];show K (a.put o.dst v) w
 grind
def WN(t x y:Nat){a:Act}{w b:m0}{K:Act->m0->Prop}(c:o.op=.store t (.tmp x) (.tmp y))(d:o.dst=none)(h:(Instr.storeAt t (a.tmps.getD x undef) (a.tmps.getD y undef)).run P w=.ok () b)(f:K a b):o.wp P a w K Q:=by
 unfold Oper.wp;have e:(execOp a.eval o).run P w=.ok .skip b:=by
  unfold execOp;rw[c];simp only[c7];rw[show a.eval (.tmp x)=a.tmps.getD x undef from rfl,show a.eval (.tmp y)=a.tmps.getD y undef from rfl,h];rfl
 rw[e];show K (a.put o.dst undef) b;rw[d];exact f
theorem oY{a:Act}{w:m0}{K:Act->m0->Prop}(b:o.op=.assign (.const v))(c:o.dst=some d)(f:K (a.put (some d) v) w):o.wp P a w K Q:=by
 unfold Oper.wp;have e:(execOp a.eval o).run P w=.ok (.value v) w:=by
  unfold execOp;rw[b];rfl
 rw[e];show K (a.put o.dst v) w
 grind
end
structure ShK (W:World) (N b1 b2:Nat) (lv dp:Int) (l0 l1 l4:Bool) (a:Act) (w:World):Prop where
 sz:a.tmps.size=N
 df:a.defers=[]
 p2:a.tmps.getD 2 undef=.pointer (some ⟨b1,0,none⟩)
 p3:a.tmps.getD 3 undef=.pointer (some ⟨b2,0,none⟩)
 v0:l0=true->a.tmps.getD 10 undef=.int .i64 lv
 v1:l1=true->a.tmps.getD 11 undef=.int .i64 dp
 v4:l4=true->a.tmps.getD 4 undef=.bool true
 x1:Bx w b1 3 #[.int .i64 lv]
 x2:Bx w b2 3 #[.int .i64 dp]
 lo:Below W.heap.size W w
 n1:W.heap.size<=b1
 n2:W.heap.size<=b2
theorem Z5(h:d≠k):(a.put (some d) v).tmps.getD k undef=a.tmps.getD k undef:=by
 show(a.tmps.setIfInBounds d v).getD k undef=_;simp_all
theorem BV(h:d<a.tmps.size):(a.put (some d) v).tmps.getD d undef=v:=by
 show(a.tmps.setIfInBounds d v).getD d undef=_;simp_all
section
variable{W:m0}{N b1 b2:Nat}{lv dp:Int}{l0 l1 l4:Bool}{a:Act}{w:m0}
def ShK.s0(h:ShK W N b1 b2 lv dp l0 l1 l4 a w)(b:12<=N):ShK W N b1 b2 lv dp true l1 l4 (a.put (some 10) (.int .i64 lv)) w :=
 ⟨by simp[Act.put,h.sz],h.df,(Z5 x4).trans h.p2,(Z5 x4).trans h.p3,λ_=>BV (by rw[h.sz];omega),λe=>(Z5 x4).trans (h.v1 e),λe=>(Z5 x4).trans (h.v4 e),h.x1,h.x2,h.lo,h.n1,h.n2⟩
def ShK.s1(h:ShK W N b1 b2 lv dp l0 l1 l4 a w)(b:12<=N):ShK W N b1 b2 lv dp l0 true l4 (a.put (some 11) (.int .i64 dp)) w :=
 ⟨by simp[Act.put,h.sz],h.df,(Z5 x4).trans h.p2,(Z5 x4).trans h.p3,λe=>(Z5 x4).trans (h.v0 e),λ_=>BV (by rw[h.sz];omega),λe=>(Z5 x4).trans (h.v4 e),h.x1,h.x2,h.lo,h.n1,h.n2⟩
def ShK.s4(h:ShK W N b1 b2 lv dp l0 l1 l4 a w)(b:12<=N):ShK W N b1 b2 lv dp l0 l1 true (a.put (some 4) (.bool true)) w :=
 ⟨by simp[Act.put,h.sz],h.df,(Z5 x4).trans h.p2,(Z5 x4).trans h.p3,λe=>(Z5 x4).trans (h.v0 e),λe=>(Z5 x4).trans (h.v1 e),λ_=>BV (by rw[h.sz];omega),h.x1,h.x2,h.lo,h.n1,h.n2⟩
def ShK.put(h:ShK W N b1 b2 lv dp l0 l1 l4 a w)(b:m0)(c:Bx b b1 3 #[.int .i64 lv])(d:Bx b b2 3 #[.int .i64 dp])(e:Below W.heap.size W b):ShK W N b1 b2 lv dp l0 l1 l4 a b :=
 ⟨h.sz,h.df,h.p2,h.p3,h.v0,h.v1,h.v4,c,d,e,h.n1,h.n2⟩
theorem Na{b:Nat}{z:Int}{w:m0}(h:Bx w b 3 #[.int .i64 z]):∃c,(Instr.storeAt 3 (.pointer (some ⟨b,0,none⟩)) (.int .i64 z)).run prog w=.ok () c/\(∀g t cs,Bx w g t cs->Bx c g t cs)/\(∀B,B<=b->Below B w c):=by
 have a:=Vo prog 3 0 (.int .i64 z) (Qm 3 _ rfl) h rfl (L4 1) (λv i=>by obtain rfl:=Ly.1 (show v∈[Value.int .i64 z]from i);rfl);refine⟨_,a,λg t cs d=>?_,λB l=>?_⟩
 ·by_cases e:g=b
  ·subst e;have j:=h.stores [.int .i64 z] 0;have f:=(show w.heap[g]?=some (.cells #[.int .i64 z] 3 (0,0))from h).symm.trans (show w.heap[g]?=some (.cells cs t (0,0))from d);simp only[Option.some.injEq,Obj.cells.injEq,and_true]at f;obtain⟨rfl,rfl⟩:=f;exact j
  ·exact d.farN e _ _
 ·refine⟨rfl,rfl,rfl,?_,λk m=>?_⟩;all_goals grind[Jd,JC]
end
theorem wz{N b1 b2:Nat}{lv dp:Int}(h:ShK W N b1 b2 lv dp true true true a w)(l:b1≠b2):
  Sat W (⟨N,[(2,.ptr 0 0),(3,.ptr 1 0),(4,bV true)],[some (3,[iV lv]),some (3,[iV dp])],[]⟩:St) ⟨λi=>if i=0 then b1 else b2,λ_=>.bool false,λ_ _=>False⟩ a w:=by
 have f:∀i p,Xq [some (3,[SV.val (.int .i64 lv)]),some (3,[SV.val (.int .i64 dp)])] i=some p->(i=0/\p=(3,[SV.val (.int .i64 lv)]))\/(i=1/\p=(3,[SV.val (.int .i64 dp)])):=λi p b=>by
  match i,b with
  |0,b=>exact .inl ⟨rfl,(o7 b).symm⟩
  |1,b=>exact .inr ⟨rfl,(o7 b).symm⟩
  |n+2,b=>cases b
 refine⟨⟨h.lo,h.sz,λk s c=>?_,λi t cs b=>?_,(λi R b=>nomatch b),(λi b=>absurd b (R4 _))⟩,⟨λi p b=>?_,λi j p q b g m=>?_,(λi R b=>nomatch b),(λi j R R' b=>nomatch b),(λi j p R b g=>nomatch g)⟩,h.df⟩
 ·match k,c with
  |0,c=>cases c
  |1,c=>cases c
  |2,c=>obtain rfl:=o7 c;exact⟨h.p2,rfl⟩
  |3,c=>obtain rfl:=o7 c;exact⟨h.p3,rfl⟩
  |4,c=>obtain rfl:=o7 c;exact⟨h.v4 rfl,rfl⟩
  |n+5,c=>cases c
 ·rcases f i _ b with⟨rfl,e⟩|⟨rfl,e⟩
  ·injection e with d e2;subst d;subst e2;exact⟨h.x1,rfl⟩
  ·injection e with d e2;subst d;subst e2;exact⟨h.x2,rfl⟩
 ·rcases f i p b with⟨rfl,_⟩|⟨rfl,_⟩
  ·exact h.n1
  ·exact h.n2
 grind
noncomputable def shT:Code:=K7 3 f86
def kH(W:m0)(N b1 b2:Nat)(lv dp:Int)(l:12<=N)(h:ShK W N b1 b2 lv dp false false false a w)(u:∀b c,ShK W N b1 b2 lv dp true true true b c->Q .ret b c):shT.wp prog Q a w:=by
 rw[show shT=.seq (.region 4 (V9 (Zs shT)) true) .ret from x5];have z:(V9 (Zs shT))[0]?=some (oX (Zs shT) 0):=x5;have A:(V9 (Zs shT))[1]?=some (oX (Zs shT) 1):=x5;have B:(V9 (Zs shT))[2]?=some (oX (Zs shT) 2):=x5;have C:(V9 (Zs shT))[3]?=some (oX (Zs shT) 3):=x5;have D:(V9 (Zs shT))[4]?=some (oX (Zs shT) 4):=x5;refine wp_seq (wp_region_any QU ?_);rw[show(V9 (Zs shT)).size=5 from x5];have k:∀ {K:Act->m0->Prop} {l0 l1 l4:Bool} {a:Act} {w:m0},ShK W N b1 b2 lv dp l0 l1 l4 a w->(∀c,ShK W N b1 b2 lv dp l0 l1 l4 a c->K a c)->(l0=true->wpOp prog (V9 (Zs shT)) (Exit.then (Code.ret.wp prog Q) Q) 2 K a w)/\(l1=true->wpOp prog (V9 (Zs shT)) (Exit.then (Code.ret.wp prog Q) Q) 3 K a w):=λ{K l0 l1 l4 a w} h g=>by
  constructor
  ·intro m;let⟨c,r1,j,n⟩:=Na h.x1;refine E5 B x5 (WN 3 2 10 x5 x5 (by rw[h.p2,h.v0 m];exact r1) (g c (h.put c (j _ _ _ h.x1) (j _ _ _ h.x2) (h.lo.trans (n _ h.n1)))))
  ·intro m;let⟨c,r1,j,n⟩:=Na h.x2;refine E5 C x5 (WN 3 3 11 x5 x5 (by rw[h.p3,h.v1 m];exact r1) (g c (h.put c (j _ _ _ h.x1) (j _ _ _ h.x2) (h.lo.trans (n _ h.n2)))))
 have q:∀ {K:Act->m0->Prop} {l0 l1 l4:Bool} {a:Act} {w:m0},ShK W N b1 b2 lv dp l0 l1 l4 a w->(∀b,ShK W N b1 b2 lv dp true l1 l4 b w->K b w)->wpOp prog (V9 (Zs shT)) (Exit.then (Code.ret.wp prog Q) Q) 0 K a w:=λ{K l0 l1 l4 a w} h g =>
  E5 z x5 (gO 3 2 10 (.int .i64 lv) x5 x5 (by rw[h.p2];exact Ze _ _ h.x1 rfl (cs:=[.int .i64 lv]) _ (p5 _ _)) (g _ (h.s0 l)))
 have k1:∀ {K:Act->m0->Prop} {l0 l1 l4:Bool} {a:Act} {w:m0},ShK W N b1 b2 lv dp l0 l1 l4 a w->(∀b,ShK W N b1 b2 lv dp l0 true l4 b w->K b w)->wpOp prog (V9 (Zs shT)) (Exit.then (Code.ret.wp prog Q) Q) 1 K a w:=λ{K l0 l1 l4 a w} h g =>
  E5 A x5 (gO 3 3 11 (.int .i64 dp) x5 x5 (by rw[h.p3];exact Ze _ _ h.x2 rfl (cs:=[.int .i64 dp]) _ (p5 _ _)) (g _ (h.s1 l)))
 have E:∀a w,ShK W N b1 b2 lv dp true true false a w->wpAny prog .any (V9 (Zs shT)) (Exit.then (Code.ret.wp prog Q) Q) 1 #[true,true,true,true,false] a w:=λa w h =>
  wpAny_all (rs:=[4]) x5 x6 λi e=>by
   obtain rfl:=Ly.1 e;refine E5 D x5 (oY (d:=4) (v:=.bool true) x5 x5 ?_);exact wpAny_done x5 (wp_ret (u _ _ (h.s4 l))) 0
 have r:∀a w,ShK W N b1 b2 lv dp true true false a w->wpAny prog .any (V9 (Zs shT)) (Exit.then (Code.ret.wp prog Q) Q) 2 #[true,true,true,false,false] a w:=λa w h =>
  wpAny_all (rs:=[3]) x5 x6 λi e=>by
   obtain rfl:=Ly.1 e;exact(k h λc f=>E a c f).2 rfl
 have e2:∀a w,ShK W N b1 b2 lv dp true true false a w->wpAny prog .any (V9 (Zs shT)) (Exit.then (Code.ret.wp prog Q) Q) 3 #[true,true,false,false,false] a w:=λa w h =>
  wpAny_all (rs:=[2]) x5 x6 λi e=>by
   obtain rfl:=Ly.1 e;exact(k h λc f=>r a c f).1 rfl
 have o:∀a w,ShK W N b1 b2 lv dp true false false a w->wpAny prog .any (V9 (Zs shT)) (Exit.then (Code.ret.wp prog Q) Q) 3 #[true,false,true,false,false] a w:=λa w h =>
  wpAny_all (rs:=[1]) x5 x6 λi e=>by
   obtain rfl:=Ly.1 e;exact k1 h λb f=>r b w f
 have F:∀a w,ShK W N b1 b2 lv dp true false false a w->wpAny prog .any (V9 (Zs shT)) (Exit.then (Code.ret.wp prog Q) Q) 4 #[true,false,false,false,false] a w:=λa w h =>
  wpAny_all (rs:=[1,2]) x5 x6 λi e=>by
   rcases Lb.1 e with rfl|e
   ·exact k1 h λb f=>e2 b w f
   ·obtain rfl:=Ly.1 e;exact(k h λc f=>o a c f).1 rfl
 have p:∀a w,ShK W N b1 b2 lv dp false true false a w->wpAny prog .any (V9 (Zs shT)) (Exit.then (Code.ret.wp prog Q) Q) 4 #[false,true,false,false,false] a w:=λa w h =>
  wpAny_all (rs:=[0]) x5 x6 λi e=>by
   obtain rfl:=Ly.1 e;exact q h λb f=>e2 b w f
 have s:ShK W N b1 b2 lv dp false false false a { w with drawn:=w.drawn+1 }:=h.put _ h.x1.drew h.x2.drew h.lo.drew;refine wpAny_all (rs:=[0,1]) x5 x6 λi e=>?_
 rcases Lb.1 e with rfl|e
 ·exact q s λb f=>F b _ f
 ·obtain rfl:=Ly.1 e;exact k1 s λb f=>p b _ f
theorem n_1{n:Nat}(h:0<n)(a:n<=4294967296):IntKind.i64.wrap ((n:Int)-1)=((n-1:Nat):Int):=by
 grind[Le]
abbrev Hxs(ct:List Nd)(q1:Nat×Hp):=((YM ct q1.1).take ((YM ct q1.1).length-1))++[IntKind.i64.wrap (NM (YM ct q1.1)+1),IntKind.i64.wrap (NM (YM ct q1.1)+1)]
def wE{H:Nat->m3}{I:Nat->Nat}(W:m0)(B:RdK W Ac ct.length 6 (sC ct H I Uc)):BQ prog tt W f86 (mP (V4 3 f86) (⟨12,[(2,.ptr 1 0),(3,.ptr 2 0)],[none,some (3,[iV (OH ct ct.length)]),some (3,[iV (PH ct ct.length)])],[]⟩:St) (NB ct=true)) (SH 12 [Ω Ac ct.length cc]) [.inl 1 2 f117,.both [] [.row 4 99999 3 [5,12] 3 1 Cp ([0]) (λ(v:Hp)=>[x0a ((0,v):Nat×Hp) (λ(q1:Nat×Hp) (u:List Hp)=>(q1.1+1,u.headD (none,0))) (λ(q1:Nat×Hp)=>((⟨53,[(0,lV Ac ct.length cc),(1,.clo (.func 118) [] [.ptr 0 0,.ptr 1 0,.ptr 2 0]),(5,lV q1.2.1 ((YM ct q1.1)).length q1.2.2),(13,lV Ac ct.length cc),(14,iV (ct.length:Int)),(15,iV (q1.1:Int))],[none,some (3,[iV (OH ct q1.1)]),some (3,[iV (PH ct q1.1)])],[some (Qc 3 1 Cp (YM ct q1.1) q1.2.1 q1.2.2)]⟩:St),(q1.1<=ct.length/\∀j,j<q1.1->((((YM ct j).length:Nat):Int)==0)=false),(ct.length-q1.1),[.both [x03 6 1 (.pointer (some (Q5 Ac (q1.1*6+0)))),x03 6 2 (.agg #[Θ ((Qn ct q1.1).split),Ξ ((Qn ct q1.1).ο.b),Ψ ((Qn ct q1.1).ο.s),Θ ((Qn ct q1.1).ο.e),Θ ((Qn ct q1.1).sum.vars),Ω (H q1.1) (I q1.1) (Uc q1.1)]),.both [] [x05 9 3 (iV (((YM ct q1.1).length-1:Nat):Int)),x06 9 4 [0] (.pointer (some (Q5 q1.2.1 (((YM ct q1.1).length-1)*1+0)))),x06 9 5 [0] (Θ (List.getD (YM ct q1.1) ((YM ct q1.1).length-1) 0)),x05 10 3 (iV (((YM ct q1.1).length-1:Nat):Int)),x08 10 4 0 (λ(f:Hp)=>(Ω f.1 (((YM ct q1.1).take ((YM ct q1.1).length-1))).length f.2,Qc 3 1 Cp ((YM ct q1.1).take ((YM ct q1.1).length-1)) f.1 f.2,[.inl 11 3 f118,x03 1 2 (.pointer (some (Q5 Ac (q1.1*6+0)))),x03 1 4 (Θ ((Qn ct q1.1).split)),.both [x03 3 2 (Θ (PH ct (q1.1+1))),.br false,.br false,x05 15 0 (iV ((q1.1+1:Nat):Int)),.nxt [f]] [x03 3 2 (Θ (PH ct (q1.1+1))),.br false,.br true,x08 14 6 0 (λ(p:Hp)=>(Ω p.1 ((((YM ct q1.1).take ((YM ct q1.1).length-1))++[IntKind.i64.wrap (NM (YM ct q1.1)+1),IntKind.i64.wrap (NM (YM ct q1.1)+1)])).length p.2,Qc 3 1 Cp (((YM ct q1.1).take ((YM ct q1.1).length-1))++[IntKind.i64.wrap (NM (YM ct q1.1)+1),IntKind.i64.wrap (NM (YM ct q1.1)+1)]) p.1 p.2,[x05 15 0 (iV ((q1.1+1:Nat):Int)),.nxt [p]]))]]))]] [.both [] [.esc 4]]]))])]] (λe σ _=>VV tt (f86).results.toList e σ λs=>Z6 s.plain (s.den e0=qu ct)) :=
 let C:OB:=some (33,[lV Ac ct.length cc]);XG (X0 func117 (λa w=>call117 a w)<|Xi (decide ((ct.length:Int)>4096)) (λr=>(show(.tuple #[Θ 0,Θ 0,Ξ false]:y9)=qu ct from by have x:NB ct=false:=(by unfold NB;rw[r];rfl);unfold qu;rw[x];rfl)) λr=>ai (show([Θ 0]:o3)=List.flatMap Cp ([0])from rfl)<|ai (p0 BX (show([0]).length<=maxLen from(by simp[maxLen]))) λ(v:Hp)=>Yx (qV (Ω Ac ct.length cc)) (Rx (.func 118:Fn)) (qV (Ω v.1 ((YM ct 0)).length v.2)) (qV (Ω Ac ct.length cc)) (qI (ct.length:Int)) (qI ((0:Nat):Int)) (qk C) (qI (OH ct 0))<|X0 (qI (PH ct 0)) (Yq (Qc 3 1 Cp ([0]) v.1 v.2) (Qc 3 1 Cp (YM ct 0) v.1 v.2) λ_ _ _ h=>h)<|ai (show 0<=ct.length/\∀j,j<0->((((YM ct j).length:Nat):Int)==0)=false from⟨L7 _,λj y=>absurd y (R4 _)⟩) λ(q1:Nat×Hp) (g:(q1.1<=ct.length/\∀j,j<q1.1->((((YM ct j).length:Nat):Int)==0)=false))=>Xi (decide ((q1.1:Int)<(ct.length:Int))) (λd=>X0 (J4 cc B q1.1 (Qt d)) (D7 B q1.1 0 (Qt d) x4 rfl rfl)<|Xi (((((YM ct q1.1)).length:Nat):Int)==0) (λt=>(show(.tuple #[Θ 0,Θ 0,Ξ false]:y9)=qu ct from by have x:NB ct=false:=(by unfold NB;rw[r,ZG (Qt d) t];rfl);unfold qu;rw[x];rfl)) λt=>Ky (show IntKind.i64.wrap ((((YM ct q1.1).length:Nat):Int)-1)=(((YM ct q1.1).length-1:Nat):Int)from n_1 (MJ t) (by have:=IB ct q1.1;have:=L0 d;have:=L1 r;omega)) (Jl W 3 1 Cp (YM ct q1.1) q1.2.1 q1.2.2 BX 0 (λD E=>uk (w0:=D) (c:=q1.2.2) (i:=(YM ct q1.1).length-1) E (show((YM ct q1.1).length-1)<((YM ct q1.1)).length from hA (MJ t)))) (Jl W 3 1 Cp (YM ct q1.1) q1.2.1 q1.2.2 BX 0 (λD E=>BZ D E ((YM ct q1.1).length-1) 0 (show((YM ct q1.1).length-1)<((YM ct q1.1)).length from hA (MJ t)) x4 rfl)) (show IntKind.i64.wrap ((((YM ct q1.1).length:Nat):Int)-1)=(((YM ct q1.1).length-1:Nat):Int)from n_1 (MJ t) (by have:=IB ct q1.1;have:=L0 d;have:=L1 r;omega))<|ai (fJ W _ _ _ ((YM ct q1.1).length-1) (Qm 231 _ rfl) rfl x4 BX (YM ct q1.1) q1.2.1 q1.2.2 x3 (MJ t)) λ(f:Hp)=>Ky func118 (λa w=>call118 a w) (J4 cc B q1.1 (Qt d)) (BZ _ B q1.1 0 (Qt d) x4 rfl)<|Xi (((Qn ct q1.1).split)==0) (λq=>Yx (show Qp prog W (Builtin.max_ #[3,3] 3 #[Θ (PH ct q1.1),Θ (NM (YM ct q1.1))]) (Θ (PH ct (q1.1+1)))from VW _ _ _ _ _ _ _) (rfl:false=false) (show((Qn ct q1.1).split != 0)=false from by show(!((Qn ct q1.1).split==0))=_;rw[q];rfl) (QD q1.1 (k0 (L0 d) (L1 r))) (qV (Ω Ac ct.length cc)) (Rx (.func 118:Fn)) (show(Ω f.1 (((YM ct q1.1).take ((YM ct q1.1).length-1))).length f.2:y9)=(Ω f.1 ((YM ct (q1.1+1))).length f.2)from(by rw[iC q])) (qV (Ω Ac ct.length cc))<|Vv (qI (ct.length:Int)) (qI (((q1.1+1):Nat):Int)) (qk C) (show(IntKind.i64.wrap ((OH ct q1.1)+1):Int)=(OH ct (q1.1+1))from(QdD q).symm) (qI (PH ct (q1.1+1))) (Yq (Qc 3 1 Cp ((YM ct q1.1).take ((YM ct q1.1).length-1)) f.1 f.2) (Qc 3 1 Cp (YM ct (q1.1+1)) f.1 f.2) λ_ _ _ h=>XY (by rw[iC q]) (by rw[iC q]) h)<|ai (show q1.1+1<=ct.length/\∀j,j<q1.1+1->((((YM ct j).length:Nat):Int)==0)=false from⟨Qt d,λj y=>by rcases R5 j q1.1 with h|h;exact g.2 j h;exact(show j=q1.1 by omega)▸t⟩) (show ct.length-(q1.1+1)<ct.length-q1.1 from hA (L0 d))) λq=>Ja (show Qp prog W (Builtin.max_ #[3,3] 3 #[Θ (PH ct q1.1),Θ (NM (YM ct q1.1))]) (Θ (PH ct (q1.1+1)))from VW _ _ _ _ _ _ _) (rfl:false=false) (show((Qn ct q1.1).split != 0)=true from by show(!((Qn ct q1.1).split==0))=_;rw[q];rfl)<|ai (YJ W 231 3 2 2 Cp ((YM ct q1.1).take ((YM ct q1.1).length-1)) ([IntKind.i64.wrap (NM (YM ct q1.1)+1),IntKind.i64.wrap (NM (YM ct q1.1)+1)]) (Hxs ct q1) f.1 f.2 ([Θ (IntKind.i64.wrap ((List.getD (YM ct q1.1) ((YM ct q1.1).length-1) 0)+1)),Θ (IntKind.i64.wrap ((List.getD (YM ct q1.1) ((YM ct q1.1).length-1) 0)+1))]) RX BX nq rfl (show((((YM ct q1.1).take ((YM ct q1.1).length-1))++[IntKind.i64.wrap (NM (YM ct q1.1)+1),IntKind.i64.wrap (NM (YM ct q1.1)+1)])).length*8<=140737488355328 from by have:=IB ct q1.1;have:=L0 d;have:=L1 r;simp;omega) rfl rfl) λ(p:Hp)=>Yx (QD q1.1 (k0 (L0 d) (L1 r))) (qV (Ω Ac ct.length cc)) (Rx (.func 118:Fn)) (show(Ω p.1 ((((YM ct q1.1).take ((YM ct q1.1).length-1))++[IntKind.i64.wrap (NM (YM ct q1.1)+1),IntKind.i64.wrap (NM (YM ct q1.1)+1)])).length p.2:y9)=(Ω p.1 ((YM ct (q1.1+1))).length p.2)from(by rw[iB q])) (qV (Ω Ac ct.length cc)) (qI (ct.length:Int)) (qI (((q1.1+1):Nat):Int)) (qk C)<|Ja (show((OH ct q1.1):Int)=(OH ct (q1.1+1))from(QdC q).symm) (qI (PH ct (q1.1+1))) (Yq (Qc 3 1 Cp (Hxs ct q1) p.1 p.2) (Qc 3 1 Cp (YM ct (q1.1+1)) p.1 p.2) λ_ _ _ h=>XY (by rw[iB q]) (by rw[iB q]) h)<|ai (show q1.1+1<=ct.length/\∀j,j<q1.1+1->((((YM ct j).length:Nat):Int)==0)=false from⟨Qt d,λj y=>by rcases R5 j q1.1 with h|h;exact g.2 j h;exact(show j=q1.1 by omega)▸t⟩) (show ct.length-(q1.1+1)<ct.length-q1.1 from hA (L0 d))) λd=>Xi (!(((((YM ct q1.1)).length:Nat):Int)==0)) (λF=>(show(.tuple #[Θ 0,Θ 0,Ξ false]:y9)=qu ct from by have G:q1.1=ct.length:=(k0 (L1 d) g.1);have x:NB ct=((((YM ct ct.length).length:Nat):Int)==0):=(by unfold NB;rw[r,Kf (λj y=>g.2 j x3)];rfl);unfold qu;rw[x,<- G,show((((YM ct q1.1).length:Nat):Int)==0)=false from by revert F;cases ((((YM ct q1.1).length:Nat):Int)==0)<;>simp];rfl)) λF=>Ky (show V4 3 f86=some shT from x5) (show NB ct=true from(by have G:q1.1=ct.length:=(k0 (L1 d) g.1);unfold NB;rw[r,Kf (λj y=>g.2 j x3),<- G,show((((YM ct q1.1).length:Nat):Int)==0)=true from by revert F;cases ((((YM ct q1.1).length:Nat):Int)==0)<;>simp];rfl)) (Lu (λ(z:Int)=>(some (3,[iV z]):OB)) (show((OH ct q1.1):Int)=(OH ct ct.length)from(by rw[show q1.1=ct.length from k0 (L1 d) g.1]))) (Lu (λ(z:Int)=>(some (3,[iV z]):OB)) (show((PH ct q1.1):Int)=(PH ct ct.length)from(by rw[show q1.1=ct.length from k0 (L1 d) g.1])))<|trivial) x5
def wF{g:Nat->m3}{i:Nat->Nat}(w:m0)(j:RdK w Ac ct.length 6 (sC ct g i Uc)):RetAt prog w 86 #[.slice Ac ct.length cc] (qu ct):=by
 refine RV Qm QU (λa w=>call86 a w) func86 (args:=[.slice Ac ct.length cc]) x5 λW k=>⟨_,_,wE W (j.below (λ_=>rfl) k),λb σ r a t l m=>?_⟩
 let⟨n,o,c⟩:=AL l m;have p:b=shT:=(Ns n).symm;rw[p];refine kH W 12 (r.b 1) (r.b 2) (OH ct ct.length) (PH ct ct.length) x4 ⟨c.see.size,by rw[show(YA (KM []) a).defers=a.defers from by simp[YA,KM]];exact c.defers,(c.see.ts 2 (.ptr 1 0) rfl).1,(c.see.ts 3 (.ptr 2 0) rfl).1,(λh=>nomatch h),(λh=>nomatch h),(λh=>nomatch h),(c.see.bs 1 _ _ rfl).1,(c.see.bs 2 _ _ rfl).1,c.see.low,c.sep.own 1 _ rfl,c.sep.own 2 _ rfl⟩ λf u h=>?_
 have d:r.b 1≠r.b 2:=c.sep.inj 1 2 _ _ rfl rfl x4;have e:=wz h d;have q:=av (fn:=f86) (v:=qu ct) (Ds:=[]) Qm e rfl (XG (show(.tuple #[.int .i64 (OH ct ct.length),.int .i64 (PH ct ct.length),.bool true]:y9)=qu ct from by unfold qu;rw[o];rfl) x5) List.nodup_nil (λD s=>nomatch s);rwa [show YA (KM []) f=f by simp[YA,KM]]at q
def pC(η:Int)(cc:Nat){b:Nat->m3}{d:Nat->Nat}(q:ct.length<=4294967296)(e:∀p,p∈ct->okP p.sum)(w:m0)(f:QV w)(r:RdK w Ac ct.length 6 (sC ct b d Uc))(s:∀j,j<ct.length->SlV lo 4 V7 w (Qn ct j).sum.ts (Ω (b j) (d j) (Uc j))):RetAt prog w 49 #[Ω Ac ct.length cc,Θ η] (Ξ (Gs η ct)) :=
 have h:=eB (Gs η ct);rk [.both [] [x04 3 1 (.tup [iV (bif NB ct then OH ct ct.length else 0),iV (bif NB ct then PH ct ct.length else 0),bV (NB ct)]),.gb 4 2 [x04 4 4 (bV (XQ ct.length λj=>Zm η (Qn ct j)))] []]] λW i v=>have n:=r.up i (λ_=>rfl);(λ(t:∀j,j<ct.length->SlV lo 4 V7 W (Qn ct j).sum.ts (Ω (b j) (d j) (Uc j)))=>(λ(f:QV W)=>Xi ((ct.length:Int)==0) (λa=>(h true (by unfold Gs;rw[a];rfl))) λa=>ai (show RetAt prog W 86 #[Ω Ac ct.length cc] (.tuple #[Θ (bif NB ct then OH ct ct.length else 0),Θ (bif NB ct then PH ct ct.length else 0),Ξ (NB ct)])from wF W n)<|ZD (NB ct) true (λk=>ai (UW call87 λV l g u=>QaR η cc q e V (Ql f l) u (n.below (λ_=>rfl) l) (λj m=>(t j m).below YS l))<|(h (!(XQ ct.length λj=>Zm η (Qn ct j))) (by unfold Gs;rw[a,k];rfl))) λk=>(h false (by unfold Gs;rw[a,k];rfl))) (Ql f i)) (λj m=>(s j m).below YS i)
def nS(k:Int):Bool:=k != 6
def nR(k:Int):Bool:=k==4
def nC(k:Int):Bool:=k==6
def nP(k:Int):Int:=bif k==5 then 0 else bif k==2 then 2 else bif k==6 then 1 else 1
def nX(k:Int):Bool:=k==2||k==5
def uQ{k:Int}(b:1<=k)(c:k<=6)(W:m0):Qp prog W (Instr.index 111 (.agg #[.bool false,.bool false,.bool false,.int .i64 0,.bool false,.bool true,.bool false,.bool false,.int .i64 1,.bool false,.bool true,.bool false,.bool false,.int .i64 2,.bool true,.bool true,.bool false,.bool false,.int .i64 1,.bool false,.bool true,.bool true,.bool false,.int .i64 1,.bool false,.bool true,.bool false,.bool false,.int .i64 0,.bool true,.bool false,.bool false,.bool true,.int .i64 1,.bool false]) (.int .i64 k)) (.agg #[.bool (nS k),.bool (nR k),.bool (nC k),.int .i64 (nP k),.bool (nX k)]):=λd _=>by
 have a:k=1\/k=2\/k=3\/k=4\/k=5\/k=6:=x3;rcases a with rfl|rfl|rfl|rfl|rfl|rfl<;>rfl
theorem gj(h:(QY δ vars==0)=false):1<=δ/\δ<=6:=by
 grind[QY]
def K6(δ vars:Int)(nb:Nat)(κ:List (List Nm))(b a:List Py)(ν ε:Nm)(ζ:Int)(ct:List Nd):Bool :=
 bif QY δ vars==0 then false else bif (b.length:Int) != QY δ vars then false else
 bif !GR nb κ vars (nX δ)then false else bif !Zd (nS δ) (nR δ) (nC δ) ν ε a.length ζ ct.length then false else
 bif XQ b.length (λj=>Yo vars (QM b j))then false else bif XQ a.length (λj=>Yo vars (QM a j))then false else
 bif !Gs (Kt nb κ.length) ct then false else true
def Bh(x:PV):Bool:=K6 x.δ x.vars x.box.length x.κ x.ps x.θ x.ν x.ε x.ζ x.ι&&(Qk x.ν x.ε x.box x.κ x.ι).all Ks
structure okO (δ vars:Int) (ν ε:Nm) (bx:List (Nm×Nm)) (κ:List (List Nm)) (ps θ:List Py) (ct:List Nd):Prop where
 l0:okL0 bx κ ct
 hv:-9223372036854775808<=vars/\vars<=9223372036854775807
 np:ps.length<=1048576
 nr:θ.length<=1048576
 okp:∀p,p∈ps->okP p
 okr:∀p,p∈θ->okP p
 okc:∀p,p∈ct->okP p.sum
 nums:∀x,x∈Qk ν ε bx κ ct->okN x
variable{a d:List Py}
def vi{cs:Nat}{t u:Nat->y9}{C:Nat->m3}{D:Nat->Nat}{bx:List (Nm×Nm)}(f:okO δ vars ν ε bx κ d a ct)(W:m0)(v:QV W)(K:RdK W Ab bx.length 6 (λj=>JR (QN bx j)))(E:RdK W As κ.length 1 (λj=>[us j]))(F:∀j,j<κ.length->SlV lo 3 VT W (Qu κ j) (us j))(G:RdK W Ac ct.length 6 (sC ct C D Uc))(H:∀j,j<ct.length->SlV lo 4 V7 W (Qn ct j).sum.ts (Ω (C j) (D j) (Uc j)))(I:RdK W Ap d.length 2 (yz d t))(w:∀j,j<d.length->SlV lo 4 V7 W (QM d j).ts (t j))(J:RdK W Ar a.length 2 (yz a u))(x:∀j,j<a.length->SlV lo 4 V7 W (QM a j).ts (u j)):BQ prog tt W f25 (mP (V4 6 f25) (⟨69,[(1,.ptr 0 0),(2,.ptr 1 0)],[some (35,(tS δ vars Ab bx.length cb As κ.length cs Ap d.length kp Ar a.length kr ν ε ζ Ac ct.length cc)),some (4,[bV false])],[]⟩:St) ((K6 δ vars bx.length κ d a ν ε ζ ct)=true)) (SH 69 [tA δ vars Ab bx.length cb As κ.length cs Ap d.length kp Ar a.length kr ν ε ζ Ac ct.length cc]) [x04 1 4 (iV (QY δ vars)),.gb 2 3 [.both [] [.reg 5 [],x04 4 0 (.agg [bV false,bV false,bV false,iV 0,bV false,bV true,bV false,bV false,iV 1,bV false,bV true,bV false,bV false,iV 2,bV true,bV true,bV false,bV false,iV 1,bV false,bV true,bV true,bV false,iV 1,bV false,bV true,bV false,bV false,iV 0,bV true,bV false,bV false,bV true,iV 1,bV false]),x03 4 3 (.agg #[Ξ (nS δ),Ξ (nR δ),Ξ (nC δ),Θ (nP δ),Ξ (nX δ)]),.reg 36 [],x04 6 6 (bV (GR bx.length κ vars (nX δ))),.gb 6 9 [.g 6 10 true,.g 6 11 true,.g 6 12 true,x04 6 12 (bV (Zd (nS δ) (nR δ) (nC δ) ν ε a.length ζ ct.length)),.g 6 13 true,.o 6 14 (.pk false),.gb 6 16 [.g 6 17 true,.g 6 18 true,.g 6 19 true,x04 6 19 (bV (XQ d.length λj=>Yo vars (QM d j))),.o 6 20 (.pk false),.gb 6 22 [.g 6 23 true,.g 6 24 true,.g 6 25 true,x04 6 25 (bV (XQ a.length λj=>Yo vars (QM a j))),.o 6 26 (.pk false),.gb 6 28 [.g 6 29 true,.g 6 30 true,.g 6 31 true,.g 6 32 true,x04 6 32 (iV (Kt bx.length κ.length)),.g 6 33 true,x04 6 33 (bV (Gs (Kt bx.length κ.length) ct)),.g 6 34 true,.o 6 35 (.pk false),.both [] [.esc 8]] [.g 6 29 false,.g 6 30 false,.g 6 31 false,.g 6 32 false,.g 6 33 false,.g 6 34 false,.o 6 35 (.pk true)]] [.g 6 23 false,.g 6 24 false,.g 6 25 false,.o 6 26 (.pk true)]] [.g 6 17 false,.g 6 18 false,.g 6 19 false,.o 6 20 (.pk true)]] [.g 6 10 false,.g 6 11 false,.g 6 12 false,.g 6 13 false,.o 6 14 (.pk true)]]] []] (λe σ _=>VV tt (f25).results.toList e σ λs=>Z6 s.plain (s.den e0=Ξ ((K6 δ vars bx.length κ d a ν ε ζ ct)&&(Qk ν ε bx κ ct).all Ks))) :=
 have q:=eB ((K6 δ vars bx.length κ d a ν ε ζ ct)&&(Qk ν ε bx κ ct).all Ks);XG (ai (ia δ vars W)<|ZD ((QY δ vars)==0) false (λn=>Xi ((d.length:Int) != (QY δ vars)) (λp=>(q false (by rw[show(K6 δ vars bx.length κ d a ν ε ζ ct)=false from by unfold K6;rw[n,p];rfl];rfl))) λp=>Ja (Vt W) (uQ (gj n).1 (gj n).2 W) (Qaa Ab bx.length cb cs (nX δ) (hA f.l0.hs) f.hv W E F)<|ZD (!(GR bx.length κ vars (nX δ))) false (λi=>Vv i i i (Qb2 (nS δ) (nR δ) (nC δ) δ vars ζ (Ω Ab bx.length cb) (Ω As κ.length cs) (Ω Ap d.length kp) ν ε Ar Ac a.length kr ct.length cc W) i i<|ZD (!(Zd (nS δ) (nR δ) (nC δ) ν ε a.length ζ ct.length)) false (λk=>KJ k k k (UW call48 λV r g y=>i9 vars (Θ δ) (Ω Ab bx.length cb) (Ω As κ.length cs) (Ω Ap d.length kp) (Ω Ar a.length kr) (Ξ ν.b) (Ψ ν.s) (Θ ν.e) (Ξ ε.b) (Ψ ε.s) (Θ ε.e) (Θ ζ) (Ω Ac ct.length cc) Ap kp d (hA f.np) f.okp V (Ql v r) y (I.below (λ_=>rfl) r) (λj z=>(w j z).below YS r)) k<|ZD (XQ d.length λj=>Yo vars (QM d j)) false (λm=>KJ m m m (UW call48 λV r g y=>i9 vars (Θ δ) (Ω Ab bx.length cb) (Ω As κ.length cs) (Ω Ap d.length kp) (Ω Ar a.length kr) (Ξ ν.b) (Ψ ν.s) (Θ ν.e) (Ξ ε.b) (Ψ ε.s) (Θ ε.e) (Θ ζ) (Ω Ac ct.length cc) Ar kr a (hA f.nr) f.okr V (Ql v r) y (J.below (λ_=>rfl) r) (λj z=>(x j z).below YS r)) m<|ZD (XQ a.length λj=>Yo vars (QM a j)) false (λh=>Yx h h h h (uy Ab As bx.length cb κ.length cs (hA f.l0.hb) W) h (pC (Kt bx.length κ.length) cc (hA f.l0.hc) f.okc W v G H) h<|ai h<|Xi (!(Gs (Kt bx.length κ.length) ct)) (λB=>(q false (by rw[show(K6 δ vars bx.length κ d a ν ε ζ ct)=false from by unfold K6;rw[n,p,i,k,m,h,B];rfl];rfl))) λB=>Ky (show V4 6 f25=some (K7 6 f25)from x5) (show(K6 δ vars bx.length κ d a ν ε ζ ct)=true from by unfold K6;rw[n,p,i,k,m,h,B];rfl) (qk (some (35,(tS δ vars Ab bx.length cb As κ.length cs Ap d.length kp Ar a.length kr ν ε ζ Ac ct.length cc)))) (qk (some (4,[bV false])))<|trivial) λh=>GL h h h h h h h<|(q false (by rw[show(K6 δ vars bx.length κ d a ν ε ζ ct)=false from by unfold K6;rw[n,p,i,k,m,h];rfl];rfl))) λm=>Ky m m m m<|(q false (by rw[show(K6 δ vars bx.length κ d a ν ε ζ ct)=false from by unfold K6;rw[n,p,i,k,m];rfl];rfl))) λk=>Ky k k k k<|(q false (by rw[show(K6 δ vars bx.length κ d a ν ε ζ ct)=false from by unfold K6;rw[n,p,i,k];rfl];rfl))) λi=>KJ i i i i i<|(q false (by rw[show(K6 δ vars bx.length κ d a ν ε ζ ct)=false from by unfold K6;rw[n,p,i];rfl];rfl))) λn=>(q false (by rw[show(K6 δ vars bx.length κ d a ν ε ζ ct)=false from by unfold K6;rw[n];rfl];rfl))) x5
def gY(δ vars ζ:Int)(ν ε:Nm)(Ab As Ap Ar Ac:m3)(nb cb ns cs np kp nr kr nc cc:Nat)(w:m0):NewIn prog w [] 51 #[tA δ vars Ab nb cb As ns cs Ap np kp Ar nr kr ν ε ζ Ac nc cc] (λy:Nat=>.func (.func 89) #[] #[.pointer (some ⟨y,0,none⟩)]) (λy:Nat=>TX y 35 (tL δ vars Ab nb cb As ns cs Ap np kp Ar nr kr ν ε ζ Ac nc cc)):=by
 refine⟨λa w=>call51 a w,λW m=>?_⟩;have h:=dE (w0:=W) (T:=(.clo (.func 89) [] [.ptr 0 0]:SV)=(.clo (.func 89) [] [.ptr 0 0]:SV)/\(some (35,(tS δ vars Ab nb cb As ns cs Ap np kp Ar nr kr ν ε ζ Ac nc cc)):Option (o0×List SV))=some (35,(tS δ vars Ab nb cb As ns cs Ap np kp Ar nr kr ν ε ζ Ac nc cc))) (Z:=λv c=>∃y,v=.func (.func 89) #[] #[.pointer (some ⟨y,0,none⟩)]/\Bx c y 35 #[.int .i64 δ,.int .i64 vars,.slice Ab nb cb,.slice As ns cs,.slice Ap np kp,.slice Ar nr kr,.bool ν.b,.string ν.s,.int .i64 ν.e,.bool ε.b,.string ε.s,.int .i64 ε.e,.int .i64 ζ,.slice Ac nc cc]/\W.heap.size<=y) (E:=λs σ=>s=(.clo (.func 89) [] [.ptr 0 0]:SV)/\Xq σ.bs 0=some (35,(tS δ vars Ab nb cb As ns cs Ap np kp Ar nr kr ν ε ζ Ac nc cc))) Qm QU func51 ntmps51 results51 [tA δ vars Ab nb cb As ns cs Ap np kp Ar nr kr ν ε ζ Ac nc cc] rfl [] ⟨rfl,rfl⟩ x5 (λs σ d r a c f=>⟨r.b 0,by rw[d.1];rfl,(f.see.bs 0 _ _ d.2).1,f.sep.own 0 _ d.2⟩);refine h.mono λe c i=>?_
 obtain⟨v,rfl,⟨y,rfl,g,j⟩,k⟩:=i;exact⟨y,.bool false,λb=>b=y,rfl,⟨rfl,g,λb=>Iff.rfl⟩,λb l=>by subst l;exact⟨j,g.lt⟩,k⟩
def vK(δ vars ζ:Int)(ν ε:Nm)(Ab As Ap Ar Ac:m3)(nb cb ns cs np kp nr kr nc cc:Nat)(w:m0):NewIn prog w [] 54 #[tA δ vars Ab nb cb As ns cs Ap np kp Ar nr kr ν ε ζ Ac nc cc] (λy:Nat=>.func (.func 91) #[] #[.pointer (some ⟨y,0,none⟩)]) (λy:Nat=>TX y 35 (tL δ vars Ab nb cb As ns cs Ap np kp Ar nr kr ν ε ζ Ac nc cc)):=by
 refine⟨λa w=>call54 a w,λW m=>?_⟩;have h:=dE (w0:=W) (T:=(.clo (.func 91) [] [.ptr 0 0]:SV)=(.clo (.func 91) [] [.ptr 0 0]:SV)/\(some (35,(tS δ vars Ab nb cb As ns cs Ap np kp Ar nr kr ν ε ζ Ac nc cc)):Option (o0×List SV))=some (35,(tS δ vars Ab nb cb As ns cs Ap np kp Ar nr kr ν ε ζ Ac nc cc))) (Z:=λv c=>∃y,v=.func (.func 91) #[] #[.pointer (some ⟨y,0,none⟩)]/\Bx c y 35 #[.int .i64 δ,.int .i64 vars,.slice Ab nb cb,.slice As ns cs,.slice Ap np kp,.slice Ar nr kr,.bool ν.b,.string ν.s,.int .i64 ν.e,.bool ε.b,.string ε.s,.int .i64 ε.e,.int .i64 ζ,.slice Ac nc cc]/\W.heap.size<=y) (E:=λs σ=>s=(.clo (.func 91) [] [.ptr 0 0]:SV)/\Xq σ.bs 0=some (35,(tS δ vars Ab nb cb As ns cs Ap np kp Ar nr kr ν ε ζ Ac nc cc))) Qm QU func54 ntmps54 results54 [tA δ vars Ab nb cb As ns cs Ap np kp Ar nr kr ν ε ζ Ac nc cc] rfl [] ⟨rfl,rfl⟩ x5 (λs σ d r a c f=>⟨r.b 0,by rw[d.1];rfl,(f.see.bs 0 _ _ d.2).1,f.sep.own 0 _ d.2⟩);refine h.mono λe c i=>?_
 obtain⟨v,rfl,⟨y,rfl,g,j⟩,k⟩:=i;exact⟨y,.bool false,λb=>b=y,rfl,⟨rfl,g,λb=>Iff.rfl⟩,λb l=>by subst l;exact⟨j,g.lt⟩,k⟩
def vj{cs:Nat}{bx:List (Nm×Nm)}{b:List Py}(W:m0)(R:Res):XE prog tt (Kj prog tt W) (0,0) W (Ys (K7 6 f25)) (⟨69,[(1,.ptr 0 0),(2,.ptr 1 0)],[some (35,(tS δ vars Ab bx.length cb As κ.length cs Ap b.length kp Ar a.length kr ν ε ζ Ac ct.length cc)),some (4,[bV false])],[some R]⟩:St) [x09 8 1 [] (λ(c:Nat)=>(.func (.func 89) #[] #[x02 c],TX c 35 (tL δ vars Ab bx.length cb As κ.length cs Ap b.length kp Ar a.length kr ν ε ζ Ac ct.length cc),[]))] (λe j _=>uK R (Ww (λy:Nat=>(⟨69,[(2,.ptr 1 0),(63,.val (.func (.func 89) #[] #[x02 y]))],[some (35,(tS δ vars Ab bx.length cb As κ.length cs Ap b.length kp Ar a.length kr ν ε ζ Ac ct.length cc)),some (4,[bV false])],[]⟩:St)) 1 (λy:Nat=>TX y 35 (tL δ vars Ab bx.length cb As κ.length cs Ap b.length kp Ar a.length kr ν ε ζ Ac ct.length cc))) e j) :=
 let i:OB:=some (35,(tS δ vars Ab bx.length cb As κ.length cs Ap b.length kp Ar a.length kr ν ε ζ Ac ct.length cc));let Z1:OB:=some (4,[bV false]);XG (ai (gY δ vars ζ ν ε Ab As Ap Ar Ac bx.length cb κ.length cs b.length kp a.length kr ct.length cc W) λ(c:Nat)=>(show(R=R)/\∃y:Nat,(∀(d:y9) (f:Nat->Prop) (g:m0),(TX c 35 (tL δ vars Ab bx.length cb As κ.length cs Ap b.length kp Ar a.length kr ν ε ζ Ac ct.length cc)).φ d f g->(TX y 35 (tL δ vars Ab bx.length cb As κ.length cs Ap b.length kp Ar a.length kr ν ε ζ Ac ct.length cc)).φ d f g)/\((.func (.func 89) #[] #[x02 c]:y9)=.func (.func 89) #[] #[x02 y])/\((i:OB)=i)/\((Z1:OB)=Z1)/\True from⟨rfl,c,λd f g h=>h,rfl,rfl,rfl,trivial⟩)) x5
abbrev Hxt(y:Nat):y9:=.func (.func 89) #[] #[.pointer (some ⟨y,0,none⟩)]
def vl{cs:Nat}{bx:List (Nm×Nm)}{c:List Py}{x:Nm}(f:okN x)(W:m0)(g:QV W)(R:Res):XE prog tt (Kj prog tt W) ((⟨69,[(2,.ptr 1 0),(63,.val (.func (.func 89) #[] #[x02 y]))],[some (35,(tS δ vars Ab bx.length cb As κ.length cs Ap c.length kp Ar a.length kr ν ε ζ Ac ct.length cc)),some (4,[bV false])],[]⟩:St).bs.length,0) W (yB (K7 6 f25)) ({ ((⟨69,[(2,.ptr 1 0),(63,.val (.func (.func 89) #[] #[x02 y]))],[some (35,(tS δ vars Ab bx.length cb As κ.length cs Ap c.length kp Ar a.length kr ν ε ζ Ac ct.length cc)),some (4,[bV false])],[]⟩:St)).push (some 64) (.val (nA x))with rs:=[some R] }:St) [.reg 4 [],x04 10 1 (.agg [bV (neg (dm (nv x))),sV (QJ (dm (nv x))),iV (de (nv x))]),x03 10 3 (Ξ (!(Ks x))),.both [] []] (qf prog tt W (⟨69,[(2,.ptr 1 0),(63,.val (.func (.func 89) #[] #[x02 y]))],[some (35,(tS δ vars Ab bx.length cb As κ.length cs Ap c.length kp Ar a.length kr ν ε ζ Ac ct.length cc)),some (4,[bV false])],[]⟩:St) [some (35,(tS δ vars Ab bx.length cb As κ.length cs Ap c.length kp Ar a.length kr ν ε ζ Ac ct.length cc)),some (4,[bV false])] (yC (K7 6 f25)) (Ks x) R) :=
 let d:OB:=some (35,(tS δ vars Ab bx.length cb As κ.length cs Ap c.length kp Ar a.length kr ν ε ζ Ac ct.length cc));let Z1:OB:=some (4,[bV false]);XG (Ky (Rx R:R=R) (qV (Hxt y)) (qk d) (qk Z1)<|(λ(i:Res)=>X0 (rt g call52 λW g=>KA x.s x.b x.e W (hA f.sz) (hA f.lo) (hA f.hi) g) (Bg W (.tmp 66) (.tmp 67) (neg (dm (nv x))) x.b (QJ (dm (nv x))) x.s (de (nv x)) x.e)<|Xi (!(Ks x)) (λh=>Ky (Rx i) (qV (Hxt y)) (qk d) (qk Z1)<|(show(Ks x=false)from(by revert h;cases Ks x<;>simp))) λh=>GL (Rx i) (qk d) (qk Z1) (qk (some (32,[bV x.b,sV x.s,iV x.e]))) (qV (Hxt y)) (qk d) (qk Z1)<|(show(Ks x=true)from(by revert h;cases Ks x<;>simp)))) x5
def vm{cs:Nat}{bx:List (Nm×Nm)}(b:(K6 δ vars bx.length κ d a ν ε ζ ct)=true)(c:(Qk ν ε bx κ ct).all Ks=true)(W:m0)(R:Res):XE prog tt (Kj prog tt W) (0,0) W (aa (K7 6 f25)) (⟨69,[(2,.ptr 1 0),(63,.val (.func (.func 89) #[] #[x02 y]))],[some (35,(tS δ vars Ab bx.length cb As κ.length cs Ap d.length kp Ar a.length kr ν ε ζ Ac ct.length cc)),some (4,[bV false])],[some R]⟩:St) [] (λe f _=>VV tt (f25).results.toList e f λs=>PX R f.rs (Z6 s.plain (s.den e0=Ξ ((K6 δ vars bx.length κ d a ν ε ζ ct)&&(Qk ν ε bx κ ct).all Ks)))) :=
 XG ((show(R=R)/\((Ξ true:y9)=Ξ ((K6 δ vars bx.length κ d a ν ε ζ ct)&&(Qk ν ε bx κ ct).all Ks))from⟨rfl,by rw[b,c];rfl⟩)) x5
def vk{cs:Nat}{f g:Nat->y9}{o:Nat->m3}{p:Nat->Nat}{bx:List (Nm×Nm)}{c:List Py}(l:okO δ vars ν ε bx κ d c ct)(w:m0)(V:QV w)(X:RdK w Ab bx.length 6 (λj=>JR (QN bx j)))(Y:RdK w As κ.length 1 (λj=>[us j]))(Z:∀j,j<κ.length->SlV lo 3 VT w (Qu κ j) (us j))(HC:RdK w Ac ct.length 6 (sC ct o p Uc))(HN:∀j,j<ct.length->SlV lo 4 V7 w (Qn ct j).sum.ts (.slice (o j) (p j) (Uc j)))(HQ:RdK w Ap d.length 2 (yz d f))(A:∀j,j<d.length->SlV lo 4 V7 w (QM d j).ts (f j))(HU:RdK w Ar c.length 2 (yz c g))(B:∀j,j<c.length->SlV lo 4 V7 w (QM c j).ts (g j)):RetAt prog w 25 #[tA δ vars Ab bx.length cb As κ.length cs Ap d.length kp Ar c.length kr ν ε ζ Ac ct.length cc] (.bool ((K6 δ vars bx.length κ d c ν ε ζ ct)&&(Qk ν ε bx κ ct).all Ks)):=by
 refine RV Qm QU (λa w=>call25 a w) func25 (args:=[tA δ vars Ab bx.length cb As κ.length cs Ap d.length kp Ar c.length kr ν ε ζ Ac ct.length cc]) x5 λW e=>?_
 have C:RdK W Ab bx.length 6 (λj=>JR (QN bx j)):=X.below (λ_=>rfl) e;have F:RdK W As κ.length 1 (λj=>[us j]):=Y.below (λ_=>rfl) e;have G:∀j,j<κ.length->SlV lo 3 VT W (Qu κ j) (us j):=λj i=>(Z j i).below YH e
 have H:RdK W Ac ct.length 6 (sC ct o p Uc):=HC.below (λ_=>rfl) e;have I:∀j,j<ct.length->SlV lo 4 V7 W (Qn ct j).sum.ts (.slice (o j) (p j) (Uc j)):=λj i=>(HN j i).below YS e
 have J:RdK W Ap d.length 2 (yz d f):=HQ.below (λ_=>rfl) e;have q:∀j,j<d.length->SlV lo 4 V7 W (QM d j).ts (f j):=λj i=>(A j i).below YS e
 have K:RdK W Ar c.length 2 (yz c g):=HU.below (λ_=>rfl) e;have s:∀j,j<c.length->SlV lo 4 V7 W (QM c j).ts (g j):=λj i=>(B j i).below YS e
 refine⟨_,_,vi l W (Ql V e) C F G H I J q K s,λb σ r a w1 he hS=>?_⟩;let⟨hb,t,L⟩:=AL he hS;rw[<- Ns hb];refine MY Qm QU f25 L rfl x5 (Ww (λy:Nat=>(⟨69,[(2,.ptr 1 0),(63,.val (.func (.func 89) #[] #[.pointer (some ⟨y,0,none⟩)]))],[some (35,(tS δ vars Ab bx.length cb As κ.length cs Ap d.length kp Ar c.length kr ν ε ζ Ac ct.length cc)),some (4,[bV false])],[]⟩:St)) 1 (λy:Nat=>TX y 35 (tL δ vars Ab bx.length cb As κ.length cs Ap d.length kp Ar c.length kr ν ε ζ Ac ct.length cc))) (λR=>vj W R) ([]) (λD h=>nomatch h) λσ2 r2 a2 n M N _=>?_
 let⟨y,hφ,m⟩:=AV M N;let⟨_,hy,_⟩:=(show _/\_/\_ from hφ)
 have k:Below w.heap.size w n:=e.trans (m.see.low.mono e.size);have O:RdK n Ab bx.length 6 (λj=>JR (QN bx j)):=X.below (λ_=>rfl) k;have P:RdK n As κ.length 1 (λj=>[us j]):=Y.below (λ_=>rfl) k;have Q:∀j,j<κ.length->SlV lo 3 VT n (Qu κ j) (us j):=λj i=>(Z j i).below YH k
 have S:RdK n Ac ct.length 6 (sC ct o p Uc):=HC.below (λ_=>rfl) k;have hg:a2.eval (yD (K7 6 f25))=.func (.func 89) #[] #[.pointer (some ⟨y,0,none⟩)]:=by
  rw[show yD (K7 6 f25)=.tmp 63 from x5];exact(m.see.ts 63 _ rfl).1
 have hp:Md (K7 6 f25)=64:=x5;refine FQ Qm QU (K7 6 f25) x5 ([some (35,(tS δ vars Ab bx.length cb As κ.length cs Ap d.length kp Ar c.length kr ν ε ζ Ac ct.length cc)),some (4,[bV false])]) rfl (Qk ν ε bx κ ct) (λx=>nA x) Ks rfl rfl (by rw[hp];rfl) (λx T=>⟨_,λR=>by rw[hp];exact vl (l.nums x T) W (Ql V e) R⟩) m hg (λa w=>call89 a w) (Hj l.l0 n hy O P Q S) f25 (.bool ((K6 δ vars bx.length κ d c ν ε ζ ct)&&(Qk ν ε bx κ ct).all Ks)) List.nodup_nil (λD h=>nomatch h) (λu=>?_) (λz D r' W' h1 h2 h3=>?_)
 ·let⟨x,T,U⟩:=u;refine XG (show(.bool false:y9)=.bool ((K6 δ vars bx.length κ d c ν ε ζ ct)&&(Qk ν ε bx κ ct).all Ks)from ?_) x5;rw[show(Qk ν ε bx κ ct).all Ks=false from List.all_eq_false.2 ⟨x,T,by simp[U]⟩,Bool.and_false]
 ·exact WY Qm QU f25 h1 rfl (λR=>vm t (Lg.2 z) W R) h2 h3
def P3(a:List (List Kn))(j:Nat):List Kn:=a.getD j []
def C2(a:List (List Kn))(k:Nat):Nat:=((a.take k).map List.length).sum
variable{a:List (List Kn)}
theorem rD(h:k<a.length):C2 a k+(P3 a k).length=C2 a (k+1):=by
 grind[C2,P3,Rj]
def s9(a:List (List Kn))(k:Nat):((a.take k).flatMap λl=>l).length=C2 a k:=by
 simp[C2]
def Zw(a:List (List Kn))(k:Nat):List Kn:=(a.take k).flatMap λl=>l
def UC(a:List (List Kn))(k:Nat):(Zw a k).length=C2 a k:=s9 a k
theorem Oa(h:k<a.length):Zw a k++P3 a k=Zw a (k+1):=by
 grind[Zw,P3,Rj]
theorem Dy(h:a.length<=k):Zw a k=a.flatMap λl=>l:=by
 grind[Zw,Rh]
def fo(P:z4)(w0:m0){t e:o0}{ty:o0}(a:P.underlying t=some (.slice e)):Qp P w0 (Builtin.cap_ #[t] ty #[.slice none 0 0]) (.int .i64 0):=λW _=>by
 simp[Builtin.cap_,run_underlying a,goInt]
variable{a:Nat}
def QbL(P:z4)(w0:m0){t:o0}{e:Nat}{b:Option Bool}(c:Yw P t=some ti)(d:ti.k=.slice e a b)(f:a≠0):Qp P w0 (Instr.sliceAt t (.slice none 0 0) none (some (.int .i64 0)) none) (.slice none 0 0):=λW _=>by
 let⟨g,h,_⟩:=VN c d;simp[Instr.sliceAt,Instr.slice,Yn g,DW (P:=P) (w:=W) (isS:=true) (len:=0) (cap:=0) (lo:=none) (hi:=some (.int .i64 0)) (.inl ⟨rfl,rfl⟩) (.inr ⟨.i64,rfl⟩) (L4 0) (L4 0),V6 h f]
abbrev Hxu(ll:List (List Kn))(A:m3)(ca:Nat):=λ(b:Nat×Hp)=>(⟨36,[(6,lV b.2.1 ((Zw ll b.1)).length b.2.2),(25,lV A ll.length ca),(26,iV (ll.length:Int)),(27,iV (b.1:Int))],[],[some (Qc 52 2 Zn (Zw ll b.1) b.2.1 b.2.2)]⟩:St)
abbrev Hxv:Nat×Hp:=(0,none,0)
def l9(A:m3)(ca:Nat)(Aj:Nat->m3)(cj:Nat->Nat)(ll:List (List Kn))(H:ll.length<=4294967296)(p:∀k,C2 ll k<=4294967296)(w:m0)(I:RdK w A ll.length 1 (λj=>[Ω (Aj j) (P3 ll j).length (cj j)]))(E:∀j,j<ll.length->RdK w (Aj j) (P3 ll j).length 2 (λi=>Zn ((P3 ll j).getD i XM))/\(Aj j=none->(P3 ll j).length=0/\cj j=0)):NewIn prog w [] 92 #[Ω A ll.length ca] (λ(y:Hp)=>Ω y.1 (ll.flatMap λl=>l).length y.2) (λ(y:Hp)=>Qc 52 2 Zn (ll.flatMap λl=>l) y.1 y.2) :=
 Bf Hp Qm QU (λa w=>call92 a w) func92 ntmps92 results92 _ rfl 0 _ _ [.loop (λ(k1:Nat)=>(⟨36,[(0,lV A ll.length ca),(3,iV ((C2 ll k1:Nat):Int)),(9,lV A ll.length ca),(10,iV (ll.length:Int)),(11,iV (k1:Int))],[],[]⟩:St)) (λ(k1:Nat)=>(k1<=ll.length)) (λ(k1:Nat)=>(ll.length-k1)) (0:Nat) (λ(k1:Nat) _=>k1+1) (λ(k1:Nat)=>[.both [x03 4 0 (.pointer (some (Q5 A (k1*1+0)))),x03 4 1 (Ω (Aj k1) (P3 ll k1).length (cj k1)),x05 5 3 (iV ((C2 ll (k1+1):Nat):Int)),.br false,x05 8 0 (iV ((k1+1:Nat):Int)),.next 0] [.inl 9 1 f122,.br false,x03 3 2 (Θ 0),x05 3 6 (iV ((C2 ll k1:Nat):Int)),.both [x03 5 2 (Θ 0),x03 5 3 (x01),x09 5 5 [] (λ(g:Hp)=>(Ω g.1 (C2 ll k1) g.2,Qc 52 2 Zn (List.replicate (C2 ll k1) XM) g.1 g.2,[x08 5 8 0 (λ(q:Hp)=>(Ω q.1 (((List.replicate (C2 ll k1) XM).take 0)).length q.2,Qc 52 2 Zn ((List.replicate (C2 ll k1) XM).take 0) q.1 q.2,[B2 (Hxu ll A ca) ll.length ((0,q):Nat×Hp) (λ(b:Nat×Hp)=>[.both [x03 12 0 (.pointer (some (Q5 A (b.1*1+0)))),x03 12 1 (Ω (Aj b.1) (P3 ll b.1).length (cj b.1)),x08 13 2 0 (λ(s:Hp)=>(Ω s.1 ((Zw ll (b.1+1))).length s.2,Qc 52 2 Zn (Zw ll (b.1+1)) s.1 s.2,[x05 14 0 (iV ((b.1+1:Nat):Int)),.nxt [s]]))] []])]))]))] [.nil 10 99999 52 2 Zn,B2 (Hxu ll A ca) ll.length Hxv (λ(b:Nat×Hp)=>[.both [x03 12 0 (.pointer (some (Q5 A (b.1*1+0)))),x03 12 1 (Ω (Aj b.1) (P3 ll b.1).length (cj b.1)),x08 13 2 0 (λ(g:Hp)=>(Ω g.1 ((Zw ll (b.1+1))).length g.2,Qc 52 2 Zn (Zw ll (b.1+1)) g.1 g.2,[x05 14 0 (iV ((b.1+1:Nat):Int)),.nxt [g]]))] []])]]])] (λW F=>have z:=I.up F (λ_=>rfl);(λ(B:∀j,j<ll.length->RdK W (Aj j) (P3 ll j).length 2 (λi=>Zn ((P3 ll j).getD i XM))/\(Aj j=none->(P3 ll j).length=0/\cj j=0))=>KJ (qV (Ω A ll.length ca)) (qI ((C2 ll 0:Nat):Int)) (qV (Ω A ll.length ca)) (qI (ll.length:Int)) (qI ((0:Nat):Int))<|ai (show 0<=ll.length from L7 _) λ(k1:Nat) (J:(k1<=ll.length))=>Xi (decide ((k1:Int)<(ll.length:Int))) (λr=>Yx (Fv ca z k1 (Qt r)) (Mw z k1 0 (Qt r) x4 rfl) (show IntKind.i64.wrap (((C2 ll k1:Nat):Int)+(((P3 ll k1).length:Nat):Int))=((C2 ll (k1+1):Nat):Int)from by have L:=rD (Qt r);have:=p (k1+1);rw[Le _ x3];omega) (show(decide (((C2 ll (k1+1):Nat):Int)<0))=false from Lc x3) (QD k1 (hA (L0 r))) (qV (Ω A ll.length ca)) (qI ((C2 ll (k1+1):Nat):Int)) (qV (Ω A ll.length ca))<|X0 (qI (ll.length:Int)) (qI (((k1+1):Nat):Int))<|ai (show k1+1<=ll.length from Qt r) (show ll.length-(k1+1)<ll.length-k1 from hA (L0 r))) λr=>KJ func122 (λa w=>call122 a w) (show(decide (((C2 ll k1:Nat):Int)<0))=false from Lc x3) (fo prog W (t:=28) (e:=52) (ty:=3) x5) (show IntKind.i64.wrap (((C2 ll k1:Nat):Int)-0)=((C2 ll k1:Nat):Int)from by have:=p k1;rw[Le _ x3];omega)<|Xi (decide (((C2 ll k1:Nat):Int)>0)) (λC=>X0 (fo prog W (t:=28) (e:=52) (ty:=3) x5) (QbL prog W (Qm 28 _ rfl) rfl x4)<|ai (uL (w0:=W) (u:=3) (ty:=28) Xg x5 Zb XM pR (Qt C) (hA (p k1)) (show C2 ll k1*32<=140737488355328 from hA (p k1))) λ(g:Hp)=>ai (by have h:=fJ W prog 28 52 0 (Qm 28 _ rfl) rfl x4 Zb (List.replicate (C2 ll k1) XM) g.1 g.2 (L7 _) (by rw[Sl];have:=L0 C;omega);rw[Sl]at h;exact h) λ(q:Hp)=>KJ (show(Ω q.1 (((List.replicate (C2 ll k1) XM).take 0)).length q.2:y9)=(Ω q.1 ((Zw ll 0)).length q.2)from(by simp[Zw])) (qV (Ω A ll.length ca)) (qI (ll.length:Int)) (qI ((0:Nat):Int)) (Yq (Qc 52 2 Zn ((List.replicate (C2 ll k1) XM).take 0) q.1 q.2) (Qc 52 2 Zn (Zw ll 0) q.1 q.2) λ_ _ _ h=>XY (by simp[Zw]) (by simp[Zw]) h)<|ai (show 0<=ll.length from L7 _) λ(b:Nat×Hp) (D:(b.1<=ll.length))=>Xi (decide ((b.1:Int)<(ll.length:Int))) (λf=>X0 (Fv ca z b.1 (Qt f)) (Mw z b.1 0 (Qt f) x4 rfl)<|ai (Gf W 28 Zn (Zw ll b.1) (P3 ll b.1) (Zw ll (b.1+1)) b.2.1 b.2.2 (Ω (Aj b.1) (P3 ll b.1).length (cj b.1)) Xg Zb EL (Oa (Qt f)) (show((Zw ll (b.1+1))).length*32<=140737488355328 from by rw[UC];have:=p (b.1+1);omega) (λK v=>GM Zb x4 (d:=XM) ((B b.1 (hA (L0 f))).1.below (λ_=>rfl) v) (B b.1 (hA (L0 f))).2)) λ(s:Hp)=>Vv (QD b.1 (hA (L0 f))) (qV (Ω s.1 ((Zw ll (b.1+1))).length s.2)) (qV (Ω A ll.length ca)) (qI (ll.length:Int)) (qI (((b.1+1):Nat):Int)) (Yq (Qc 52 2 Zn (Zw ll (b.1+1)) s.1 s.2) (Qc 52 2 Zn (Zw ll (b.1+1)) s.1 s.2) λ_ _ _ h=>h)<|ai (show b.1+1<=ll.length from Qt f) (show ll.length-(b.1+1)<ll.length-b.1 from hA (L0 f))) λf=>(show ∃y:Hp,SV.val (Ω b.2.1 ((Zw ll b.1)).length b.2.2)=SV.val ((λ(y:Hp)=>Ω y.1 (ll.flatMap λl=>l).length y.2) y)/\∀(x:y9) (S:Nat->Prop) (w:m0),(Qc 52 2 Zn (Zw ll b.1) b.2.1 b.2.2).φ x S w->((λ(y:Hp)=>Qc 52 2 Zn (ll.flatMap λl=>l) y.1 y.2) y).φ x S w from⟨b.2,(by rw[show Zw ll b.1=ll.flatMap λl=>l from Dy (hA (L1 f))]),λx S w h=>XY (by rw[show Zw ll b.1=ll.flatMap λl=>l from Dy (hA (L1 f))]) (by rw[show Zw ll b.1=ll.flatMap λl=>l from Dy (hA (L1 f))]) h⟩)) λC=>KJ (qV (Ω Hxv.2.1 ((Zw ll (Hxv.1))).length Hxv.2.2)) (qV (Ω A ll.length ca)) (qI (ll.length:Int)) (qI ((Hxv.1:Nat):Int)) (Yq (Qc 52 2 Zn ([]:List Kn) none 0) (Qc 52 2 Zn (Zw ll (Hxv.1)) (Hxv.2.1) (Hxv.2.2)) λ_ _ _ h=>h)<|ai (show 0<=ll.length from L7 _) λ(b:Nat×Hp) (D:(b.1<=ll.length))=>Xi (decide ((b.1:Int)<(ll.length:Int))) (λf=>X0 (Fv ca z b.1 (Qt f)) (Mw z b.1 0 (Qt f) x4 rfl)<|ai (Gf W 28 Zn (Zw ll b.1) (P3 ll b.1) (Zw ll (b.1+1)) b.2.1 b.2.2 (Ω (Aj b.1) (P3 ll b.1).length (cj b.1)) Xg Zb EL (Oa (Qt f)) (show((Zw ll (b.1+1))).length*32<=140737488355328 from by rw[UC];have:=p (b.1+1);omega) (λK v=>GM Zb x4 (d:=XM) ((B b.1 (hA (L0 f))).1.below (λ_=>rfl) v) (B b.1 (hA (L0 f))).2)) λ(g:Hp)=>Vv (QD b.1 (hA (L0 f))) (qV (Ω g.1 ((Zw ll (b.1+1))).length g.2)) (qV (Ω A ll.length ca)) (qI (ll.length:Int)) (qI (((b.1+1):Nat):Int)) (Yq (Qc 52 2 Zn (Zw ll (b.1+1)) g.1 g.2) (Qc 52 2 Zn (Zw ll (b.1+1)) g.1 g.2) λ_ _ _ h=>h)<|ai (show b.1+1<=ll.length from Qt f) (show ll.length-(b.1+1)<ll.length-b.1 from hA (L0 f))) λf=>(show ∃y:Hp,SV.val (Ω b.2.1 ((Zw ll b.1)).length b.2.2)=SV.val ((λ(y:Hp)=>Ω y.1 (ll.flatMap λl=>l).length y.2) y)/\∀(x:y9) (S:Nat->Prop) (w:m0),(Qc 52 2 Zn (Zw ll b.1) b.2.1 b.2.2).φ x S w->((λ(y:Hp)=>Qc 52 2 Zn (ll.flatMap λl=>l) y.1 y.2) y).φ x S w from⟨b.2,(by rw[show Zw ll b.1=ll.flatMap λl=>l from Dy (hA (L1 f))]),λx S w h=>XY (by rw[show Zw ll b.1=ll.flatMap λl=>l from Dy (hA (L1 f))]) (by rw[show Zw ll b.1=ll.flatMap λl=>l from Dy (hA (L1 f))]) h⟩)) (λj G=>⟨(E j G).1.below (λ_=>rfl) F,(E j G).2⟩)) λW=>x5
def slC(x:m3×Nat×Nat):o3:=[.slice x.1 x.2.1 x.2.2]
def iw(x:m3×Nat×Nat):(slC x).length=1:=rfl
def K0(ct:List Nd)(a:Nat->m3)(Uc:Nat->Nat):List Kn:=(List.range ct.length).map λj=>((Qn ct j).sum,a j,Uc j)
def DQ(ct:List Nd)(a:Nat->m3)(Uc:Nat->Nat):(K0 ct a Uc).length=ct.length:=by simp[K0]
theorem iE{Ua:Nat->m3}(h:k<ct.length):(K0 ct Ua Uc).getD k XM=((Qn ct k).sum,Ua k,Uc k):=by
 grind[K0]
def YL(l1 l2:List Kn)(ct:List Nd)(a:Nat->m3)(Uc:Nat->Nat):List Kn:=([l1,l2].flatMap λl=>l)++K0 ct a Uc
variable{l1:List Kn}
def jv{l2:List Kn}{c nr:Nat}(d:c=l1.length)(e:nr=l2.length)(m:l1.length<=1048576)(n:l2.length<=1048576)(A:m3)(cp:Nat)(W:m0)(g:RdK W Ap l1.length 2 (λi=>Zn (l1.getD i XM))/\(Ap=none->l1.length=0/\kp=0))(h:RdK W Ar l2.length 2 (λi=>Zn (l2.getD i XM))/\(Ar=none->l2.length=0/\kr=0)):
  NewIn prog W [Qc 28 1 slC [(Ap,c,kp),(Ar,nr,kr)] A cp] 92 #[.slice A ([(Ap,c,kp),(Ar,nr,kr)]:List (m3×Nat×Nat)).length cp] (λy:Hp=>.slice y.1 ([l1,l2].flatMap λl=>l).length y.2) (λy:Hp=>Qc 52 2 Zn ([l1,l2].flatMap λl=>l) y.1 y.2):=by
 subst d;subst e;refine⟨λa w=>call92 a w,λo b=>?_⟩;show ∀x S,_->_;intro x S p;have q:=JN iw (none,0,0) p;refine(l9 A cp (λj=>if j=0 then Ap else Ar) (λj=>if j=0 then kp else kr) ([l1,l2]) (show 2<=4294967296 from x4) (λk=>?_) o ?_ ?_).at
 ·match k with
  |0=>simp[C2]
  |1=>simp[C2];omega
  |k+2=>simp[C2];omega
 ·refine RdK.congr q λj f=>?_
  match j,f with
  |0,_=>rfl
  |1,_=>rfl
 ·intro j f
  match j,f with
  |0,_=>exact⟨g.1.below (λ_=>rfl) b,g.2⟩
  |1,_=>exact⟨h.1.below (λ_=>rfl) b,h.2⟩
variable{vs:y9}
def Qfz{l:Nat}{p:y9}{l2:List Kn}(d:l1.length<=1048576)(f:l2.length<=1048576)(W:m0)(n:Bx W y 35 #[Θ δ,Θ vars,p,vs,Ω Ap l1.length kp,Ω Ar l2.length kr,Ξ ν.b,Ψ ν.s,Θ ν.e,Ξ ε.b,Ψ ε.s,Θ ε.e,Θ ζ,Ω Ac ct.length cc])(q:(RdK W Ap l1.length 2 (λi=>Zn (l1.getD i XM))/\(Ap=none->l1.length=0/\kp=0)))(r:(RdK W Ar l2.length 2 (λi=>Zn (l2.getD i XM))/\(Ar=none->l2.length=0/\kr=0))):XE prog tt (Kj prog tt W) (0,0) W (Zs (Zs (QX f91))) (SH 36 [.func (.yield l) #[] #[],x02 y]) [x03 0 1 (Ω Ap l1.length kp),x03 0 3 (Ω Ar l2.length kr),.row 0 5 0 [11] 28 1 slC ([(Ap,l1.length,kp),(Ar,l2.length,kr)]) (λ(g:Hp)=>[x09 0 5 [0] (λ(a:Hp)=>(Ω a.1 ([l1,l2].flatMap λl=>l).length a.2,Qc 52 2 Zn ([l1,l2].flatMap λl=>l) a.1 a.2,[]))])] (λe σ _=>Jf e (Ww (λc:Hp=>(⟨36,[(0,.val (.func (.yield l) #[] #[])),(1,.val (x02 y)),(12,lV c.1 ([l1,l2].flatMap λl=>l).length c.2),(13,iV ((([l1,l2].flatMap λl=>l).length:Nat):Int)),(14,iV ((0:Nat):Int))],[],[]⟩:St)) 1 (λc:Hp=>Qc 52 2 Zn ([l1,l2].flatMap λl=>l) c.1 c.2) σ)) :=
 XG (Ja (J7 _ 4 n rfl) (J7 _ 5 n rfl) (show([Ω Ap l1.length kp,Ω Ar l2.length kr]:o3)=List.flatMap slC ([(Ap,l1.length,kp),(Ar,l2.length,kr)])from rfl)<|ai (p0 iw (show([(Ap,l1.length,kp),(Ar,l2.length,kr)]).length<=maxLen from(by simp[maxLen]))) λ(g:Hp)=>ai (jv rfl rfl d f g.1 g.2 W q r) λ(a:Hp)=>(show ∃c:Hp,(∀(j:y9) (k:Nat->Prop) (m:m0),(Qc 52 2 Zn ([l1,l2].flatMap λl=>l) a.1 a.2).φ j k m->(Qc 52 2 Zn ([l1,l2].flatMap λl=>l) c.1 c.2).φ j k m)/\((.func (.yield l) #[] #[]:y9)=.func (.yield l) #[] #[])/\((x02 y:y9)=x02 y)/\((Ω a.1 ([l1,l2].flatMap λl=>l).length a.2:y9)=Ω c.1 ([l1,l2].flatMap λl=>l).length c.2)/\((((([l1,l2].flatMap λl=>l).length:Nat):Int):Int)=((([l1,l2].flatMap λl=>l).length:Nat):Int))/\((0:Int)=((0:Nat):Int))/\True from⟨a,λj k m h=>h,rfl,rfl,rfl,rfl,rfl,trivial⟩)) x5
def QdS{A:m3}{l:Nat}{l2:List Kn}(k:Nat)(W:m0):XE prog tt (Kj prog tt W) (0,0) W (U9 (QE (Zs (QX f91)))) (⟨36,[(0,.val (.func (.yield l) #[] #[])),(1,.val (x02 y)),(12,lV A ([l1,l2].flatMap λl=>l).length a),(13,iV ((([l1,l2].flatMap λl=>l).length:Nat):Int)),(14,iV (k:Int))],[],[]⟩:St) [] (λe σ _=>Jf e (Vz σ (ck (QE (Zs (QX f91)))) λs=>s=.val (Ξ (decide ((k:Int)<((([l1,l2].flatMap λl=>l).length:Nat):Int))))/\Yb σ (⟨36,[(0,.val (.func (.yield l) #[] #[])),(1,.val (x02 y)),(12,lV A ([l1,l2].flatMap λl=>l).length a),(13,iV ((([l1,l2].flatMap λl=>l).length:Nat):Int)),(14,iV (k:Int))],[],[]⟩:St) True)) :=
 XG (Vv (show((.val (Ξ (decide ((k:Int)<((([l1,l2].flatMap λl=>l).length:Nat):Int)))):SV)=bV (decide ((k:Int)<((([l1,l2].flatMap λl=>l).length:Nat):Int))))from rfl) (qV (.func (.yield l) #[] #[])) (qV (x02 y)) (qV (Ω A ([l1,l2].flatMap λl=>l).length a)) (qI ((([l1,l2].flatMap λl=>l).length:Nat):Int)) (qI (k:Int))<|trivial) x5
def QdT{A:m3}{l:Nat}{l2:List Kn}(k:Nat)(b:k<([l1,l2].flatMap λl=>l).length)(W:m0)(f:RdK W A ([l1,l2].flatMap λl=>l).length 2 (λj=>Zn (List.getD ([l1,l2].flatMap λl=>l) j XM))):XE prog tt (Kj prog tt W) (0,0) W (U0 (QE (Zs (QX f91)))) (⟨36,[(0,.val (.func (.yield l) #[] #[])),(1,.val (x02 y)),(12,lV A ([l1,l2].flatMap λl=>l).length a),(13,iV ((([l1,l2].flatMap λl=>l).length:Nat):Int)),(14,iV (k:Int))],[],[]⟩:St) [x03 2 0 (.pointer (some (Q5 A (k*2+0)))),x03 2 1 (.agg #[Θ ((List.getD ([l1,l2].flatMap λl=>l) k XM).1.vars),Ω (List.getD ([l1,l2].flatMap λl=>l) k XM).2.1 (List.getD ([l1,l2].flatMap λl=>l) k XM).1.ts.length (List.getD ([l1,l2].flatMap λl=>l) k XM).2.2])] (λe σ d=>Jf e (KC prog tt (Kj prog tt W) W (ed (C3 (QE (Zs (QX f91))))) (V9 (C3 (QE (Zs (QX f91))))) ((V9 (C3 (QE (Zs (QX f91))))).toList.take 2) 0 σ d λσ _=>v1 σ (.tmp 18) λg=>vL σ [.tmp 19] λvs=>g=.func (.yield l) #[] #[]/\vs=[(.agg #[Θ (List.getD ([l1,l2].flatMap λl=>l) k XM).1.vars,Ω (List.getD ([l1,l2].flatMap λl=>l) k XM).2.1 (List.getD ([l1,l2].flatMap λl=>l) k XM).1.ts.length (List.getD ([l1,l2].flatMap λl=>l) k XM).2.2]:y9)]/\Yb σ (⟨36,[(0,.val (.func (.yield l) #[] #[])),(1,.val (x02 y)),(12,lV A ([l1,l2].flatMap λl=>l).length a),(13,iV ((([l1,l2].flatMap λl=>l).length:Nat):Int)),(14,iV (k:Int))],[],[]⟩:St) True)) :=
 XG (Yx (J5 a f k b) (D8 f k 0 b x4 rfl rfl) (qV (.func (.yield l) #[] #[])) (show(([.agg #[Θ ((List.getD ([l1,l2].flatMap λl=>l) k XM).1.vars),Ω (List.getD ([l1,l2].flatMap λl=>l) k XM).2.1 (List.getD ([l1,l2].flatMap λl=>l) k XM).1.ts.length (List.getD ([l1,l2].flatMap λl=>l) k XM).2.2]]:o3)=[(.agg #[Θ (List.getD ([l1,l2].flatMap λl=>l) k XM).1.vars,Ω (List.getD ([l1,l2].flatMap λl=>l) k XM).2.1 (List.getD ([l1,l2].flatMap λl=>l) k XM).1.ts.length (List.getD ([l1,l2].flatMap λl=>l) k XM).2.2]:y9)])from rfl) (qV (.func (.yield l) #[] #[])) (qV (x02 y)) (qV (Ω A ([l1,l2].flatMap λl=>l).length a)) (qI ((([l1,l2].flatMap λl=>l).length:Nat):Int))<|ai (qI (k:Int))<|trivial) x5
def QdU{A:m3}{l:Nat}{l2:List Kn}(k:Nat)(b:Bool)(W:m0):KC prog tt (Kj prog tt W) W (ed (C3 (QE (Zs (QX f91))))) (V9 (C3 (QE (Zs (QX f91))))) ((V9 (C3 (QE (Zs (QX f91))))).toList.drop 3) 3 ((⟨36,[(0,.val (.func (.yield l) #[] #[])),(1,.val (x02 y)),(12,lV A ([l1,l2].flatMap λl=>l).length a),(13,iV ((([l1,l2].flatMap λl=>l).length:Nat):Int)),(14,iV (k:Int))],[],[]⟩:St).push (some 20) (bV b)) [] (λσ _=>Vz σ (jM (QE (Zs (QX f91)))) λs=>s=.val (Ξ (!b))/\Yb σ (⟨36,[(0,.val (.func (.yield l) #[] #[])),(1,.val (x02 y)),(12,lV A ([l1,l2].flatMap λl=>l).length a),(13,iV ((([l1,l2].flatMap λl=>l).length:Nat):Int)),(14,iV (k:Int))],[],[]⟩:St) True) :=
 XG (Vv (show((.val (Ξ (!b)):SV)=bV (!b))from rfl) (qV (.func (.yield l) #[] #[])) (qV (x02 y)) (qV (Ω A ([l1,l2].flatMap λl=>l).length a)) (qI ((([l1,l2].flatMap λl=>l).length:Nat):Int)) (qI (k:Int))<|trivial) x5
def QdV{A:m3}{l:Nat}{l2:List Kn}(k:Nat)(b:k<4611686018427387904)(W:m0):XE prog tt (Kj prog tt W) (0,0) W (jL (QE (Zs (QX f91)))) (⟨36,[(0,.val (.func (.yield l) #[] #[])),(1,.val (x02 y)),(12,lV A ([l1,l2].flatMap λl=>l).length a),(13,iV ((([l1,l2].flatMap λl=>l).length:Nat):Int)),(14,iV (k:Int))],[],[]⟩:St) [x05 4 0 (iV ((k+1:Nat):Int))] (λe σ _=>Jf e (Yb σ (⟨36,[(0,.val (.func (.yield l) #[] #[])),(1,.val (x02 y)),(12,lV A ([l1,l2].flatMap λl=>l).length a),(13,iV ((([l1,l2].flatMap λl=>l).length:Nat):Int)),(14,iV ((k+1:Nat):Int))],[],[]⟩:St) True)) :=
 XG (Vv (QD k x3) (qV (.func (.yield l) #[] #[])) (qV (x02 y)) (qV (Ω A ([l1,l2].flatMap λl=>l).length a)) (qI ((([l1,l2].flatMap λl=>l).length:Nat):Int)) (qI ((k+1:Nat):Int))<|trivial) x5
def QfA{l:Nat}{A:m3}{c:y9}{l2:List Kn}(W:m0)(d:Bx W y 35 #[Θ δ,Θ vars,c,vs,Ω Ap l1.length kp,Ω Ar l2.length kr,Ξ ν.b,Ψ ν.s,Θ ν.e,Ξ ε.b,Ψ ε.s,Θ ε.e,Θ ζ,Ω Ac ct.length cc]):XE prog tt (Kj prog tt W) (0,0) W (Zs (QE (QX f91))) (⟨36,[(0,.val (.func (.yield l) #[] #[])),(1,.val (x02 y)),(12,lV A ([l1,l2].flatMap λl=>l).length a),(13,iV ((([l1,l2].flatMap λl=>l).length:Nat):Int)),(14,iV ((([l1,l2].flatMap λl=>l).length:Nat):Int))],[],[]⟩:St) [x03 5 1 (Ω Ac ct.length cc)] (λe σ _=>Jf e (Yb σ (⟨36,[(0,.val (.func (.yield l) #[] #[])),(24,lV Ac ct.length cc),(25,iV (ct.length:Int)),(26,iV ((0:Nat):Int))],[],[]⟩:St) True)) :=
 XG (KJ (Ey _ 13 d rfl) (qV (.func (.yield l) #[] #[])) (qV (Ω Ac ct.length cc)) (qI (ct.length:Int)) (qI ((0:Nat):Int))<|trivial) x5
def QdW{l:Nat}(k:Nat)(W:m0):XE prog tt (Kj prog tt W) (0,0) W (U9 (QE (QE (QX f91)))) (⟨36,[(0,.val (.func (.yield l) #[] #[])),(24,lV Ac ct.length cc),(25,iV (ct.length:Int)),(26,iV (k:Int))],[],[]⟩:St) [] (λe σ _=>Jf e (Vz σ (ck (QE (QE (QX f91)))) λs=>s=.val (Ξ (decide ((k:Int)<(ct.length:Int))))/\Yb σ (⟨36,[(0,.val (.func (.yield l) #[] #[])),(24,lV Ac ct.length cc),(25,iV (ct.length:Int)),(26,iV (k:Int))],[],[]⟩:St) True)) :=
 XG (KJ (show((.val (Ξ (decide ((k:Int)<(ct.length:Int)))):SV)=bV (decide ((k:Int)<(ct.length:Int))))from rfl) (qV (.func (.yield l) #[] #[])) (qV (Ω Ac ct.length cc)) (qI (ct.length:Int)) (qI (k:Int))<|trivial) x5
variable{a:Nat->m3}
def QdX{l:Nat}(k:Nat)(f:k<ct.length)(W:m0)(g:RdK W Ac ct.length 6 (be ct a Uc)):XE prog tt (Kj prog tt W) (0,0) W (U0 (QE (QE (QX f91)))) (⟨36,[(0,.val (.func (.yield l) #[] #[])),(24,lV Ac ct.length cc),(25,iV (ct.length:Int)),(26,iV (k:Int))],[],[]⟩:St) [x03 7 0 (.pointer (some (Q5 Ac (k*6+0)))),x03 7 1 (.agg #[Θ ((Qn ct k).split),Ξ ((Qn ct k).ο.b),Ψ ((Qn ct k).ο.s),Θ ((Qn ct k).ο.e),Θ ((Qn ct k).sum.vars),Ω (a k) (Qn ct k).sum.ts.length (Uc k)])] (λe σ d=>Jf e (KC prog tt (Kj prog tt W) W (ed (C3 (QE (QE (QX f91))))) (V9 (C3 (QE (QE (QX f91))))) ((V9 (C3 (QE (QE (QX f91))))).toList.take 3) 0 σ d λσ _=>v1 σ (.tmp 30) λh=>vL σ [.tmp 32] λvs=>h=.func (.yield l) #[] #[]/\vs=[(.agg #[Θ (Qn ct k).sum.vars,Ω (a k) (Qn ct k).sum.ts.length (Uc k)]:y9)]/\Yb σ (⟨36,[(0,.val (.func (.yield l) #[] #[])),(24,lV Ac ct.length cc),(25,iV (ct.length:Int)),(26,iV (k:Int))],[],[]⟩:St) True)) :=
 XG (Yx (J4 cc g k f) (D7 g k 0 f x4 rfl rfl) (qV (.func (.yield l) #[] #[])) (show(([.agg #[Θ ((Qn ct k).sum.vars),Ω (a k) (Qn ct k).sum.ts.length (Uc k)]]:o3)=[(.agg #[Θ (Qn ct k).sum.vars,Ω (a k) (Qn ct k).sum.ts.length (Uc k)]:y9)])from rfl) (qV (.func (.yield l) #[] #[])) (qV (Ω Ac ct.length cc)) (qI (ct.length:Int)) (qI (k:Int))<|trivial) x5
def QdY{l:Nat}(k:Nat)(b:Bool)(W:m0):KC prog tt (Kj prog tt W) W (ed (C3 (QE (QE (QX f91))))) (V9 (C3 (QE (QE (QX f91))))) ((V9 (C3 (QE (QE (QX f91))))).toList.drop 4) 4 ((⟨36,[(0,.val (.func (.yield l) #[] #[])),(24,lV Ac ct.length cc),(25,iV (ct.length:Int)),(26,iV (k:Int))],[],[]⟩:St).push (some 33) (bV b)) [] (λσ _=>Vz σ (jM (QE (QE (QX f91)))) λs=>s=.val (Ξ (!b))/\Yb σ (⟨36,[(0,.val (.func (.yield l) #[] #[])),(24,lV Ac ct.length cc),(25,iV (ct.length:Int)),(26,iV (k:Int))],[],[]⟩:St) True) :=
 XG (KJ (show((.val (Ξ (!b)):SV)=bV (!b))from rfl) (qV (.func (.yield l) #[] #[])) (qV (Ω Ac ct.length cc)) (qI (ct.length:Int)) (qI (k:Int))<|trivial) x5
def QdZ{l:Nat}(k:Nat)(a:k<4611686018427387904)(W:m0):XE prog tt (Kj prog tt W) (0,0) W (jL (QE (QE (QX f91)))) (⟨36,[(0,.val (.func (.yield l) #[] #[])),(24,lV Ac ct.length cc),(25,iV (ct.length:Int)),(26,iV (k:Int))],[],[]⟩:St) [x05 9 0 (iV ((k+1:Nat):Int))] (λe σ _=>Jf e (Yb σ (⟨36,[(0,.val (.func (.yield l) #[] #[])),(24,lV Ac ct.length cc),(25,iV (ct.length:Int)),(26,iV ((k+1:Nat):Int))],[],[]⟩:St) True)) :=
 XG (KJ (QD k x3) (qV (.func (.yield l) #[] #[])) (qV (Ω Ac ct.length cc)) (qI (ct.length:Int)) (qI ((k+1:Nat):Int))<|trivial) x5
def vy{l2:List Kn}(h:k<([l1,l2].flatMap λl=>l).length):List.getD (YL l1 l2 ct a Uc) k XM=List.getD ([l1,l2].flatMap λl=>l) k XM:=by
 unfold YL;rw[List.getD,List.getD,List.getElem?_append_left h]
def vz{l2:List Kn}(h:k<ct.length):List.getD (YL l1 l2 ct a Uc) (([l1,l2].flatMap λl=>l).length+k) XM=((Qn ct k).sum,a k,Uc k):=by
 unfold YL;rw[List.getD,sT x3,Sq,<- List.getD];exact iE h
def kt(l1 l2:List Kn)(ct:List Nd)(a:Nat->m3)(Uc:Nat->Nat):(YL l1 l2 ct a Uc).length=([l1,l2].flatMap λl=>l).length+ct.length:=by
 unfold YL;rw[La,DQ]
def WU{X:y9}{l2:List Kn}{d:Nat->m3}(K:l1.length<=1048576)(L:l2.length<=1048576)(ad:ct.length<=1048576)(w:m0)(HX:Bx w y 35 #[.int .i64 δ,.int .i64 vars,X,vs,.slice Ap l1.length kp,.slice Ar l2.length kr,.bool ν.b,.string ν.s,.int .i64 ν.e,.bool ε.b,.string ε.s,.int .i64 ε.e,.int .i64 ζ,.slice Ac ct.length cc])(Y:(RdK w Ap l1.length 2 (λi=>Zn (l1.getD i XM))/\(Ap=none->l1.length=0/\kp=0)))(Z:(RdK w Ar l2.length 2 (λi=>Zn (l2.getD i XM))/\(Ar=none->l2.length=0/\kr=0)))(HC:RdK w Ac ct.length 6 (be ct d Uc)):SeqStopsK Fence.wide 8 prog 91 #[.pointer (some ⟨y,0,none⟩)] (λx:{x // x∈(YL l1 l2 ct d Uc)}=>#[.agg #[.int .i64 x.1.1.vars,.slice x.1.2.1 x.1.1.ts.length x.1.2.2]]) KpC (λys=>ys=(YL l1 l2 ct d Uc).attach) (λ_=>True) (YL l1 l2 ct d Uc).length w:=by
 intro l J Jx W H I u hY h0;have ae:=kt l1 l2 ct d Uc;have ag:([l1,l2].flatMap λl=>l).length=l1.length+l2.length:=x6;have h1:=HX.later H;have h2:(RdK W Ap l1.length 2 (λi=>Zn (l1.getD i XM))/\(Ap=none->l1.length=0/\kp=0)):=⟨Y.1.below (λ_=>rfl) H,Y.2⟩
 have h3:(RdK W Ar l2.length 2 (λi=>Zn (l2.getD i XM))/\(Ar=none->l2.length=0/\kr=0)):=⟨Z.1.below (λ_=>rfl) H,Z.2⟩
 have h4:RdK W Ac ct.length 6 (be ct d Uc):=HC.below (λ_=>rfl) H;refine callsIn_wide.2 (calls_of_wp (c:=(QX f91)) (args:=([.func (.yield l) #[] #[],.pointer (some ⟨y,0,none⟩)]:o3).toArray) func91 x5 ?_);rw[ntmps91,show(QX f91)=.seq (.seq (Zs (Zs (QX f91))) (QE (Zs (QX f91)))) (.seq (Zs (QE (QX f91))) (QE (QE (QX f91))))from x5];have M:=qm (N:=36) (args:=[.func (.yield l) #[] #[],.pointer (some ⟨y,0,none⟩)]) (L8 rfl) W;have p:∀q:Act,q.defers=[]->∀a,((∃z,z=(YL l1 l2 ct d Uc).attach/\J z a)\/(∃pre,True/\Jx pre a))->q.defers=[]/\∃v,(results f91 q.tmps).run prog a=.ok v a/\(∃v',Ending.returned v=.returned v')/\((∃z,z=(YL l1 l2 ct d Uc).attach/\J z a)\/(∃pre,True/\Jx pre a)):=λq hd a h=>⟨hd,_,results_none x5 _ _ _,⟨_,rfl⟩,h⟩
 refine(wpIn_wide (n:=8)).1 (wpIn_seq (wpIn_seq (OR Qm QU (Qfz (l:=l) K L W h1 h2 h3) M λσ2 _ r2 a2 w2 hp B=>?_)));let⟨⟨A,cp⟩,hφ,O⟩:=AV hp B;have r:=B.see.low;have C:RdK w2 A ([l1,l2].flatMap λl=>l).length 2 (λj=>Zn (List.getD ([l1,l2].flatMap λl=>l) j XM)):=JN Zb XM hφ;refine Ny Qm QU (c:=QE (Zs (QX f91))) x5 (τ:=λk=>(⟨36,[(0,.val (.func (.yield l) #[] #[])),(1,.val (.pointer (some ⟨y,0,none⟩))),(12,lV A ([l1,l2].flatMap λl=>l).length cp),(13,iV ((([l1,l2].flatMap λl=>l).length:Nat):Int)),(14,iV (k:Int))],[],[]⟩:St)) (λk=>⟨rfl,rfl⟩) (l:=l) (m:=0) (n:=([l1,l2].flatMap λl=>l).length) (xs:=(YL l1 l2 ct d Uc)) (enc:=λx=>.agg #[.int .i64 x.1.vars,.slice x.2.1 x.1.ts.length x.2.2]) XM x3
  (F:=λV=>RdK V A ([l1,l2].flatMap λl=>l).length 2 (λj=>Zn (List.getD ([l1,l2].flatMap λl=>l) j XM))/\Bx V y 35 #[.int .i64 δ,.int .i64 vars,X,vs,.slice Ap l1.length kp,.slice Ar l2.length kr,.bool ν.b,.string ν.s,.int .i64 ν.e,.bool ε.b,.string ε.s,.int .i64 ε.e,.int .i64 ζ,.slice Ac ct.length cc]/\RdK V Ac ct.length 6 (be ct d Uc)) (λV V' h g=>⟨RQ (λ_=>rfl) h.1 g,g.bx h.2.1,RQ (λ_=>rfl) h.2.2 g⟩)
  (ci:=2) (dst:=20) (o:=QaZ (QE (Zs (QX f91))) 2) x5 (f:=.tmp 18) (args:=[.tmp 19]) x5 x5 (λk=>rfl) x5
  (λk V _ _=>⟨_,QdS k V⟩) (λk V g P=>⟨_,by rw[Lm,vy g];exact QdT k g V P.1⟩) (λk V b _=>⟨_,QdU k b V⟩) (λk V g=>⟨_,QdV k x3 V⟩)
  I u (λpre x Q h R=>hY pre x Q h R) O ⟨C,h1.later r,h4.below (λ_=>rfl) r⟩ (YU I r h0) (λq a k1 t D=>?_) (λq a pre k1 t=>p q t a (.inr ⟨pre,trivial,k1⟩))
 refine wpIn_seq (OR Qm QU (QfA a t.2.1) k1 λσ5 _ r5 a5 w5 S E=>?_);have T:=(Q3 a S).2 _ _ _ E;have G:=E.see.low;have U:RdK w5 Ac ct.length 6 (be ct d Uc):=t.2.2.below (λ_=>rfl) G;rw[Lm]at D;refine Ny Qm QU (c:=QE (QE (QX f91))) x5 (τ:=λk=>(⟨36,[(0,.val (.func (.yield l) #[] #[])),(24,lV Ac ct.length cc),(25,iV (ct.length:Int)),(26,iV (k:Int))],[],[]⟩:St)) (λk=>⟨rfl,rfl⟩) (l:=l) (m:=([l1,l2].flatMap λl=>l).length) (n:=ct.length) (xs:=(YL l1 l2 ct d Uc)) (enc:=λx=>.agg #[.int .i64 x.1.vars,.slice x.2.1 x.1.ts.length x.2.2]) XM x3
  (F:=λV=>RdK V Ac ct.length 6 (be ct d Uc)) (λV V' h g=>RQ (λ_=>rfl) h g)
  (ci:=3) (dst:=33) (o:=QaZ (QE (QE (QX f91))) 3) x5 (f:=.tmp 30) (args:=[.tmp 32]) x5 x5 (λk=>rfl) x5
  (λk V _ _=>⟨_,QdW k V⟩) (λk V g P=>⟨_,by rw[vz g];exact QdX k g V P⟩) (λk V b _=>⟨_,QdY k b V⟩) (λk V g=>⟨_,QdZ k x3 V⟩)
  I u (λpre x Q h R=>hY pre x Q h R) T U (YU I G D) (λq a k1 t D=>?_) (λq a pre k1 t=>p q t a (.inr ⟨pre,trivial,k1⟩))
 refine p q k1.defers a (.inl ⟨_,rfl,?_⟩);rw[Rh (by rw[List.length_attach];omega)]at D;exact D
variable{z:Nat}
def lh(w:m0):RetAt prog w 56 #[.int .u8 (z:Int)] (Ξ (decide ((z:Int)>6))) :=
 rk [] λW b a=>a
abbrev Hxw:y9:=.func (.func 56) #[] #[]
def QcK{A:m3}{c:Nat}{m:m1}(l:m.size<=4294967296)(w:m0)(g:RdK w A m.size 1 (λj=>[.int .u8 ((bt m j:Nat):Int)])):RetAt prog w 93 #[Ω A m.size c,.func (.func 56) #[] #[]] (Θ (ZX m.size λj=>decide (((bt m j:Nat):Int)>6))) :=
 rk [P5 (λ(k:Nat)=>(⟨19,[(0,lV A m.size c),(1,.val Hxw),(4,iV 0),(6,lV A m.size c),(7,iV (m.size:Int)),(8,iV (k:Int))],[],[]⟩:St)) m.size (λj=>decide (((bt m j:Nat):Int)>6)) (λ(k:Nat)=>[.both [x03 4 3 (.pointer (some (Q5 A (k*1+0)))),x03 4 4 (.int .u8 ((bt m k:Nat):Int)),x04 4 5 (bV (decide (((bt m k:Nat):Int)>6))),.both [] [x05 6 0 (iV ((k+1:Nat):Int)),.next 0]] []])] λW h p=>have e:=g.up h (λ_=>rfl);Vv (qV (Ω A m.size c)) (qV Hxw) (qI 0) (qV (Ω A m.size c)) (qI (m.size:Int)) (qI ((0:Nat):Int))<|ai (c0 m.size (λj=>decide (((bt m j:Nat):Int)>6))) λ(k:Nat) (b:cQ m.size (λj=>decide (((bt m j:Nat):Int)>6)) k)=>Xi (decide ((k:Int)<(m.size:Int))) (λa=>Ja (Fw c _ e k (Qt a)) (nM (i:=k) (o:=0) e (hA (L0 a)) x4 rfl) (lh (z:=bt m k) W)<|Xi (decide (((bt m k:Nat):Int)>6)) (λd=>(show(Θ (k:Int):y9)=(Θ (ZX m.size λj=>decide (((bt m j:Nat):Int)>6)))from Lu (Value.int .i64) (VD (λj=>decide (((bt m j:Nat):Int)>6)) b.2 (hA (L0 a)) d).symm)) λd=>GL (QD k (hA (L0 a))) (qV (Ω A m.size c)) (qV Hxw) (qI 0) (qV (Ω A m.size c)) (qI (m.size:Int)) (qI (((k+1):Nat):Int))<|ai (cS b (Qt a) d) (Oe (Qt a))) λa=>(show(Θ (-1):y9)=(Θ (ZX m.size λj=>decide (((bt m j:Nat):Int)>6)))from Lu (Value.int .i64) (Gg (λj=>decide (((bt m j:Nat):Int)>6)) λj q=>b.2 j (hA (L1 a))).symm)
def QcJ(A:m3)(c:Nat)(m:m1)(a:m.size<=4294967296)(w:m0)(b:RdK w A m.size 1 (λj=>[.int .u8 ((bt m j:Nat):Int)])):RetAt prog w 55 #[Ω A m.size c,.func (.func 56) #[] #[]] (Ξ (XQ m.size λj=>decide (((bt m j:Nat):Int)>6))) :=
 rk [x04 1 2 (iV (ZX m.size λj=>decide (((bt m j:Nat):Int)>6)))] λW d f=>have e:=b.up d (λ_=>rfl);ai (QcK (c:=c) a W e)<|(show(Ξ (decide ((ZX m.size λj=>decide (((bt m j:Nat):Int)>6))>=0)):y9)=Ξ (XQ m.size λj=>decide (((bt m j:Nat):Int)>6))from Lu Ξ (DG m.size λj=>decide (((bt m j:Nat):Int)>6)))
def ZQ(p:Py):Bool:=bif decide ((p.ts.length:Int)>40)then false else !XQ p.ts.length λj=>J1 (Qb p.ts j).c||XQ (Qb p.ts j).m.size λi=>decide (((bt (Qb p.ts j).m i:Nat):Int)>6)
def Cq(vars:Int)(nr a:Nat)(ζ:Int):Bool:=bif decide (vars>4)then false else bif decide ((nr:Int)>4)then false else bif decide ((a:Int)>64)then false else bif decide (ζ>512)then false else true
def Ve(vars:Int)(nr a:Nat)(ζ:Int)(b:List Nm)(c:List Kn):Bool:=Cq vars nr a ζ&&(b.all (λx=>!J1 x)&&c.all λp=>ZQ p.1)
structure okW (bx:List (Nm×Nm)) (κ:List (List Nm)) (l1 l2:List Kn) (ct:List Nd) (Ua:Nat->Option Addr) (Uc:Nat->Nat):Prop where
 l0:okL0 bx κ ct
 n1:l1.length<=1048576
 n2:l2.length<=1048576
 okp:∀x,x∈YL l1 l2 ct Ua Uc->okP x.1
def Qcb{cs:Nat}{bx:List (Nm×Nm)}{l2:List Kn}{g:Nat->m3}(W:m0):BQ prog tt W f26 (mP (V4 2 f26) (⟨56,[(1,.ptr 0 0),(2,.ptr 1 0)],[some (35,(tS δ vars Ab bx.length cb As κ.length cs Ap l1.length kp Ar l2.length kr ν ε ζ Ac ct.length cc)),some (4,[bV false])],[]⟩:St) ((Cq vars l2.length ct.length ζ)=true)) (SH 56 [tA δ vars Ab bx.length cb As κ.length cs Ap l1.length kp Ar l2.length kr ν ε ζ Ac ct.length cc]) [.gb 1 4 [.gb 1 10 [.gb 1 16 [.both [] [.esc 3]] []] []] []] (λe σ _=>VV tt (f26).results.toList e σ λs=>Z6 s.plain (s.den e0=Ξ (Ve vars l2.length ct.length ζ (Qk ν ε bx κ ct) (YL l1 l2 ct g Uc)))) :=
 have c:=eB (Ve vars l2.length ct.length ζ (Qk ν ε bx κ ct) (YL l1 l2 ct g Uc));XG (ZD (decide (vars>4)) false (λa=>ZD (decide ((l2.length:Int)>4)) false (λb=>ZD (decide ((ct.length:Int)>64)) false (λd=>Xi (decide (ζ>512)) (λf=>(c false (by unfold Ve;rw[show(Cq vars l2.length ct.length ζ)=false from by unfold Cq;rw[a,b,d,f];rfl];rfl))) λf=>Ky (show V4 2 f26=some (K7 2 f26)from x5) (show(Cq vars l2.length ct.length ζ)=true from by unfold Cq;rw[a,b,d,f];rfl) (qk (some (35,(tS δ vars Ab bx.length cb As κ.length cs Ap l1.length kp Ar l2.length kr ν ε ζ Ac ct.length cc)))) (qk (some (4,[bV false])))<|trivial) λd=>(c false (by unfold Ve;rw[show(Cq vars l2.length ct.length ζ)=false from by unfold Cq;rw[a,b,d];rfl];rfl))) λb=>(c false (by unfold Ve;rw[show(Cq vars l2.length ct.length ζ)=false from by unfold Cq;rw[a,b];rfl];rfl))) λa=>(c false (by unfold Ve;rw[show(Cq vars l2.length ct.length ζ)=false from by unfold Cq;rw[a];rfl];rfl))) x5
def QfS{cs:Nat}{bx:List (Nm×Nm)}{l2:List Kn}(W:m0)(R:Res):XE prog tt (Kj prog tt W) (0,0) W (Ys (K7 2 f26)) (⟨56,[(1,.ptr 0 0),(2,.ptr 1 0)],[some (35,(tS δ vars Ab bx.length cb As κ.length cs Ap l1.length kp Ar l2.length kr ν ε ζ Ac ct.length cc)),some (4,[bV false])],[some R]⟩:St) [x09 3 1 [] (λ(a:Nat)=>(.func (.func 89) #[] #[x02 a],TX a 35 (tL δ vars Ab bx.length cb As κ.length cs Ap l1.length kp Ar l2.length kr ν ε ζ Ac ct.length cc),[]))] (λe g _=>uK R (Ww (λy:Nat=>(⟨56,[(1,.ptr 0 0),(2,.ptr 1 0),(28,.val (.func (.func 89) #[] #[x02 y]))],[some (35,(tS δ vars Ab bx.length cb As κ.length cs Ap l1.length kp Ar l2.length kr ν ε ζ Ac ct.length cc)),some (4,[bV false])],[]⟩:St)) 1 (λy:Nat=>TX y 35 (tL δ vars Ab bx.length cb As κ.length cs Ap l1.length kp Ar l2.length kr ν ε ζ Ac ct.length cc))) e g) :=
 let f:OB:=some (35,(tS δ vars Ab bx.length cb As κ.length cs Ap l1.length kp Ar l2.length kr ν ε ζ Ac ct.length cc));let Z1:OB:=some (4,[bV false]);XG (ai (gY δ vars ζ ν ε Ab As Ap Ar Ac bx.length cb κ.length cs l1.length kp l2.length kr ct.length cc W) λ(a:Nat)=>(show(R=R)/\∃y:Nat,(∀(b:y9) (c:Nat->Prop) (d:m0),(TX a 35 (tL δ vars Ab bx.length cb As κ.length cs Ap l1.length kp Ar l2.length kr ν ε ζ Ac ct.length cc)).φ b c d->(TX y 35 (tL δ vars Ab bx.length cb As κ.length cs Ap l1.length kp Ar l2.length kr ν ε ζ Ac ct.length cc)).φ b c d)/\((.func (.func 89) #[] #[x02 a]:y9)=.func (.func 89) #[] #[x02 y])/\((f:OB)=f)/\((Z1:OB)=Z1)/\True from⟨rfl,a,λb c d h=>h,rfl,rfl,rfl,trivial⟩)) x5
abbrev Hxx(y:Nat):y9:=.func (.func 89) #[] #[.pointer (some ⟨y,0,none⟩)]
def QfT{cs:Nat}{bx:List (Nm×Nm)}{l2:List Kn}{x:Nm}(W:m0)(R:Res):XE prog tt (Kj prog tt W) ((⟨56,[(1,.ptr 0 0),(2,.ptr 1 0),(28,.val (.func (.func 89) #[] #[x02 y]))],[some (35,(tS δ vars Ab bx.length cb As κ.length cs Ap l1.length kp Ar l2.length kr ν ε ζ Ac ct.length cc)),some (4,[bV false])],[]⟩:St).bs.length,0) W (yB (K7 2 f26)) ({ ((⟨56,[(1,.ptr 0 0),(2,.ptr 1 0),(28,.val (.func (.func 89) #[] #[x02 y]))],[some (35,(tS δ vars Ab bx.length cb As κ.length cs Ap l1.length kp Ar l2.length kr ν ε ζ Ac ct.length cc)),some (4,[bV false])],[]⟩:St)).push (some 29) (.val (nA x))with rs:=[some R] }:St) [x04 5 1 (bV (J1 x)),.both [] []] (qf prog tt W (⟨56,[(1,.ptr 0 0),(2,.ptr 1 0),(28,.val (.func (.func 89) #[] #[x02 y]))],[some (35,(tS δ vars Ab bx.length cb As κ.length cs Ap l1.length kp Ar l2.length kr ν ε ζ Ac ct.length cc)),some (4,[bV false])],[]⟩:St) [some (35,(tS δ vars Ab bx.length cb As κ.length cs Ap l1.length kp Ar l2.length kr ν ε ζ Ac ct.length cc)),some (4,[bV false])] (yC (K7 2 f26)) (!J1 x) R) :=
 let a:OB:=some (35,(tS δ vars Ab bx.length cb As κ.length cs Ap l1.length kp Ar l2.length kr ν ε ζ Ac ct.length cc));let Z1:OB:=some (4,[bV false]);XG (Ky (Rx R:R=R) (qV (Hxx y)) (qk a) (qk Z1)<|(λ(d:Res)=>ai (yd x W)<|Xi (J1 x) (λc=>Ky (Rx d) (qV (Hxx y)) (qk a) (qk Z1)<|(show((!J1 x)=false)from(by rw[c];rfl))) λc=>GL (Rx d) (qk a) (qk Z1) (qk (some (32,[bV x.b,sV x.s,iV x.e]))) (qV (Hxx y)) (qk a) (qk Z1)<|(show((!J1 x)=true)from(by rw[c];rfl)))) x5
def QfU{cs:Nat}{bx:List (Nm×Nm)}{l2:List Kn}(W:m0)(R:Res):XE prog tt (Kj prog tt W) (0,0) W (Ys (aa (K7 2 f26))) (⟨56,[(1,.ptr 0 0),(2,.ptr 1 0),(28,.val (.func (.func 89) #[] #[x02 z]))],[some (35,(tS δ vars Ab bx.length cb As κ.length cs Ap l1.length kp Ar l2.length kr ν ε ζ Ac ct.length cc)),some (4,[bV false])],[some R]⟩:St) [x09 7 1 [] (λ(a:Nat)=>(.func (.func 91) #[] #[x02 a],TX a 35 (tL δ vars Ab bx.length cb As κ.length cs Ap l1.length kp Ar l2.length kr ν ε ζ Ac ct.length cc),[]))] (λe g _=>uK R (Ww (λy:Nat=>(⟨56,[(1,.ptr 0 0),(2,.ptr 1 0),(33,.val (.func (.func 91) #[] #[x02 y]))],[some (35,(tS δ vars Ab bx.length cb As κ.length cs Ap l1.length kp Ar l2.length kr ν ε ζ Ac ct.length cc)),some (4,[bV false])],[]⟩:St)) 1 (λy:Nat=>TX y 35 (tL δ vars Ab bx.length cb As κ.length cs Ap l1.length kp Ar l2.length kr ν ε ζ Ac ct.length cc))) e g) :=
 let f:OB:=some (35,(tS δ vars Ab bx.length cb As κ.length cs Ap l1.length kp Ar l2.length kr ν ε ζ Ac ct.length cc));let Z1:OB:=some (4,[bV false]);XG (ai (vK δ vars ζ ν ε Ab As Ap Ar Ac bx.length cb κ.length cs l1.length kp l2.length kr ct.length cc W) λ(a:Nat)=>(show(R=R)/\∃y:Nat,(∀(b:y9) (c:Nat->Prop) (d:m0),(TX a 35 (tL δ vars Ab bx.length cb As κ.length cs Ap l1.length kp Ar l2.length kr ν ε ζ Ac ct.length cc)).φ b c d->(TX y 35 (tL δ vars Ab bx.length cb As κ.length cs Ap l1.length kp Ar l2.length kr ν ε ζ Ac ct.length cc)).φ b c d)/\((.func (.func 91) #[] #[x02 a]:y9)=.func (.func 91) #[] #[x02 y])/\((f:OB)=f)/\((Z1:OB)=Z1)/\True from⟨rfl,a,λb c d h=>h,rfl,rfl,rfl,trivial⟩)) x5
abbrev Hxy(y:Nat):y9:=.func (.func 91) #[] #[.pointer (some ⟨y,0,none⟩)]
def QfV{cs:Nat}{bx:List (Nm×Nm)}{l2:List Kn}{x:Kn}(r:okP x.1)(W:m0)(u:RdK W x.2.1 x.1.ts.length 4 (λj=>QK (Qb x.1.ts j)))(R:Res):XE prog tt (Kj prog tt W) ((⟨56,[(1,.ptr 0 0),(2,.ptr 1 0),(33,.val (.func (.func 91) #[] #[x02 y]))],[some (35,(tS δ vars Ab bx.length cb As κ.length cs Ap l1.length kp Ar l2.length kr ν ε ζ Ac ct.length cc)),some (4,[bV false])],[]⟩:St).bs.length,0) W (yB (aa (K7 2 f26))) ({ ((⟨56,[(1,.ptr 0 0),(2,.ptr 1 0),(33,.val (.func (.func 91) #[] #[x02 y]))],[some (35,(tS δ vars Ab bx.length cb As κ.length cs Ap l1.length kp Ar l2.length kr ν ε ζ Ac ct.length cc)),some (4,[bV false])],[]⟩:St)).push (some 34) (.val (.agg #[Θ x.1.vars,Ω x.2.1 x.1.ts.length x.2.2]))with rs:=[some R] }:St) [.both [] [P5 (λ(k:Nat)=>(⟨56,[(1,.ptr 0 0),(2,.ptr 1 0),(33,.val (.func (.func 91) #[] #[x02 y])),(40,lV x.2.1 x.1.ts.length x.2.2),(41,iV (x.1.ts.length:Int)),(42,iV (k:Int))],[none,none,none],[none]⟩:St)) x.1.ts.length (λj=>J1 (Qb x.1.ts j).c||XQ (Qb x.1.ts j).m.size λi=>decide (((bt (Qb x.1.ts j).m i:Nat):Int)>6)) (λ(k:Nat)=>[.both [x03 13 0 (.pointer (some (Q5 x.2.1 (k*4+0)))),x03 13 1 (.agg #[Ψ ((Qb x.1.ts k).m),Ξ ((Qb x.1.ts k).c.b),Ψ ((Qb x.1.ts k).c.s),Θ ((Qb x.1.ts k).c.e)]),x04 14 2 (bV (J1 (Qb x.1.ts k).c)),.gb 14 4 [x09 14 6 [] (λ(d:Hp)=>(Ω d.1 (Qb x.1.ts k).m.size d.2,IR (Qb x.1.ts k).m d.1,[.o 14 7 (.retr [1] (Ξ (XQ (Qb x.1.ts k).m.size λi=>decide (((bt (Qb x.1.ts k).m i:Nat):Int)>6)))),.both [] [x05 16 0 (iV ((k+1:Nat):Int)),.next 0]]))] []] []])]] (qf prog tt W (⟨56,[(1,.ptr 0 0),(2,.ptr 1 0),(33,.val (.func (.func 91) #[] #[x02 y]))],[some (35,(tS δ vars Ab bx.length cb As κ.length cs Ap l1.length kp Ar l2.length kr ν ε ζ Ac ct.length cc)),some (4,[bV false])],[]⟩:St) [some (35,(tS δ vars Ab bx.length cb As κ.length cs Ap l1.length kp Ar l2.length kr ν ε ζ Ac ct.length cc)),some (4,[bV false])] (yC (aa (K7 2 f26))) (ZQ x.1) R) :=
 let l:OB:=some (35,(tS δ vars Ab bx.length cb As κ.length cs Ap l1.length kp Ar l2.length kr ν ε ζ Ac ct.length cc));let Z1:OB:=some (4,[bV false]);let Z2:OB:=some (52,[iV x.1.vars,lV x.2.1 x.1.ts.length x.2.2]);XG (Ky (Rx R:R=R) (qV (Hxy y)) (qk l) (qk Z1)<|(λ(q:Res)=>Xi (decide ((x.1.ts.length:Int)>40)) (λg=>Ky (Rx q) (qV (Hxy y)) (qk l) (qk Z1)<|(show((ZQ x.1)=false)from(by unfold ZQ;rw[g];rfl))) λg=>Yx (qV (Hxy y)) (qV (Ω x.2.1 x.1.ts.length x.2.2)) (qI (x.1.ts.length:Int)) (qI ((0:Nat):Int)) (qk l) (qk Z1) (qk Z2) (XR q)<|ai (c0 x.1.ts.length (λj=>J1 (Qb x.1.ts j).c||XQ (Qb x.1.ts j).m.size λi=>decide (((bt (Qb x.1.ts j).m i:Nat):Int)>6))) λ(k:Nat) (v:cQ x.1.ts.length (λj=>J1 (Qb x.1.ts j).c||XQ (Qb x.1.ts j).m.size λi=>decide (((bt (Qb x.1.ts j).m i:Nat):Int)>6)) k)=>Xi (decide ((k:Int)<(x.1.ts.length:Int))) (λh=>Ja (Y0 x.2.2 u k (Qt h)) (ZE u k 0 (Qt h) x4 rfl rfl) (yd (Qb x.1.ts k).c W)<|ZD (J1 (Qb x.1.ts k).c) false (λt=>ai (ME prog W 9 82 5 x5 x5 x5 (Qb x.1.ts k).m) λ(d:Hp)=>ai (show Cv prog W [IR (Qb x.1.ts k).m d.1] 55 #[Ω d.1 (Qb x.1.ts k).m.size d.2,.func (.func 56) #[] #[]] (Ξ (XQ (Qb x.1.ts k).m.size λi=>decide (((bt (Qb x.1.ts k).m i:Nat):Int)>6)))from⟨λa w=>call55 a w,λz B D E C=>(QcJ d.1 d.2 ((Qb x.1.ts k).m) (hA ((r.tms _ (Yh (Qt h))).1)) z (lO C)).at⟩)<|Xi (XQ (Qb x.1.ts k).m.size λi=>decide (((bt (Qb x.1.ts k).m i:Nat):Int)>6)) (λp=>Ky (Rx q) (qV (Hxy y)) (qk l) (qk Z1)<|(show((ZQ x.1)=false)from(by unfold ZQ;rw[g,ZG (f:=(λj=>J1 (Qb x.1.ts j).c||XQ (Qb x.1.ts j).m.size λi=>decide (((bt (Qb x.1.ts j).m i:Nat):Int)>6))) (Qt h) (show(J1 (Qb x.1.ts k).c||(XQ (Qb x.1.ts k).m.size λi=>decide (((bt (Qb x.1.ts k).m i:Nat):Int)>6)))=true from by rw[t,p];rfl)];rfl))) λp=>Yx (QD k (k0 (L0 h) r.len)) (qV (Hxy y)) (qV (Ω x.2.1 x.1.ts.length x.2.2)) (qI (x.1.ts.length:Int)) (qI (((k+1):Nat):Int)) (qk l) (qk Z1) (qk Z2)<|ai (XR q)<|ai (cS v (Qt h) (show(J1 (Qb x.1.ts k).c||(XQ (Qb x.1.ts k).m.size λi=>decide (((bt (Qb x.1.ts k).m i:Nat):Int)>6)))=false from by rw[t,p];rfl)) (Oe (Qt h))) λt=>Ky (Rx q) (qV (Hxy y)) (qk l) (qk Z1)<|(show((ZQ x.1)=false)from(by unfold ZQ;rw[g,ZG (f:=(λj=>J1 (Qb x.1.ts j).c||XQ (Qb x.1.ts j).m.size λi=>decide (((bt (Qb x.1.ts j).m i:Nat):Int)>6))) (Qt h) (show(J1 (Qb x.1.ts k).c||(XQ (Qb x.1.ts k).m.size λi=>decide (((bt (Qb x.1.ts k).m i:Nat):Int)>6)))=true from by rw[t];rfl)];rfl))) λh=>GL (Rx q) (qk l) (qk Z1) (qk Z2) (qV (Hxy y)) (qk l) (qk Z1)<|(show((ZQ x.1)=true)from(by unfold ZQ;rw[g,Kf (f:=(λj=>J1 (Qb x.1.ts j).c||XQ (Qb x.1.ts j).m.size λi=>decide (((bt (Qb x.1.ts j).m i:Nat):Int)>6))) (λj F=>v.2 j (hA (L1 h)))];rfl)))) x5
def Qcc{cs:Nat}{bx:List (Nm×Nm)}{l2:List Kn}{b:Nat->m3}(a:(Cq vars l2.length ct.length ζ)=true)(d:(Qk ν ε bx κ ct).all (λx=>!J1 x)=true)(f:((YL l1 l2 ct b Uc).all λp=>ZQ p.1)=true)(W:m0)(R:Res):XE prog tt (Kj prog tt W) (0,0) W (aa (aa (K7 2 f26))) (⟨56,[(1,.ptr 0 0),(2,.ptr 1 0),(33,.val (.func (.func 91) #[] #[x02 y]))],[some (35,(tS δ vars Ab bx.length cb As κ.length cs Ap l1.length kp Ar l2.length kr ν ε ζ Ac ct.length cc)),some (4,[bV false])],[some R]⟩:St) [] (λe c _=>VV tt (f26).results.toList e c λs=>PX R c.rs (Z6 s.plain (s.den e0=Ξ (Ve vars l2.length ct.length ζ (Qk ν ε bx κ ct) (YL l1 l2 ct b Uc))))) :=
 XG ((show(R=R)/\((Ξ true:y9)=Ξ (Ve vars l2.length ct.length ζ (Qk ν ε bx κ ct) (YL l1 l2 ct b Uc)))from⟨rfl,by unfold Ve;rw[a,d,f];rfl⟩)) x5
def sj(lo:Nat)(cb cs cc:Nat)(Ua:Nat->m3)(Uc:Nat->Nat)(ν ε:Nm){bx:List (Nm×Nm)}(δ vars ζ:Int)(Ap Ar:m3)(kp kr:Nat)(l1 l2:List Kn)(f:okW bx κ l1 l2 ct Ua Uc)(w:m0)(F:RdK w Ab bx.length 6 (λj=>JR (QN bx j)))(G:RdK w As κ.length 1 (λj=>[us j]))(H:∀j,j<κ.length->SlV lo 3 VT w (Qu κ j) (us j))(I:RdK w Ac ct.length 6 (be ct Ua Uc))(t:(RdK w Ap l1.length 2 (λi=>Zn (l1.getD i XM))/\(Ap=none->l1.length=0/\kp=0)))(u:(RdK w Ar l2.length 2 (λi=>Zn (l2.getD i XM))/\(Ar=none->l2.length=0/\kr=0)))(J:∀x,x∈(YL l1 l2 ct Ua Uc)->RdK w x.2.1 x.1.ts.length 4 (λj=>QK (Qb x.1.ts j))):RetAt prog w 26 #[tA δ vars Ab bx.length cb As κ.length cs Ap l1.length kp Ar l2.length kr ν ε ζ Ac ct.length cc] (.bool (Ve vars l2.length ct.length ζ (Qk ν ε bx κ ct) (YL l1 l2 ct Ua Uc))):=by
 refine RV Qm QU (λa w=>call26 a w) func26 (args:=[tA δ vars Ab bx.length cb As κ.length cs Ap l1.length kp Ar l2.length kr ν ε ζ Ac ct.length cc]) x5 λW g=>?_
 have al:RdK W Ab bx.length 6 (λj=>JR (QN bx j)):=F.below (λ_=>rfl) g;have ao:RdK W As κ.length 1 (λj=>[us j]):=G.below (λ_=>rfl) g;have aB:∀j,j<κ.length->SlV lo 3 VT W (Qu κ j) (us j):=λj z=>(H j z).below YH g
 have bd:RdK W Ac ct.length 6 (be ct Ua Uc):=I.below (λ_=>rfl) g;have bi:(RdK W Ap l1.length 2 (λi=>Zn (l1.getD i XM))/\(Ap=none->l1.length=0/\kp=0)):=⟨t.1.below (λ_=>rfl) g,t.2⟩
 have bk:(RdK W Ar l2.length 2 (λi=>Zn (l2.getD i XM))/\(Ar=none->l2.length=0/\kr=0)):=⟨u.1.below (λ_=>rfl) g,u.2⟩
 have K:∀x,x∈(YL l1 l2 ct Ua Uc)->RdK W x.2.1 x.1.ts.length 4 (λj=>QK (Qb x.1.ts j)):=λx e=>(J x e).below (λ_=>rfl) g
 refine⟨_,_,Qcb W,λb σ r a w1 he hS=>?_⟩;let⟨hb,A,L⟩:=AL he hS;rw[<- Ns hb];refine MY Qm QU f26 L rfl x5 (Ww (λy:Nat=>(⟨56,[(1,.ptr 0 0),(2,.ptr 1 0),(28,.val (.func (.func 89) #[] #[.pointer (some ⟨y,0,none⟩)]))],[some (35,(tS δ vars Ab bx.length cb As κ.length cs Ap l1.length kp Ar l2.length kr ν ε ζ Ac ct.length cc)),some (4,[bV false])],[]⟩:St)) 1 (λy:Nat=>TX y 35 (tL δ vars Ab bx.length cb As κ.length cs Ap l1.length kp Ar l2.length kr ν ε ζ Ac ct.length cc))) (λR=>QfS W R) ([]) (λD h=>nomatch h) λσ2 r2 a2 l M N _=>?_
 let⟨y,hφ,n⟩:=AV M N;let⟨_,hy,_⟩:=(show _/\_/\_ from hφ)
 have c:Below w.heap.size w l:=g.trans (n.see.low.mono g.size);have O:RdK l Ab bx.length 6 (λj=>JR (QN bx j)):=F.below (λ_=>rfl) c;have P:RdK l As κ.length 1 (λj=>[us j]):=G.below (λ_=>rfl) c;have Q:∀j,j<κ.length->SlV lo 3 VT l (Qu κ j) (us j):=λj z=>(H j z).below YH c
 have S:RdK l Ac ct.length 6 (be ct Ua Uc):=I.below (λ_=>rfl) c;have bl:(RdK l Ap l1.length 2 (λi=>Zn (l1.getD i XM))/\(Ap=none->l1.length=0/\kp=0)):=⟨t.1.below (λ_=>rfl) c,t.2⟩
 have bX:(RdK l Ar l2.length 2 (λi=>Zn (l2.getD i XM))/\(Ar=none->l2.length=0/\kr=0)):=⟨u.1.below (λ_=>rfl) c,u.2⟩
 have bY:∀x,x∈(YL l1 l2 ct Ua Uc)->RdK l x.2.1 x.1.ts.length 4 (λj=>QK (Qb x.1.ts j)):=λx e=>(J x e).below (λ_=>rfl) c
 have hg:a2.eval (yD (K7 2 f26))=.func (.func 89) #[] #[.pointer (some ⟨y,0,none⟩)]:=by
  rw[show yD (K7 2 f26)=.tmp 28 from x5];exact(n.see.ts 28 _ rfl).1
 have hp:Md (K7 2 f26)=29:=x5;refine FQ Qm QU (K7 2 f26) x5 ([some (35,(tS δ vars Ab bx.length cb As κ.length cs Ap l1.length kp Ar l2.length kr ν ε ζ Ac ct.length cc)),some (4,[bV false])]) rfl (Qk ν ε bx κ ct) (λx=>nA x) (λx=>!J1 x) rfl rfl (by rw[hp];rfl) (λx e=>⟨_,λR=>by rw[hp];exact QfT W R⟩) n hg (λa w=>call89 a w) (Hj f.l0 l hy O P Q S) f26 (.bool (Ve vars l2.length ct.length ζ (Qk ν ε bx κ ct) (YL l1 l2 ct Ua Uc))) List.nodup_nil (λD h=>nomatch h) (λk=>?_) (λB D r3 w3 h1 h2 h3=>?_)
 ·let⟨x,e,o⟩:=k;refine XG (show(.bool false:y9)=.bool (Ve vars l2.length ct.length ζ (Qk ν ε bx κ ct) (YL l1 l2 ct Ua Uc))from ?_) x5;unfold Ve;rw[show((Qk ν ε bx κ ct).all λx=>!J1 x)=false from List.all_eq_false.2 ⟨x,e,by simp[o]⟩,Bool.false_and,Bool.and_false]
 refine MY Qm QU f26 h1 rfl x5 (Ww (λy:Nat=>(⟨56,[(1,.ptr 0 0),(2,.ptr 1 0),(33,.val (.func (.func 91) #[] #[.pointer (some ⟨y,0,none⟩)]))],[some (35,(tS δ vars Ab bx.length cb As κ.length cs Ap l1.length kp Ar l2.length kr ν ε ζ Ac ct.length cc)),some (4,[bV false])],[]⟩:St)) 1 (λy:Nat=>TX y 35 (tL δ vars Ab bx.length cb As κ.length cs Ap l1.length kp Ar l2.length kr ν ε ζ Ac ct.length cc))) (λR=>QfU W R) (D::[]) h3 λσ4 r4 a4 m T U V=>?_
 let⟨y4,X,q⟩:=AV T U;let⟨_,Y,_⟩:=(show _/\_/\_ from X)
 have d:Below w.heap.size w m:=g.trans (q.see.low.mono g.size);have ca:RdK m Ab bx.length 6 (λj=>JR (QN bx j)):=F.below (λ_=>rfl) d;have cd:RdK m As κ.length 1 (λj=>[us j]):=G.below (λ_=>rfl) d;have cf:∀j,j<κ.length->SlV lo 3 VT m (Qu κ j) (us j):=λj z=>(H j z).below YH d
 have Z:RdK m Ac ct.length 6 (be ct Ua Uc):=I.below (λ_=>rfl) d;have ad:(RdK m Ap l1.length 2 (λi=>Zn (l1.getD i XM))/\(Ap=none->l1.length=0/\kp=0)):=⟨t.1.below (λ_=>rfl) d,t.2⟩
 have ae:(RdK m Ar l2.length 2 (λi=>Zn (l2.getD i XM))/\(Ar=none->l2.length=0/\kr=0)):=⟨u.1.below (λ_=>rfl) d,u.2⟩
 have ch:∀x,x∈(YL l1 l2 ct Ua Uc)->RdK m x.2.1 x.1.ts.length 4 (λj=>QK (Qb x.1.ts j)):=λx e=>(J x e).below (λ_=>rfl) d
 have ag:a4.eval (yD (aa (K7 2 f26)))=.func (.func 91) #[] #[.pointer (some ⟨y4,0,none⟩)]:=by
  rw[show yD (aa (K7 2 f26))=.tmp 33 from x5];exact(q.see.ts 33 _ rfl).1
 have C:Md (aa (K7 2 f26))=34:=x5;refine FQ Qm QU (aa (K7 2 f26)) x5 ([some (35,(tS δ vars Ab bx.length cb As κ.length cs Ap l1.length kp Ar l2.length kr ν ε ζ Ac ct.length cc)),some (4,[bV false])]) rfl (YL l1 l2 ct Ua Uc) (λx=>.agg #[.int .i64 x.1.vars,.slice x.2.1 x.1.ts.length x.2.2]) (λx=>ZQ x.1) rfl rfl (by rw[C];rfl) (λx e=>⟨_,λR=>by rw[C];exact QfV (f.okp x e) W (K x e) R⟩) q ag (λa w=>call91 a w) (WU f.n1 f.n2 f.l0.hc m Y ad ae Z) f26 (.bool (Ve vars l2.length ct.length ζ (Qk ν ε bx κ ct) (YL l1 l2 ct Ua Uc))) h2 V (λk=>?_) (λs D2 r6 w6 k1 k2 k3=>?_)
 ·let⟨x,e,o⟩:=k;refine XG (show(.bool false:y9)=.bool (Ve vars l2.length ct.length ζ (Qk ν ε bx κ ct) (YL l1 l2 ct Ua Uc))from ?_) x5;unfold Ve;rw[show((YL l1 l2 ct Ua Uc).all λp=>ZQ p.1)=false from List.all_eq_false.2 ⟨x,e,by simp[o]⟩,Bool.and_false,Bool.and_false]
 ·exact WY Qm QU f26 k1 rfl (λR=>Qcc A (Lg.2 B) (Lg.2 s) W R) k2 k3
def KK(x:PV):List Py:=(x.ps++x.θ)++x.ι.map (·.sum)
def C4(l1 l2:List Kn)(ct:List Nd)(a:Nat->m3)(Uc:Nat->Nat):List Kn:=(l1++l2)++K0 ct a Uc
theorem MU(l1 l2:List Kn)(ct:List Nd)(a:Nat->m3)(Uc:Nat->Nat):YL l1 l2 ct a Uc=C4 l1 l2 ct a Uc:=by simp[YL,C4]
def BJ(l:List Py)(U:Nat->m3)(u:Nat->Nat):List Kn:=(List.range l.length).map λj=>(QM l j,U j,u j)
theorem JM(l:List Py)(U:Nat->m3)(u:Nat->Nat):(BJ l U u).length=l.length:=by simp[BJ]
theorem pD{l:List Py}{U:Nat->m3}{u:Nat->Nat}{j:Nat}(h:j<l.length):(BJ l U u).getD j XM=(QM l j,U j,u j):=by
 grind[BJ]
theorem ic(l:List Py)(U:Nat->m3)(u:Nat->Nat):(BJ l U u).map (λx:Kn=>x.1)=l:=by
 apply List.ext_getElem?
 grind[BJ,QM]
theorem Ng{A a:m3}{n b c d:Nat}(h:(.slice A n c:y9)=.slice a b d):A=a/\n=b/\c=d:=by
 grind
structure RowsH (lo:Nat) (w:World) (x:PV) (Ab As Ap Ar Ac:Option Addr) (cb cs kp kr cc:Nat) (Us Up Ur Uc:Nat->Option Addr) (us up ur uc:Nat->Nat):Prop where
 b:RdK w Ab x.box.length 6 (λj=>JR (QN x.box j))
 s:RdK w As x.κ.length 1 (yx x.κ Us us)
 sp:∀j,j<x.κ.length->SlV lo 3 VT w (Qu x.κ j) (.slice (Us j) (Qu x.κ j).length (us j))
 q:RdK w Ap x.ps.length 2 (X7 x.ps Up up)
 qn:Ap=none->x.ps.length=0/\kp=0
 qs:∀j,j<x.ps.length->SlV lo 4 V7 w (QM x.ps j).ts (.slice (Up j) (QM x.ps j).ts.length (up j))
 r:RdK w Ar x.θ.length 2 (X7 x.θ Ur ur)
 rn:Ar=none->x.θ.length=0/\kr=0
 rs:∀j,j<x.θ.length->SlV lo 4 V7 w (QM x.θ j).ts (.slice (Ur j) (QM x.θ j).ts.length (ur j))
 c:RdK w Ac x.ι.length 6 (be x.ι Uc uc)
 cn:∀j,j<x.ι.length->SlV lo 4 V7 w (Qn x.ι j).sum.ts (.slice (Uc j) (Qn x.ι j).sum.ts.length (uc j))
def Fo{x:PV}{c d e f:y9}(h:Five lo w x c vs d e f):∃Ab As Ap Ar Ac cb cs kp kr cc Us Up Ur Uc us up ur uc,c=.slice Ab x.box.length cb/\vs=.slice As x.κ.length cs/\d=.slice Ap x.ps.length kp/\e=.slice Ar x.θ.length kr/\f=.slice Ac x.ι.length cc/\RowsH lo w x Ab As Ap Ar Ac cb cs kp kr cc Us Up Ur Uc us up ur uc:=by
 let⟨g,i,j,k,l⟩:=h;let⟨Ab,cb,m,_,_,n⟩:=SlV.enc (nm0,nm0) g;let⟨As,cs,Us,us,e2,_,_,o,p⟩:=SlV.rdPt2 i;let⟨Ap,kp,Up,up,q,_,r,s,a⟩:=SlV.rdPy2 j;let⟨Ar,kr,Ur,ur,t,_,nr,u,b⟩:=SlV.rdPy2 k;let⟨Ac,cc,Uc,uc,v,_,_,y,z⟩:=SlV.rdNd2 l;exact⟨Ab,As,Ap,Ar,Ac,cb,cs,kp,kr,cc,Us,Up,Ur,Uc,us,up,ur,uc,m,e2,q,t,v,n,o,p,s,r,a,u,nr,b,y,z⟩
def O8{l:List Tm}{A:m3}{c:Nat}(h:SlV lo 4 V7 w l (.slice A l.length c)):RdK w A l.length 4 (λj=>QK (Qb l j)):=by
 let⟨b,d,e,_,_,a⟩:=SlV.enc Bp h;obtain⟨rfl,_,rfl⟩:=Ng e;exact a
section
variable{lo:Nat}{w:m0}{x:PV}{Ab As Ap Ar Ac:m3}{cb cs kp kr cc:Nat}{Us Up Ur Uc:Nat->m3}{us up ur uc:Nat->Nat}(h:RowsH lo w x Ab As Ap Ar Ac cb cs kp kr cc Us Up Ur Uc us up ur uc)
include h
theorem RowsH.below{e:m0}(a:Below w.heap.size w e):RowsH lo e x Ab As Ap Ar Ac cb cs kp kr cc Us Up Ur Uc us up ur uc :=
 ⟨h.b.below (λ_=>rfl) a,h.s.below (λ_=>rfl) a,λj d=>(h.sp j d).below YH a,h.q.below (λ_=>rfl) a,h.qn,λj d=>(h.qs j d).below YS a,h.r.below (λ_=>rfl) a,h.rn,λj d=>(h.rs j d).below YS a,h.c.below (λ_=>rfl) a,λj d=>(h.cn j d).below YS a⟩
theorem RowsH.q1:RdK w Ap (BJ x.ps Up up).length 2 (λi=>Zn ((BJ x.ps Up up).getD i XM))/\(Ap=none->(BJ x.ps Up up).length=0/\kp=0):=by
 rw[JM];exact⟨h.q.congr λj a=>by rw[pD a];rfl,h.qn⟩
theorem RowsH.r1:RdK w Ar (BJ x.θ Ur ur).length 2 (λi=>Zn ((BJ x.θ Ur ur).getD i XM))/\(Ar=none->(BJ x.θ Ur ur).length=0/\kr=0):=by
 rw[JM];exact⟨h.r.congr λj a=>by rw[pD a];rfl,h.rn⟩
theorem RowsH.X(y:Kn)(a:y∈C4 (BJ x.ps Up up) (BJ x.θ Ur ur) x.ι Uc uc):RdK w y.2.1 y.1.ts.length 4 (λj=>QK (Qb y.1.ts j)):=by
 unfold C4 at a;simp only[Lo]at a;rcases a with(a|a)|a
 ·obtain⟨j,b,rfl⟩:=Lv.1 a;exact O8 (h.qs j (R7.1 b))
 ·obtain⟨j,b,rfl⟩:=Lv.1 a;exact O8 (h.rs j (R7.1 b))
 ·obtain⟨j,b,rfl⟩:=Lv.1 a;exact O8 (h.cn j (R7.1 b))
omit h in
theorem TG:(C4 (BJ x.ps Up up) (BJ x.θ Ur ur) x.ι Uc uc).map (λx:Kn=>x.1)=KK x:=by
 unfold C4 KK;rw[Rv,Rv,ic,ic];congr 1;unfold K0;rw[List.map_map];apply List.ext_getElem?
 grind[Qn]
end
def mN:Res:=⟨λx S _=>x=.bool false/\∀b,¬ S b,λ_ _ _ h=>by rw[h.1];rfl,λ_ _ _ _ _ h=>h⟩
def jI:Pe mN:=λ_ _ _ h b a=>absurd a (h.2 b)
section
variable{P:z4}{w0:m0}
def t7{e m n t i o:Nat}{L a:LP}{A:m3}{vs:o3}(k:Yw P t=some ti)(l:v.cells.toList=vs)(q:vs.length=ti.size)(c:i<n)(r:o+vs.length<=m)(s:∀u,u∈vs->u.oneCell'=true)(y:∀j,j<n->j≠i->∀S w cs,L.p j S w cs->a.p j S w cs)(d:∀S w cs,cs.length=m->L.p i S w cs->a.p i S w (spl cs o vs)):
  ∀W x S,(Qx e m n L A g).φ x S W->Gc P W (λ_:Unit=>undef) (λ_:Unit=>Qx e m n a A g) x S (GZ t [.pointer (some (Q5 A (i*m+o))),v]):=λW x S z =>
 jW (R2:=mN) k l q c r s jI y (λf B C w cs D h _=>a.mono i f _ _ _ (λb E=>.inl E) (d f w cs D h)) W x S (show ∃f B C,_ from⟨S,λ_=>False,.bool false,z,⟨rfl,λ_ h=>h⟩,λ_ _ h=>h,λb=>⟨λh=>.inl h,λh=>h.elim id False.elim⟩⟩)
end
abbrev Hr(e n:Nat)(f:Nat->Nat)(A:m3)(a:Nat):Res:=Qx e 1 n (LP.known λj=>[.int .u8 ((f j:Nat):Int)]) A a
section
variable{P:z4}{w0:m0}
def QaF{t e:o0}{z:y9}(j:P.underlying t=some (.slice e))(g:P.info? e=some i)(l:i.zero=some z)(m:i.size=1)(c:i.bytes=1)(d:z=.int .u8 0){n:Nat}(s:n<=1000000):
  II P w0 [] (λy:Hp=>.slice y.1 n y.2) (λy:Hp=>Hr e n (λ_=>0) y.1 y.2) (Instr.makeSlice t (.int .i64 (n:Int)) (.int .i64 (n:Int))):=λW _=>by
 subst d;show Pf P W _ _ _;let⟨o,p,f,a⟩:=run_makeSlice_full (P:=P) W W.heap.size t e i _ 1 j g l m .i64 .i64 n x3 (by rw[c];omega) (by simp only[maxLen];omega) (L4 _);have q:(madeCells (Value.int .u8 0).cells (n*1)).toList=(List.range n).flatMap (λ_=>[Value.int .u8 ((0:Nat):Int)]):=by
  apply List.ext_getElem?;simp[List.map_eq_flatMap,madeCells,Value.cells,V0]
 rw[q]at f;refine⟨(some ⟨W.heap.size,0,none⟩,n),.bool false,λb=>(Value.slice (some ⟨W.heap.size,0,none⟩) n n).ownBlock=some b,o,p,⟨a.os,a.tape,a.output,a.size,λk r=>a.block k r x6⟩,(show _/\_ from⟨rfl,λ_=>[.int .u8 ((0:Nat):Int)],λ_=>False,λ_=>rfl,f.mono (L7 _),λi g=>rfl,λ_ h=>h.elim,λb=>⟨.inl,λh=>h.elim id False.elim⟩⟩),λb c=>f.lt b c⟩
def sY(P:z4)(e t n i x:Nat)(f g:Nat->Nat)(A:m3)(cp:Nat)(k:Yw P t=some ti)(l:ti.size=1)(a:i<n)(c:∀j,j<n->g j=if j=i then x else f j):
  ∀W d S,(Hr e n f A cp).φ d S W->Gc P W (λ_:Unit=>undef) (λ_:Unit=>Hr e n g A cp) d S (GZ t [.pointer (some (Q5 A (i*1+0))),.int .u8 (x:Int)]) :=
 t7 (vs:=[.int .u8 (x:Int)]) k rfl (by rw[l];rfl) a (L4 _) (by intro u m;rw[Ly.1 m];rfl) (λj o b S w cs h=>by
  show cs=[Value.int .u8 ((g j:Nat):Int)];rw[show cs=[Value.int .u8 ((f j:Nat):Int)]from h,c j o,if_neg b]) λS w cs p h=>by
  show _=[Value.int .u8 ((g i:Nat):Int)];rw[show cs=[Value.int .u8 ((f i:Nat):Int)]from h,c i a,if_pos rfl];rfl
theorem sZ(P:z4)(w0:m0)(src dst e e2:o0)(b:P.underlying src=some (.slice e))(c:P.underlying e=some (.int .u8))(d:P.underlying dst=some .string)(A:m3)(n cp:Nat)(f:Nat->Nat)(h:s=⟨((List.range n).map λj=>UInt8.ofNat (f j)).toArray⟩):GJ P w0 [Hr e2 n f A cp] (Go.convert src dst (.slice A n cp)) (.string s) :=
 m9 λW u v i l=>λm a=>by
  have o:RdK W A n 1 (λj=>[.int .u8 ((f j:Nat):Int)]):=RdK.congr i λj p=>l j p
  have q:=RdK.below (k:=1) (f:=λj=>[.int .u8 ((f j:Nat):Int)]) (λ_=>rfl) o a;have r:Rd m A n (λj=>.int .u8 ((f j:Nat):Int)):=λt=>by
   let⟨g,off,e,w⟩:=q t
   grind
  rw[EQ (P:=P) src dst e b c d A n cp f r,h]
end
def F7(l D:Nat)(rc:Loop):Res where
 φ x S w:=x.oneCell'=true/\w.heap[l]?=some (.loop rc)/\w.heap[D]?=some (.deferred (some []))/\∀b,S b↔b=l\/b=D
 one _ _ _ h:=h.1
 loc x S w w' h hφ:=⟨hφ.1,(h l ((hφ.2.2.2 l).2 (.inl rfl))).trans hφ.2.1,(h D ((hφ.2.2.2 D).2 (.inr rfl))).trans hφ.2.2.1,hφ.2.2.2⟩
def Hg(D:Nat):Res where
 φ x S w:=x.oneCell'=true/\w.heap[D]?=some (.deferred (some []))/\∀b,S b↔b=D
 one _ _ _ h:=h.1
 loc x S w w' h hφ:=⟨hφ.1,(h D ((hφ.2.2 D).2 rfl)).trans hφ.2.1,hφ.2.2⟩
def Nb{α:Type}(y z:α):∀l:List (Option α),GX (l++[some y]) l.length z=l++[some z]
 |[]=>rfl
 |x::l=>Lu (x::·) (Nb y z l)
def gL{α:Type}(y:α):∀l:List (Option α),Xq (l++[some y]) l.length=some y
 |[]=>rfl
 |_::l=>gL y l
section
variable{P:z4}{tt:List (Nat×TI)}{w0:m0}{τ:St}{R R':Res}{r r':Env}{a:Act}{w:m0}{l D n:Nat}{rc:Loop}
theorem o8:XL τ.rs.length R' (Vk R τ)=Vk R' τ:=by simp[XL,Vk,Yj,Nb]
def gK:Xq (Vk R τ).rs τ.rs.length=some R:=by simp[Vk,Yj,gL]
def len_N:(Vk R τ).rs.length=τ.rs.length+1:=by simp[Vk,Yj]
theorem AB(d:l≠D)(c:Loop)(h:Sat w0 (Vk (F7 l D rc) τ) r a w):Sat w0 (Vk (F7 l D c) τ) ⟨r.b,r.x,Zg r.S τ.rs.length (r.S τ.rs.length)⟩ a (w.putObj l (.loop c))/\w.heap[l]?=some (.loop rc):=by
 let⟨⟨m,f,n,g⟩,o⟩:=h.see.rs _ _ gK;have i:=grownBy_putObj' w l (.loop c);refine⟨?_,f⟩;have p:=h.turn (R':=F7 l D c) (S':=r.S τ.rs.length) gK (Trn.of_grown i λk e=>(g k).2 (.inl (o7 e).symm)) ⟨m,World.putObj_heap_same (b8.1 f).1,(World.putObj_heap_other d.symm).trans n,g⟩ λb j=>⟨.inl j,L9 (o b j) i.size⟩
 grind[o8]
theorem ji(h:Sat w0 (Vk (F7 l D rc) τ) r a w):Sat w0 (Vk (Hg D) τ) ⟨r.b,r.x,Zg r.S τ.rs.length (λb=>b=D)⟩ a w:=by
 let⟨⟨e,i,f,c⟩,g⟩:=h.see.rs _ _ gK;have j:=h.turn (R':=Hg D) (S':=λb=>b=D) gK (Trn.refl _ _) ⟨e,f,λ_=>Iff.rfl⟩ λb d=>⟨.inl ((c b).2 (.inr d)),g b ((c b).2 (.inr d))⟩
 grind[o8]
def JA{V:Code->(Exit->Act->m0->Prop)->Act->m0->Prop}(l:Rules P V)(k:YF P tt)(m:P.follows .mixedOrders=true){f:Nat×Nat}{c:Code}{σ:St}{d:List Dir}{p:Ex->St->Prop}(h:XE P tt (Kj P tt w0) f w0 c σ d λe b _=>p e b)(n:FlOk f σ)(o:Sat w0 σ r a w){Q:Exit->Act->m0->Prop}(q:DV Q)(s:∀e b r' g i,p e b->Sat w0 b r' g i->AgN f r r'->Q e.to g i):V c Q a w :=
 G9 l k (JV k m 9) f c σ d _ h n r a w o Q q (λ_ _ _ _ _ _ h=>False.elim h) λe b _ r' g i t j _ u=>s e b r' g i t j u
end
abbrev mS{β:Type}(bs:β->List (Option (o0×List SV)))(rs:β->List (Option Res))(n:Nat)(ts:List (Nat×SV))(R:Res)(y:β):St:=Vk R ⟨n,ts,bs y,rs y⟩
def MemJ(w0:m0)(bs:β->List (Option (o0×List SV)))(rs:β->List (Option Res))(a:Nat×Nat)(R:Res)(b:Env)(y:β)(W:m0):Prop:=∃r,Cu w0 (mS bs rs 0 [] R y) r W/\AgN a b r
variable{a:Act}{fn:Func}
section
variable{P:z4}{tt:List (Nat×TI)}{w0:m0}{α β:Type}{bs:β->List (Option (o0×List SV))}{rs:β->List (Option Res)}{nb nr:Nat}
def MemJ.to(b:∀y,(bs y).length=nb/\(rs y).length=nr){n:Nat}{ts:List (Nat×SV)}{R:Res}{f r1:Env}{e y:β}{w W:m0}(k:Sat w0 (mS bs rs n ts R e) r1 a w)(j:AgN (nb,nr+1) f r1)(h:MemJ w0 bs rs (nb,nr+1) R f y W):∃r,Sat w0 (mS bs rs n ts R y) r a W/\AgN (nb,nr+1) f r:=by
 let⟨r,l,g⟩:=h;have d:∀z,(mS bs rs n ts R z).bs.length=nb/\(mS bs rs n ts R z).rs.length=nr+1:=λz=>⟨(b z).1,len_N.trans (Lu Nat.succ (b z).2)⟩
 exact⟨r,k.back (σ':=mS bs rs n ts R y) l ⟨Su ((d e).1.trans (d y).1.symm),Su ((d e).2.trans (d y).2.symm)⟩ ⟨λi c=>by rw[(d e).1]at c;exact(g.1 i c).trans (j.1 i c).symm,λi c=>by rw[(d e).2]at c;exact(g.2 i c).trans (j.2 i c).symm⟩,g⟩
def Bw(a:∀y,(bs y).length=nb/\(rs y).length=nr){n:Nat}{ts:List (Nat×SV)}{R:Res}{y:β}:FlOk (nb,nr+1) (mS bs rs n ts R y):=⟨Su (a y).1.symm,Su ((Lu Nat.succ (a y).2.symm).trans (len_N (τ:=⟨n,ts,bs y,rs y⟩)).symm)⟩
def ka(I:YF P tt)(m:P.follows .mixedOrders=true)(b:∀y,(bs y).length=nb/\(rs y).length=nr){n p l D f:Nat}{ts:List (Nat×SV)}{enc:α->y9}{assign body:Code}{C:β->α->Prop}{N:β->α->β->Prop}{k:β->α->List (Nat×SV)}(K:BF (some p) n=true)(o:HI assign=true)(q:HI body=true)(u:∀y x R,C y x->∃d,XE P tt (Kj P tt w0) (nb,nr+1) w0 assign ((mS bs rs n ts R y).push (some p) (.val (enc x))) d λe σ _=>Jf e (Yb σ (mS bs rs n (k y x) R y) True))(z:∀y x R,C y x->∃d,XE P tt (Kj P tt w0) (nb,nr+1) w0 body (mS bs rs n (k y x) R y) d λe σ _=>Jf e (∃c,N y x c/\Yb σ (mS bs rs n ts R c) True)){L:β}{A:Env}{w:m0}(j:l≠D)(M:Sat w0 (mS bs rs n ts (F7 l D { state:=.ready,pending:=none,fn:=f,tmps:=a.tmps,params:=#[p],assign:=assign,body:=body,defers:=D }) L) A a w){y:β}{x:α}{W:m0}(O:MemJ w0 bs rs (nb,nr+1) (F7 l D { state:=.ready,pending:=none,fn:=f,tmps:=a.tmps,params:=#[p],assign:=assign,body:=body,defers:=D }) A y W)(J:C y x):
  YieldAt Fence.wide 7 P l #[enc x] W λe Q=>e=.returned (.bool true)/\∃c,N y x c/\MemJ w0 bs rs (nb,nr+1) (F7 l D { state:=.ready,pending:=none,fn:=f,tmps:=a.tmps,params:=#[p],assign:=assign,body:=body,defers:=D }) A c Q:=by
 obtain⟨r,B,S⟩:=O.to b M (AgN.refl _ _);have e0:({ tmps:=(#[p].zip #[enc x]).foldl (λt (p,v)=>t.setIfInBounds p v) a.tmps,defers:=[] }:Act)=a.put (some p) (enc x):=by
  unfold Act.put;rw[<- B.defers];simp
 have hx:∀y,(⟨n,ts,bs y,rs y⟩:St).rs.length=nr:=λy=>(b y).2
 refine⟨f,_,assign,body,run_yield (AB j ⟨.ready,none,f,a.tmps,#[p],assign,body,D⟩ B).2 rfl,roundIn_of_wpIn trivial ?_⟩;rw[e0];obtain⟨d,T⟩:=u y x _ J;refine JA (EP m) I m (p:=λe σ=>Jf e (Yb σ _ True)) T (Bw b) (B.put (s:=.val (enc x)) K rfl) (λ_ _ _ _ _ h=>h) (λe U r1 a1 W1 g E F=>?_) o (λ⟨_,_,h⟩=>h);cases e with
 |exit i=>exact False.elim g
 |ret=>exact False.elim g
 |normal =>
  obtain⟨V,X⟩:=AB j { state:=.busy,pending:=none,fn:=f,tmps:=a.tmps,params:=#[p],assign:=assign,body:=body,defers:=D } ((Q3 w0 (show Yb U _ True from g)).2 _ _ _ E);refine⟨_,run_beginRound X rfl,?_⟩;obtain⟨d2,e2⟩:=z y x _ J;refine JA (EP m) I m (p:=λe σ=>Jf e (∃c,N y x c/\Yb σ _ True)) e2 (Bw b) V (λ_ _ _ _ _ h=>h) (λe σ3 r3 a3 W3 g G H=>?_) q (λ⟨_,_,h⟩=>h);cases e with
  |exit i=>exact False.elim g
  |ret=>exact False.elim g
  |normal =>
   obtain⟨c,Y,g⟩:=(show ∃c,_ from g)
   obtain⟨Z,h5⟩:=AB j { state:=.ready,pending:=none,fn:=f,tmps:=a.tmps,params:=#[p],assign:=assign,body:=body,defers:=D } ((Q3 w0 g).2 _ _ _ G);exact⟨_,_,run_endRound none h5,rfl,c,Y,_,Z.mem,S.trans (F.trans (H.trans ⟨λ_ _=>rfl,λ_ _=>rfl⟩))⟩
def mem_range(V:YF P tt)(X:P.follows .mixedOrders=true)(c:∀y,(bs y).length=nb/\(rs y).length=nr){n p s:Nat}{ts:List (Nat×SV)}{enc:α->Value}{g:Operand}{assign body:Code}{C:β->α->Prop}{N:β->α->β->Prop}{E:β->Prop}{ts1:β->α->List (Nat×SV)}(Y:BF (some p) n=true)(B:HI assign=true)(G:HI body=true)(H:∀y x R,C y x->∃d,XE P tt (Kj P tt w0) (nb,nr+1) w0 assign ((mS bs rs n ts R y).push (some p) (.val (enc x))) d λe σ _=>Jf e (Yb σ (mS bs rs n (ts1 y x) R y) True))(I:∀y x R,C y x->∃d,XE P tt (Kj P tt w0) (nb,nr+1) w0 body (mS bs rs n (ts1 y x) R y) d λe σ _=>Jf e (∃t,N y x t/\Yb σ (mS bs rs n ts R t) True)){k:β}{r:Env}{a:Act}{w:World}(hS:Sat w0 ⟨n,ts,bs k,rs k⟩ r a w){A:Array Value}(Z:a.eval g=.func (.func s) #[] A)(he:Xt P s)(hit:∀l R r1 W,Cu w0 (mS bs rs 0 [] R k) r1 W->AgN (nb,nr) r r1->(∀y x i,MemJ w0 bs rs (nb,nr+1) R r1 y i->C y x->YieldAt Fence.wide 7 P l #[enc x] i λe J=>e=.returned (.bool true)/\∃t,N y x t/\MemJ w0 bs rs (nb,nr+1) R r1 t J)->CallsIn Fence.wide 8 P s (#[.func (.yield l) #[] #[]]++A) W λe J=>(∃v,e=.returned v)/\∃y,E y/\MemJ w0 bs rs (nb,nr+1) R r1 y J){U:List Deferred}{Q:Exit->Act->World->Prop}(o:∀D r' W y,E y->Sat w0 (mS bs rs n ts (Hg D) y) r' a W->Q .normal (YA ({ target:=.collected D,args:=#[] }::U) a) W):(Code.rangeFunc g #[p] assign body).wp P Q (YA U a) w:=by
 have K:=hS.defers;refine wpIn_wide.1 (wpIn_rangeFunc (F:=Fence.wide) (n:=9) λf _=>?_);obtain⟨i,m⟩:∃i,(w.alloc (.deferred (some []))).alloc (.loop { state:=.ready,pending:=none,fn:=f,tmps:=a.tmps,params:=#[p],assign:=assign,body:=body,defers:=w.heap.size })=i:=⟨_,rfl⟩
 have u:i.heap[w.heap.size+1]?=some (.loop { state:=.ready,pending:=none,fn:=f,tmps:=a.tmps,params:=#[p],assign:=assign,body:=body,defers:=w.heap.size }):=by
  rw[<- m];have:=World.alloc_heap_new (w.alloc (.deferred (some []))) (.loop { state:=.ready,pending:=none,fn:=f,tmps:=a.tmps,params:=#[p],assign:=assign,body:=body,defers:=w.heap.size });rwa [World.size_alloc]at this
 have L:i.heap[w.heap.size]?=some (.deferred (some [])):=by
  rw[<- m];exact(U7 _ _ _ x6).trans (World.alloc_heap_new w _)
 have M:Below w.heap.size w i:=by
  rw[<- m];exact((p5 _ w).alloc (L4 _) _).alloc x6 _
 have z:w.heap.size+1≠w.heap.size:=x3;have j:=hS.fresh (R:=F7 (w.heap.size+1) w.heap.size { state:=.ready,pending:=none,fn:=f,tmps:=a.tmps,params:=#[p],assign:=assign,body:=body,defers:=w.heap.size }) (x:=.bool false) (S:=λb=>b=w.heap.size+1\/b=w.heap.size) M ⟨rfl,u,L,λ_=>Iff.rfl⟩ λb hb=>by
  have h1:=(b8.1 u).1;rcases hb with rfl|rfl<;>omega
 have q:=(Ag.add (⟨n,ts,bs k,rs k⟩:St) r ⟨0,.bool false,λb=>b=w.heap.size+1\/b=w.heap.size⟩).n (fl:=(nb,nr)) ⟨Su (c k).1.symm,Su (c k).2.symm⟩;revert j q;generalize r.add' (⟨n,ts,bs k,rs k⟩:St) ⟨0,.bool false,λb=>b=w.heap.size+1\/b=w.heap.size⟩=r1;intro j q;refine⟨w.heap.size+1,[{ target:=.collected w.heap.size,args:=#[] }],i,{ target:=.fn (.func s) A,args:=#[.func (.yield (w.heap.size+1)) #[] #[]] },i,s,#[.func (.yield (w.heap.size+1)) #[] #[]]++A,i,?_,?_,λ_ _=>trivial,?_,λ_=>x4,?_⟩
 ·rw[<- m];exact run_enterLoop_outer _ _ _ _ _
 ·simp only[resolve,E9,Z];simp[go_sem]
 ·simp[invoke,go_sem,he _ _]
 ·refine(hit _ _ r1 i j.mem q λy x W O hC=>ka V X c Y B G H I z j O hC).mono ?_
  rintro e W2 ⟨⟨v,rfl⟩,y,hE,O⟩;let⟨r2,h2,_⟩:=O.to c j (AgN.refl _ _);let⟨h3,h4⟩:=AB z { state:=.exhausted,pending:=none,fn:=f,tmps:=a.tmps,params:=#[p],assign:=assign,body:=body,defers:=w.heap.size } h2;refine⟨none,_,run_endLoop h4 x6,?_⟩;have T:=o w.heap.size _ _ y hE (ji h3);unfold YA at T ⊢;rw[K]at T ⊢;exact T
def sv(z:YF P tt)(S:P.follows .mixedOrders=true)(i:∀y,(bs y).length=nb/\(rs y).length=nr){id ci dst l n:Nat}{ts:List (Nat×SV)}{args:List x0h}{x:y9}(ho:b.toList[ci]?=some o)(k:Ps o=some (f,args))(q:o.dst=some dst)(C:BF (some dst) n=true)(D:b.toList.all MF=true){R:Res}{y:β}{d:List Dir}{N:β->Prop}{X:β->St->Prop}(h2:KC P tt (Kj P tt w0) w0 id b (b.toList.take ci) 0 σ d λσ _=>v1 σ f λT=>vL σ args λvs=>T=.func (.yield l) #[] #[]/\vs=[x]/\Yb σ (mS bs rs n ts R y) True)(h3:∀y,N y->∃d,KC P tt (Kj P tt w0) w0 id b (b.toList.drop (ci+1)) (ci+1) ((mS bs rs n ts R y).push (some dst) (bV true)) d λσ _=>X y σ){A:Env}{w:m0}(hS:Sat w0 σ r a w)(hf:FlOk (nb,nr+1) σ)(hg:AgN (nb,nr+1) A r)(hY:∀W,MemJ w0 bs rs (nb,nr+1) R A y W->YieldAt Fence.wide 7 P l #[x] W λe W'=>e=.returned (.bool true)/\∃t,N t/\MemJ w0 bs rs (nb,nr+1) R A t W'){Q:Exit->Act->m0->Prop}(hX:∀y σ r a w,N y->X y σ->Sat w0 σ r a w->AgN (nb,nr+1) A r->Q .normal a w):(Code.region id b false).wpIn Fence.wide 8 P Q a w:=by
 refine wpIn_region_list ?_
 have g:=D;have E:=FU ho;rw[E]at g ⊢;rw[List.all_append,Lx]at g;let⟨n1,n2⟩:=g;let⟨_,n3⟩:=L5.1 (show(MF o&&(b.toList.drop (ci+1)).all MF)=true from n2);refine FA _ (λe a w=>e=.normal/\wpListIn Fence.wide 8 P b _ (o::b.toList.drop (ci+1)) a w) (λ⟨_,_,h,_⟩=>by cases h) (λ_ _ _ h=>by cases h.1) (λ_ _ h=>h.2) n1 (VA z (JV z S 9) _ 0 σ d _ h2 r a w hS _ (λ_ _ _ _ _ _ h=>False.elim h) λσ3 d3 F U B m p G _=>⟨rfl,?_⟩);let⟨T,m,H⟩:=Xr w0 m;obtain⟨vs,⟨rfl,rfl,u⟩,I⟩:=Br w0 m;have v:=(Q3 w0 u).2 _ _ _ p;have j:=hg.trans (G.n hf);let⟨y1,y2,J⟩:=Pd (P:=P) k (H F U B p.see) (I F U B p.see) B;let⟨fn,tmps,assign,body,y4,y5⟩:=hY B ⟨F,v.mem,j⟩;unfold wpListIn;rw[if_pos (by unfold Region.wanted;rw[y2])];refine⟨λ_ _=>trivial,?_⟩;rw[Oper.semAt_eq _ _ _ (λc e=>by unfold MF at J;rw[e]at J;cases J),y1,y4];refine⟨λh=>(by cases h),y5.mono ?_⟩;rintro e W4 ⟨rfl,t,V,hJ⟩;let⟨r4,h4,K⟩:=hJ.to i v j;let⟨Y,e5⟩:=h3 t V;have Z:=FA Q (λe a w=>e=.normal/\Q .normal a w) (λ⟨_,_,h,_⟩=>by cases h) (λ_ _ _ h=>by cases h.1) (λ_ _ h=>h.2) (n:=8) (P:=P) (ops:=b) (m2:=[]) n3 (VA z (JV z S 9) _ (ci+1) _ Y _ e5 r4 _ W4 (h4.put (s:=bV true) C rfl) _ (λ_ _ _ _ _ _ h=>False.elim h) λσ5 Y r5 a5 w5 L M O _=>⟨rfl,hX t σ5 r5 a5 w5 V L M (K.trans (O.n (Bw i)))⟩);rw[Rq]at Z;rw[q];exact Z
theorem bB(g:YF P tt)(i:P.follows .mixedOrders=true){f:FuncId}(j:P.funcs[f]?=some fn){args:o3}(k:Nat.ble args.length fn.ntmps=true){R:Ending->m0->Prop}{E:Code->St->Prop}{d:List Dir}(h:BQ P tt w0 fn E (SH fn.ntmps args) d λ_ _ _=>False)(l:∀b σ r a w,E b σ->Sat w0 σ r a w->b.wp P (Aa (bodyPostM Fence.wide 9 P fn R)) a w):Calls P f args.toArray w0 R:=by
 unfold BQ at h;split at h
 ·rename_i c m;refine callsIn_wide.1 (callsIn_of_wp_marks (F:=Fence.wide) (n:=9) j m trivial (wpIn_wide.2 ?_) rfl);exact wp_mono (Mc g i (JV g i 9) (0,0) (WE _) l c _ d _ h ⟨L7 _,L7 _⟩ _ _ _ (qm (L8 k) w0) (λ_ _ _ _ _ _ h=>False.elim h) λe t u r' o p q _ _ _=>q.elim) λe o p s=>WF s
 grind
def dj{R:Res}{D n t:Nat}{w:m0}{g:Ending->m0->Prop}(d:Sat w0 ⟨n,[(t,.val v)],[],[some R,some (Hg D)]⟩ r a w)(i:fn.results=#[.tmp t])(j:∀x S f,R.φ x S f->(∀b,S b->w0.heap.size<=b/\b<f.heap.size)->Below w0.heap.size w0 f->g (.returned v) f):
  Aa (bodyPostM Fence.wide 9 P fn g) .ret (YA [{ target:=.collected D,args:=#[] }] a) w:=by
 show LeavesInM Fence.wide 9 P fn a.tmps _ (a.defers++[{ target:=.collected D,args:=#[] }]) .returning w;rw[d.defers];let⟨⟨_,l,h⟩,y⟩:=d.see.rs 1 _ rfl;let⟨m,o⟩:=d.see.rs 0 _ rfl;have p:∀b,r.S 0 b->b≠D:=λb c e=>d.sep.disj 0 1 _ _ rfl rfl x4 b c ((h b).2 e)
 have q:(results fn a.tmps).run P (w.putObj D (.deferred none))=.ok v (w.putObj D (.deferred none)):=by
  have s:=(d.see.ts t (.val v) (by simp[Yv])).1;rw[results_tmp i];exact Lu (λv=>Result.ok v _) s
 refine⟨x6,.inl ⟨D,_,rfl,run_takeDeferred l,⟨v,q,j (r.x 0) (r.S 0) _ (R.loc _ _ _ _ (λb c=>World.putObj_heap_other (p b c)) m) (λb c=>⟨d.sep.ownS 0 _ rfl b c,by rw[World.putObj_size];exact o b c⟩) ?_⟩⟩⟩;have c:=d.see.low;exact⟨c.os,c.tape,c.output,by rw[World.putObj_size];exact c.size,λk u=>(World.putObj_heap_other λe=>hA (d.sep.ownS 1 _ rfl D ((h D).2 rfl))).trans (c.block k u)⟩
end
open Go.WideShapes Go.ChangeShapes Go.Deep
section
variable{H:Type}{enc:o0×y9->H}{w:m0}
def Oc:prog.cellsOf 30=2:=x5
end
