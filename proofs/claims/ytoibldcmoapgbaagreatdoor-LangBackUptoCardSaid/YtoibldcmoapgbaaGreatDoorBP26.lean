/- Laws beneath the statement. -/
import Derived.Test.YtoibldcmoapgbaaGreatDoorBP25
namespace Go.Proofs.YtoibldcmoapgbaaGreatDoor
set_option linter.defProp false
open Tryz
set_option maxRecDepth 100000
open Go Go.RowKit
def BA(A:m3)(c:Nat):Nat->m3
 |0=>A
 |i+1=>CX (BA A c i) (c-i) 4
section
variable{w0:m0}{A:m3}{c:Nat}{l:List Tm}
def Za(b:l.length<=c)(a:RdK w0 A l.length 4 (λj=>QK (Qb l j))):∀i,i<=l.length->RdK w0 (BA A c i) (l.drop i).length 4 (λj=>QK (Qb (l.drop i) j))
 |0,_=>a
 |i+1,hi=>by
  have h:=Za b a i x3;rw[show(l.drop i).length=(l.drop (i+1)).length+1 by simp only[Lf];omega]at h;refine(pZ (c:=c-i) (by simp only[Lf];omega) h).congr λj _=>?_
  grind[Qb]
def E2(h:A=none->l.length=0/\c=0)(i:Nat)(a:BA A c i=none):(l.drop i).length=0/\c-i=0:=by
 have d:A=none:=by
  induction i with
  |zero=>exact a
  |succ i b=>exact b (by unfold BA CX at a;simpa using a)
 grind
def Q9{l:List Tm}(h:decide ((l.length:Int)>0)=true):0<l.length:=by grind
def Il{l:List Tm}(h:decide ((l.length:Int)>0)=false):l=[]:=by simp_all
def SQ(i:Nat)(f:l.length<=c)(a:RdK w0 (BA A c i) (l.drop i).length 4 (λj=>QK (Qb (l.drop i) j)))(h:0<(l.drop i).length)(w:m0):
  (Instr.sliceAt 50 (.slice (BA A c i) (l.drop i).length (c-i)) (some (.int .i64 1)) none none).run prog w=.ok (.slice (BA A c (i+1)) (l.drop (i+1)).length (c-(i+1))) w:=by
 let⟨b,off,e,_⟩:=a h;have hl:(l.drop (i+1)).length=(l.drop i).length-1:=by simp only[Lf];omega
 have d:(l.drop i).length<=c-i:=by simp only[Lf];omega
 rw[hl,show BA A c (i+1)=CX (BA A c i) (c-i) 4 from rfl,e,JO prog w b off ((l.drop i).length) (c-i) 1 ((l.drop i).length) (some (.int .i64 1)) none (Qm 50 _ rfl) rfl x4 (.inr ⟨.i64,rfl⟩) (.inl ⟨rfl,rfl⟩) h d,Tl,Nat.sub_sub];rfl
def FX(i cc:Nat)(a:RdK w0 (BA A c i) (l.drop i).length 4 (λj=>QK (Qb (l.drop i) j)))(h:0<(l.drop i).length)(w:m0):
  (Instr.indexAt 50 (.slice (BA A c i) (l.drop i).length cc) (.int .i64 0)).run prog w=.ok (.pointer (some (Q5 (BA A c i) (0*4+0)))) w:=by
 let⟨b,off,e,_⟩:=a h;rw[e];exact(Kr _ (Qm 50 _ rfl) rfl x4 (show RdK w (some ⟨b,off,none⟩) (l.drop i).length 0 (λ_=>[])from λ_=>⟨b,off,rfl,λ_ _ i hi=>absurd hi (R4 _)⟩) h (w0:=w) (f:=λ_=>[])) w (p5 _ _)
end
structure MgI (f0:Nat) (a b:List Tm) (i j:Nat) (o:List Tm):Prop where
 hi:i<=a.length
 hj:j<=b.length
 ho:o.length<=i+j
 hf:∃f,(a.drop i).length+(b.drop j).length<=f/\VS f0 a b=o++VS f (a.drop i) (b.drop j)
variable{a b:List Tm}
theorem uJ{f:Nat}{x y:Tm}(h:(x::a).length+(y::b).length<=f):∃g,a.length+b.length+1<=g/\VS f (x::a) (y::b)=bif By x.m y.m then x::VS g a (y::b)else bif By y.m x.m then y::VS g (x::a) b else Yl x y::VS g a b:=by
 obtain⟨g,rfl⟩:∃g,f=g+1:=⟨f-1,by simp at h;omega⟩
 exact⟨g,by simp at h;omega,rfl⟩
variable{i:Nat}
theorem If{l:List Tm}(h:0<(l.drop i).length):l.drop i=Qb (l.drop i) 0::l.drop (i+1):=by
 have a:i<l.length:=by simp only[Lf]at h;omega
 rw[Tb a];rfl
section
variable{f0:Nat}{a b o:List Tm}{i j:Nat}(h:MgI f0 a b i j o)(ha:0<(a.drop i).length)(hb:0<(b.drop j).length)
include h ha hb
theorem MgI.step:∃g,(a.drop (i+1)).length+(b.drop (j+1)).length+1<=g/\VS f0 a b=o++bif By (Qb (a.drop i) 0).m (Qb (b.drop j) 0).m then Qb (a.drop i) 0::VS g (a.drop (i+1)) (b.drop j)else bif By (Qb (b.drop j) 0).m (Qb (a.drop i) 0).m then Qb (b.drop j) 0::VS g (a.drop i) (b.drop (j+1))else Yl (Qb (a.drop i) 0) (Qb (b.drop j) 0)::VS g (a.drop (i+1)) (b.drop (j+1)):=by
 let⟨f,c,e⟩:=h.hf;have d:(Qb (a.drop i) 0::a.drop (i+1)).length+(Qb (b.drop j) 0::b.drop (j+1)).length<=f:=by rw[<- If ha,<- If hb];exact c
 grind[uJ,If]
theorem MgI.stA(e:decide (Vc (Qb (a.drop i) 0) (Qb (b.drop j) 0)<0)=true):MgI f0 a b (i+1) j (o++[Qb (a.drop i) 0]):=by
 let⟨g,d,c⟩:=h.step ha hb;simp only[Lf]at d ha hb;have hl:By (Qb (a.drop i) 0).m (Qb (b.drop j) 0).m=true:=by
  grind[Vc]
 rw[hl,cond_true]at c;exact⟨x3,h.hj,by have:=h.ho;simp;omega,g,by simp only[Lf];omega,by rw[c];simp⟩
theorem MgI.stB(k:decide (Vc (Qb (a.drop i) 0) (Qb (b.drop j) 0)<0)=false)(c:decide (Vc (Qb (a.drop i) 0) (Qb (b.drop j) 0)>0)=true):MgI f0 a b i (j+1) (o++[Qb (b.drop j) 0]):=by
 let⟨g,l,f⟩:=h.step ha hb;simp only[Lf]at l ha hb;have n:=L1 k;have d:=L0 c;unfold Vc at n d;cases e:By (Qb (a.drop i) 0).m (Qb (b.drop j) 0).m
 ·cases e2:By (Qb (b.drop j) 0).m (Qb (a.drop i) 0).m
  ·rw[e,e2]at d;simp at d
  ·rw[e,e2,cond_false,cond_true]at f;exact⟨h.hi,x3,by have:=h.ho;simp;omega,g,by simp only[Lf];omega,by rw[f];simp⟩
 grind
theorem MgI.stC(f:decide (Vc (Qb (a.drop i) 0) (Qb (b.drop j) 0)<0)=false)(c:decide (Vc (Qb (a.drop i) 0) (Qb (b.drop j) 0)>0)=false):MgI f0 a b (i+1) (j+1) (o++[Yl (Qb (a.drop i) 0) (Qb (b.drop j) 0)]):=by
 let⟨g,k,d⟩:=h.step ha hb;simp only[Lf]at k ha hb;have l:=L1 f;have n:=L1 c;unfold Vc at l n;cases e:By (Qb (a.drop i) 0).m (Qb (b.drop j) 0).m
 ·cases e2:By (Qb (b.drop j) 0).m (Qb (a.drop i) 0).m
  ·rw[e,e2,cond_false,cond_false]at d;exact⟨x3,x3,by have:=h.ho;simp;omega,g,by simp only[Lf];omega,by rw[d];simp⟩
  grind
 grind
end
variable{j:Nat}
theorem MgI.fin{f0:Nat}{o:List Tm}(h:MgI f0 a b i j o)(c:a.drop i=[]\/b.drop j=[]):o++a.drop i++b.drop j=VS f0 a b:=by
 let⟨f,_,d⟩:=h.hf
 grind[QaE]
theorem Im{l:List Tm}(P:Tm->Prop)(h:∀t,t∈l->P t)(h0:0<(l.drop i).length):P (Qb (l.drop i) 0):=by grind[Yh]
variable{α:Type}{k:Nat}
def QaG{P:z4}(w0:m0){t e bytes:Nat}(c:α->o3)(d:RowT P t t e k bytes)(n:Nat)(hb:bytes*n<=281474976710656)(o:n<=1000000):
  II P w0 [] (λy:Hp=>.slice y.1 ([]:List α).length y.2) (λy:Hp=>Qc e k c ([]:List α) y.1 y.2) (Instr.makeSlice t (.int .i64 0) (.int .i64 (n:Int))):=λW _=>by
 let⟨a,z,e1,e2,g,i,p⟩:=d.info;let⟨j,l,f,m⟩:=run_make_own (P:=P) W 0 t e a z k d.ht e1 e2 g .i64 .i64 n (by rw[i];exact hb) (by simp only[maxLen];omega) (L7 _);show Pf P W _ _ _;refine⟨(some ⟨W.heap.size,0,none⟩,n),.bool false,λb=>b=W.heap.size,j,l,(p5 _ _).grown m (L4 _) (λk hk=>by cases hk),(show _/\_/\_ from⟨rfl,f,λb=>⟨λh=>by rw[h];rfl,λh=>(o7 h).symm⟩⟩),λb hb=>?_⟩;subst hb;exact⟨L4 _,(f.lt _ rfl).2⟩
abbrev HAa(q1:Nat×Nat×List Tm×Hp)(a:List Tm)(b:List Tm)(f:Hp):=(q1.1+1,q1.2.1+1,q1.2.2.1++[Yl (Qb (a.drop q1.1) 0) (Qb (b.drop q1.2.1) 0)],f)
abbrev HAb(b:List Tm)(q1:Nat×Nat×List Tm×Hp):=Qb (b.drop q1.2.1) 0
abbrev HAc(a:List Tm)(q1:Nat×Nat×List Tm×Hp):=Qb (a.drop q1.1) 0
abbrev HAd(C:Hp):Nat×Nat×List Tm×Hp:=(0,0,([]:List Tm),C)
abbrev HAe(q1:Nat×Nat×List Tm×Hp)(a:List Tm)(f:Hp):=(q1.1+1,q1.2.1,q1.2.2.1++[(HAc a q1)],f)
abbrev HAf(q1:Nat×Nat×List Tm×Hp)(b:List Tm)(f:Hp):=(q1.1,q1.2.1+1,q1.2.2.1++[(HAb b q1)],f)
def HAg(q1:Nat×Nat×List Tm×Hp)(a:List Tm)(b:List Tm):List Dir:=[x08 9 2 0 (λ(f:Hp)=>(Value.slice f.1 (q1.2.2.1++a.drop q1.1).length f.2,Qc 56 4 QK (q1.2.2.1++a.drop q1.1) f.1 f.2,[x08 9 4 0 (λ(z:Hp)=>(Value.slice z.1 (q1.2.2.1++a.drop q1.1++b.drop q1.2.1).length z.2,Qc 56 4 QK (q1.2.2.1++a.drop q1.1++b.drop q1.2.1) z.1 z.2,[]))]))]
abbrev HAh(a:List Tm)(q1:Nat×Nat×List Tm×Hp):y9:=.agg #[.string ((HAc a q1).m),.bool ((HAc a q1).c.b),.string ((HAc a q1).c.s),.int .i64 ((HAc a q1).c.e)]
abbrev HAi(b:List Tm)(q1:Nat×Nat×List Tm×Hp):y9:=.agg #[.string ((HAb b q1).m),.bool ((HAb b q1).c.b),.string ((HAb b q1).c.s),.int .i64 ((HAb b q1).c.e)]
abbrev HAj(a:List Tm)(q1:Nat×Nat×List Tm×Hp)(b:List Tm):=Yl (HAc a q1) (HAb b q1)
abbrev HAk:y9:=.func (.func 214) #[] #[]
abbrev HAl:y9:=.func (.func 215) #[] #[]
abbrev HAm(q1:Nat×Nat×List Tm×Hp)(a:List Tm)(b:List Tm):=q1.2.2.1++[Yl (HAc a q1) (HAb b q1)]
abbrev HAn(a:List Tm)(q1:Nat×Nat×List Tm×Hp)(b:List Tm):o3:=[.string ((HAj a q1 b).m),.bool ((HAj a q1 b).c.b),.string ((HAj a q1 b).c.s),.int .i64 ((HAj a q1 b).c.e)]
abbrev HAo:=λ(f:Hp)=>([.nxt [f,(none,2)]]:List Dir)
def oq{A B:m3}{p q:Nat}(k f0:Nat)(hk:k<=5000)(V:a.length<=4000)(X:b.length<=4000)(r:a.length<=p)(v:b.length<=q)(L:A=none->a.length=0/\p=0)(M:B=none->b.length=0/\q=0)(T:∀t,t∈a->fN k t.c)(U:∀t,t∈b->fN k t.c)(Y:a.length+b.length<=f0)(w:m0)(O:QV w)(ha:RdK w A a.length 4 (λj=>QK (Qb a j)))(hb:RdK w B b.length 4 (λj=>QK (Qb b j))):NewIn prog w [] 240 #[Ω A a.length p,Ω B b.length q,.func (.func 214) #[] #[],.func (.func 215) #[] #[]] (λ(y:Hp)=>Ω y.1 (VS f0 a b).length y.2) (λ(y:Hp)=>Qc 56 4 QK (VS f0 a b) y.1 y.2) :=
 Bf Hp Qm QU (λa w=>call240 a w) func240 ntmps240 results240 _ rfl 0 _ _ [x05 1 4 (iV ((a.length+b.length:Nat):Int)),x09 1 5 [] (λ(C:Hp)=>(Ω C.1 ([]:List Tm).length C.2,Qc 56 4 QK ([]:List Tm) C.1 C.2,[x0a ((HAd C):Nat×Nat×List Tm×Hp) (λ(q1:Nat×Nat×List Tm×Hp) (u:List Hp)=>bif Nat.beq (u.getD 1 (none,0)).2 0 then(q1.1+1,q1.2.1,q1.2.2.1++[(HAc a q1)],u.headD (none,0))else bif Nat.beq (u.getD 1 (none,0)).2 1 then(q1.1,q1.2.1+1,q1.2.2.1++[(HAb b q1)],u.headD (none,0))else(q1.1+1,q1.2.1+1,q1.2.2.1++[Yl (HAc a q1) (HAb b q1)],u.headD (none,0))) (λ(q1:Nat×Nat×List Tm×Hp)=>((⟨75,[(0,lV (BA A p q1.1) (a.drop q1.1).length (p-q1.1)),(1,lV (BA B q q1.2.1) (b.drop q1.2.1).length (q-q1.2.1)),(2,.val HAk),(3,.val HAl),(9,lV q1.2.2.2.1 (q1.2.2.1).length q1.2.2.2.2)],[],[some (Qc 56 4 QK q1.2.2.1 q1.2.2.2.1 q1.2.2.2.2)]⟩:St),MgI f0 a b q1.1 q1.2.1 q1.2.2.1,((a.drop q1.1).length+(b.drop q1.2.1).length),[.gb 2 4 [.both [.reg 9 [],x03 3 2 (.pointer (some (Q5 (BA A p q1.1) (0*4+0)))),x03 3 3 (HAh a q1),x03 3 5 (.pointer (some (Q5 (BA B q q1.2.1) (0*4+0)))),x03 3 6 (HAi b q1),x04 3 7 (iV (Vc (HAc a q1) (HAb b q1))),.both [.ord,.pur 0,.pur 1,.pur 2,x03 6 2 (.pointer (some (Q5 (BA A p q1.1) (0*4+0)))),.pur 6,.pur 7,x03 6 7 (Ω (BA A p (q1.1+1)) (a.drop (q1.1+1)).length (p-(q1.1+1))),x03 6 3 (HAh a q1),x08 6 5 0 (λ(f:Hp)=>(Ω f.1 (q1.2.2.1++[(HAc a q1)]).length f.2,Qc 56 4 QK (q1.2.2.1++[(HAc a q1)]) f.1 f.2,[.nxt [f,(none,0)]]))] [.both [.ord,.pur 0,.pur 1,.pur 2,x03 8 2 (.pointer (some (Q5 (BA B q q1.2.1) (0*4+0)))),.pur 6,.pur 7,x03 8 7 (Ω (BA B q (q1.2.1+1)) (b.drop (q1.2.1+1)).length (q-(q1.2.1+1))),x03 8 3 (HAi b q1),x08 8 5 0 (λ(f:Hp)=>(Ω f.1 (q1.2.2.1++[(HAb b q1)]).length f.2,Qc 56 4 QK (q1.2.2.1++[(HAb b q1)]) f.1 f.2,[.nxt [f,(none,1)]]))] [.ord,.pur 0,.pur 1,.pur 2,.pur 3,x03 4 3 (.pointer (some (Q5 (BA A p q1.1) (0*4+0)))),.pur 5,.pur 6,x03 4 6 (.pointer (some (Q5 (BA B q q1.2.1) (0*4+0)))),.pur 11,.pur 12,x03 4 12 (Ω (BA A p (q1.1+1)) (a.drop (q1.1+1)).length (p-(q1.1+1))),.pur 13,.pur 14,x03 4 14 (Ω (BA B q (q1.2.1+1)) (b.drop (q1.2.1+1)).length (q-(q1.2.1+1))),.both [x03 4 4 (HAh a q1),x03 4 7 (HAi b q1),x04 4 8 (.agg [sV ((HAj a q1 b).m),bV ((HAj a q1 b).c.b),sV ((HAj a q1 b).c.s),iV ((HAj a q1 b).c.e)]),.eff 4 10 0 (λ(f:Hp)=>Ω f.1 (HAm q1 a b).length f.2) (λ(f:Hp)=>Qc 56 4 QK (HAm q1 a b) f.1 f.2) HAo] [x03 4 7 (HAi b q1),x03 4 4 (HAh a q1),x04 4 8 (.agg [sV ((HAj a q1 b).m),bV ((HAj a q1 b).c.b),sV ((HAj a q1 b).c.s),iV ((HAj a q1 b).c.e)]),.eff 4 10 0 (λ(f:Hp)=>Ω f.1 (HAm q1 a b).length f.2) (λ(f:Hp)=>Qc 56 4 QK (HAm q1 a b) f.1 f.2) HAo]]]] (HAg q1 a b)] (HAg q1 a b)]))]))] (λW R=>have H:=ha.up R (λ_=>rfl);have I:=hb.up R (λ_=>rfl);(λ(O:QV W)=>ai (show IntKind.i64.wrap ((a.length:Int)+(b.length:Int))=((a.length+b.length:Nat):Int)from by rw[Le _ x3];omega)<|ai (QaG W QK XN (a.length+b.length) x3 x3) λ(C:Hp)=>Vv (qV (Ω (BA A p (HAd C).1) (a.drop (HAd C).1).length (p-(HAd C).1))) (qV (Ω (BA B q (HAd C).2.1) (b.drop (HAd C).2.1).length (q-(HAd C).2.1))) (qV HAk) (qV HAl) (qV (Ω (HAd C).2.2.2.1 ((HAd C).2.2.1).length (HAd C).2.2.2.2)) (Yq (Qc 56 4 QK ([]:List Tm) C.1 C.2) (Qc 56 4 QK ((HAd C).2.2.1) ((HAd C).2.2.2.1) ((HAd C).2.2.2.2)) λ_ _ _ h=>h)<|ai (show MgI f0 a b 0 0 []from⟨L7 _,L7 _,L4 _,f0,Y,rfl⟩) λ(q1:Nat×Nat×List Tm×Hp) (g:MgI f0 a b q1.1 q1.2.1 q1.2.2.1)=>ZD (decide ((((a.drop q1.1).length:Nat):Int)>0)) true (λD=>Xi (decide ((((b.drop q1.2.1).length:Nat):Int)>0)) (λE=>KJ (λ(G:m0) (_:Below W.heap.size W G)=>(FX q1.1 (p-q1.1) (Za r H q1.1 g.hi) (Q9 D)) G) (ZE (Za r H q1.1 g.hi) 0 0 (Q9 D) x4 rfl rfl) (λ(G:m0) (_:Below W.heap.size W G)=>(FX q1.2.1 (q-q1.2.1) (Za v I q1.2.1 g.hj) (Q9 E)) G) (ZE (Za v I q1.2.1 g.hj) 0 0 (Q9 E) x4 rfl rfl) (QbJ (HAc a q1) (HAb b q1) W)<|Xi (decide ((Vc (Qb (a.drop q1.1) 0) (Qb (b.drop q1.2.1) 0))<0)) (λN=>Ja (FX q1.1 (p-q1.1) (Za r H q1.1 g.hi) (Q9 D)) (SQ q1.1 r (Za r H q1.1 g.hi) (Q9 D)) (ZE (Za r H q1.1 g.hi) 0 0 (Q9 D) x4 rfl rfl)<|ai (YJ W 50 56 1 1 QK q1.2.2.1 ([(HAc a q1)]) (q1.2.2.1++[(HAc a q1)]) q1.2.2.2.1 q1.2.2.2.2 ([Ψ ((HAc a q1).m),Ξ ((HAc a q1).c.b),Ψ ((HAc a q1).c.s),Θ ((HAc a q1).c.e)]) XN Q4 K2 rfl (by have:=g.ho;have:=g.hi;have:=g.hj;simp;omega) rfl rfl) λ(f:Hp)=>Vv (qV (Ω (BA A p (HAe q1 a f).1) (a.drop (HAe q1 a f).1).length (p-(HAe q1 a f).1))) (qV (Ω (BA B q (HAe q1 a f).2.1) (b.drop (HAe q1 a f).2.1).length (q-(HAe q1 a f).2.1))) (qV HAk) (qV HAl) (qV (Ω (HAe q1 a f).2.2.2.1 ((HAe q1 a f).2.2.1).length (HAe q1 a f).2.2.2.2)) (Yq (Qc 56 4 QK (q1.2.2.1++[(HAc a q1)]) f.1 f.2) (Qc 56 4 QK ((HAe q1 a f).2.2.1) ((HAe q1 a f).2.2.2.1) ((HAe q1 a f).2.2.2.2)) λ_ _ _ h=>h)<|ai (show MgI f0 a b (q1.1+1) q1.2.1 (q1.2.2.1++[(Qb (a.drop q1.1) 0)])from g.stA (Q9 D) (Q9 E) N) (show(a.drop (q1.1+1)).length+(b.drop q1.2.1).length<(a.drop q1.1).length+(b.drop q1.2.1).length from by have J:=Q9 D;have K:=Q9 E;simp only[Lf]at J K ⊢;omega)) λN=>Xi (decide ((Vc (Qb (a.drop q1.1) 0) (Qb (b.drop q1.2.1) 0))>0)) (λQ=>Ja (FX q1.2.1 (q-q1.2.1) (Za v I q1.2.1 g.hj) (Q9 E)) (SQ q1.2.1 v (Za v I q1.2.1 g.hj) (Q9 E)) (ZE (Za v I q1.2.1 g.hj) 0 0 (Q9 E) x4 rfl rfl)<|ai (YJ W 50 56 1 1 QK q1.2.2.1 ([(HAb b q1)]) (q1.2.2.1++[(HAb b q1)]) q1.2.2.2.1 q1.2.2.2.2 ([Ψ ((HAb b q1).m),Ξ ((HAb b q1).c.b),Ψ ((HAb b q1).c.s),Θ ((HAb b q1).c.e)]) XN Q4 K2 rfl (by have:=g.ho;have:=g.hi;have:=g.hj;simp;omega) rfl rfl) λ(f:Hp)=>Vv (qV (Ω (BA A p (HAf q1 b f).1) (a.drop (HAf q1 b f).1).length (p-(HAf q1 b f).1))) (qV (Ω (BA B q (HAf q1 b f).2.1) (b.drop (HAf q1 b f).2.1).length (q-(HAf q1 b f).2.1))) (qV HAk) (qV HAl) (qV (Ω (HAf q1 b f).2.2.2.1 ((HAf q1 b f).2.2.1).length (HAf q1 b f).2.2.2.2)) (Yq (Qc 56 4 QK (q1.2.2.1++[(HAb b q1)]) f.1 f.2) (Qc 56 4 QK ((HAf q1 b f).2.2.1) ((HAf q1 b f).2.2.2.1) ((HAf q1 b f).2.2.2.2)) λ_ _ _ h=>h)<|ai (show MgI f0 a b q1.1 (q1.2.1+1) (q1.2.2.1++[(Qb (b.drop q1.2.1) 0)])from g.stB (Q9 D) (Q9 E) N Q) (show(a.drop q1.1).length+(b.drop (q1.2.1+1)).length<(a.drop q1.1).length+(b.drop q1.2.1).length from by have J:=Q9 D;have K:=Q9 E;simp only[Lf]at J K ⊢;omega)) λQ=>Ky (FX q1.1 (p-q1.1) (Za r H q1.1 g.hi) (Q9 D)) (FX q1.2.1 (q-q1.2.1) (Za v I q1.2.1 g.hj) (Q9 E)) (SQ q1.1 r (Za r H q1.1 g.hi) (Q9 D)) (SQ q1.2.1 v (Za v I q1.2.1 g.hj) (Q9 E))<|(p0 (Ja (ZE (Za r H q1.1 g.hi) 0 0 (Q9 D) x4 rfl rfl) (ZE (Za v I q1.2.1 g.hj) 0 0 (Q9 E) x4 rfl rfl) (yT hk (Im (λt=>fN k t.c) T (Q9 D)) (Im (λt=>fN k t.c) U (Q9 E)) W O)<|ai (YJ W 50 56 1 1 QK q1.2.2.1 ([Yl (HAc a q1) (HAb b q1)]) (q1.2.2.1++[Yl (HAc a q1) (HAb b q1)]) q1.2.2.2.1 q1.2.2.2.2 (HAn a q1 b) XN Q4 K2 rfl (by have:=g.ho;have:=g.hi;have:=g.hj;simp;omega) rfl rfl) λ(f:Hp)=>Vv (qV (Ω (BA A p (HAa q1 a b f).1) (a.drop (HAa q1 a b f).1).length (p-(HAa q1 a b f).1))) (qV (Ω (BA B q (HAa q1 a b f).2.1) (b.drop (HAa q1 a b f).2.1).length (q-(HAa q1 a b f).2.1))) (qV HAk) (qV HAl) (qV (Ω (HAa q1 a b f).2.2.2.1 ((HAa q1 a b f).2.2.1).length (HAa q1 a b f).2.2.2.2)) (Yq (Qc 56 4 QK (HAm q1 a b) f.1 f.2) (Qc 56 4 QK ((HAa q1 a b f).2.2.1) ((HAa q1 a b f).2.2.2.1) ((HAa q1 a b f).2.2.2.2)) λ_ _ _ h=>h)<|ai (show MgI f0 a b (q1.1+1) (q1.2.1+1) (q1.2.2.1++[Yl (Qb (a.drop q1.1) 0) (Qb (b.drop q1.2.1) 0)])from g.stC (Q9 D) (Q9 E) N Q) (show(a.drop (q1.1+1)).length+(b.drop (q1.2.1+1)).length<(a.drop q1.1).length+(b.drop q1.2.1).length from by have J:=Q9 D;have K:=Q9 E;simp only[Lf]at J K ⊢;omega)) (Ja (ZE (Za v I q1.2.1 g.hj) 0 0 (Q9 E) x4 rfl rfl) (ZE (Za r H q1.1 g.hi) 0 0 (Q9 D) x4 rfl rfl) (yT hk (Im (λt=>fN k t.c) T (Q9 D)) (Im (λt=>fN k t.c) U (Q9 E)) W O)<|ai (YJ W 50 56 1 1 QK q1.2.2.1 ([Yl (HAc a q1) (HAb b q1)]) (q1.2.2.1++[Yl (HAc a q1) (HAb b q1)]) q1.2.2.2.1 q1.2.2.2.2 (HAn a q1 b) XN Q4 K2 rfl (by have:=g.ho;have:=g.hi;have:=g.hj;simp;omega) rfl rfl) λ(f:Hp)=>Vv (qV (Ω (BA A p (HAa q1 a b f).1) (a.drop (HAa q1 a b f).1).length (p-(HAa q1 a b f).1))) (qV (Ω (BA B q (HAa q1 a b f).2.1) (b.drop (HAa q1 a b f).2.1).length (q-(HAa q1 a b f).2.1))) (qV HAk) (qV HAl) (qV (Ω (HAa q1 a b f).2.2.2.1 ((HAa q1 a b f).2.2.1).length (HAa q1 a b f).2.2.2.2)) (Yq (Qc 56 4 QK (HAm q1 a b) f.1 f.2) (Qc 56 4 QK ((HAa q1 a b f).2.2.1) ((HAa q1 a b f).2.2.2.1) ((HAa q1 a b f).2.2.2.2)) λ_ _ _ h=>h)<|ai (show MgI f0 a b (q1.1+1) (q1.2.1+1) (q1.2.2.1++[Yl (Qb (a.drop q1.1) 0) (Qb (b.drop q1.2.1) 0)])from g.stC (Q9 D) (Q9 E) N Q) (show(a.drop (q1.1+1)).length+(b.drop (q1.2.1+1)).length<(a.drop q1.1).length+(b.drop q1.2.1).length from by have J:=Q9 D;have K:=Q9 E;simp only[Lf]at J K ⊢;omega)))) λE=>ai (Gf W 50 QK q1.2.2.1 (a.drop q1.1) (q1.2.2.1++a.drop q1.1) q1.2.2.2.1 q1.2.2.2.2 (Ω (BA A p q1.1) (a.drop q1.1).length (p-q1.1)) XN Q4 K2 rfl (by have:=g.ho;have:=g.hi;have:=g.hj;simp;omega) (λ(G:m0) (F:Below W.heap.size W G)=>GM Q4 x4 (d:=Bp) ((Za r H q1.1 g.hi).below (λ_=>rfl) F) (E2 L q1.1))) λ(f:Hp)=>ai (Gf W 50 QK (q1.2.2.1++a.drop q1.1) (b.drop q1.2.1) (q1.2.2.1++a.drop q1.1++b.drop q1.2.1) f.1 f.2 (Ω (BA B q q1.2.1) (b.drop q1.2.1).length (q-q1.2.1)) XN Q4 K2 rfl (by have:=g.ho;have:=g.hi;have:=g.hj;simp;omega) (λ(G:m0) (F:Below W.heap.size W G)=>GM Q4 x4 (d:=Bp) ((Za v I q1.2.1 g.hj).below (λ_=>rfl) F) (E2 M q1.2.1))) λ(z:Hp)=>(show ∃y:Hp,SV.val (Ω z.1 (q1.2.2.1++a.drop q1.1++b.drop q1.2.1).length z.2)=SV.val ((λ(y:Hp)=>Ω y.1 (VS f0 a b).length y.2) y)/\∀(x:y9) (S:Nat->Prop) (w:m0),(Qc 56 4 QK (q1.2.2.1++a.drop q1.1++b.drop q1.2.1) z.1 z.2).φ x S w->((λ(y:Hp)=>Qc 56 4 QK (VS f0 a b) y.1 y.2) y).φ x S w from⟨z,by rw[(g.fin (.inr (Il E)))],λx S w h=>by rw[(g.fin (.inr (Il E)))]at h;exact h⟩)) λD=>ai (Gf W 50 QK q1.2.2.1 (a.drop q1.1) (q1.2.2.1++a.drop q1.1) q1.2.2.2.1 q1.2.2.2.2 (Ω (BA A p q1.1) (a.drop q1.1).length (p-q1.1)) XN Q4 K2 rfl (by have:=g.ho;have:=g.hi;have:=g.hj;simp;omega) (λ(G:m0) (F:Below W.heap.size W G)=>GM Q4 x4 (d:=Bp) ((Za r H q1.1 g.hi).below (λ_=>rfl) F) (E2 L q1.1))) λ(f:Hp)=>ai (Gf W 50 QK (q1.2.2.1++a.drop q1.1) (b.drop q1.2.1) (q1.2.2.1++a.drop q1.1++b.drop q1.2.1) f.1 f.2 (Ω (BA B q q1.2.1) (b.drop q1.2.1).length (q-q1.2.1)) XN Q4 K2 rfl (by have:=g.ho;have:=g.hi;have:=g.hj;simp;omega) (λ(G:m0) (F:Below W.heap.size W G)=>GM Q4 x4 (d:=Bp) ((Za v I q1.2.1 g.hj).below (λ_=>rfl) F) (E2 M q1.2.1))) λ(z:Hp)=>(show ∃y:Hp,SV.val (Ω z.1 (q1.2.2.1++a.drop q1.1++b.drop q1.2.1).length z.2)=SV.val ((λ(y:Hp)=>Ω y.1 (VS f0 a b).length y.2) y)/\∀(x:y9) (S:Nat->Prop) (w:m0),(Qc 56 4 QK (q1.2.2.1++a.drop q1.1++b.drop q1.2.1) z.1 z.2).φ x S w->((λ(y:Hp)=>Qc 56 4 QK (VS f0 a b) y.1 y.2) y).φ x S w from⟨z,by rw[(g.fin (.inl (Il D)))],λx S w h=>by rw[(g.fin (.inl (Il D)))]at h;exact h⟩)) (Ql O R)) λW=>x5
def bU(A:m3)(c k:Nat):m3:=A.map λa=>⟨a.block,if c=k then a.off else a.off+k*4,none⟩
section
variable{w0:m0}{A:m3}{c k:Nat}{l:List Tm}
def QbK(d:l.length<=c)(a:RdK w0 A l.length 4 (λj=>QK (Qb l j)))(h0:0<l.length)(hk:k<=l.length):
  Qp prog w0 (Instr.sliceAt 50 (.slice A l.length c) none (some (.int .i64 (k:Int))) none) (.slice A (l.take k).length c):=λw _=>by
 obtain⟨b,off,rfl,_⟩:=a h0;rw[JO prog w b off l.length c 0 k none (some (.int .i64 (k:Int))) (Qm 50 _ rfl) rfl x4 (.inl ⟨rfl,rfl⟩) (.inr ⟨.i64,rfl⟩) (L7 _) x3,Ll,Tg hk,Ue,T9,ite_self];rfl
def qA(a:l.length<=c)(d:RdK w0 A l.length 4 (λj=>QK (Qb l j)))(h0:0<l.length)(hk:k<=l.length):
  Qp prog w0 (Instr.sliceAt 50 (.slice A l.length c) (some (.int .i64 (k:Int))) none none) (.slice (bU A c k) (l.drop k).length (c-k)):=λw _=>by
 obtain⟨b,off,rfl,_⟩:=d h0;rw[JO prog w b off l.length c k l.length (some (.int .i64 (k:Int))) none (Qm 50 _ rfl) rfl x4 (.inr ⟨.i64,rfl⟩) (.inl ⟨rfl,rfl⟩) hk a,Lf];rfl
def pW(a:RdK w0 A l.length 4 (λj=>QK (Qb l j)))(hk:k<=l.length):RdK w0 A (l.take k).length 4 (λj=>QK (Qb (l.take k) j)):=λh0=>by
 rw[Ll,Tg hk]at h0 ⊢;let⟨b,off,e,h⟩:=a x3;refine⟨b,off,e,λj c i hi=>?_⟩;rw[h j x3 i hi];congr 2;simp[Qb,List.getD,c]
def pY(e:l.length<=c)(d:RdK w0 A l.length 4 (λj=>QK (Qb l j)))(hk:k<=l.length):RdK w0 (bU A c k) (l.drop k).length 4 (λj=>QK (Qb (l.drop k) j)):=λh0=>by
 rw[Lf]at h0 ⊢;obtain⟨b,off,rfl,h⟩:=d x3;refine⟨b,off+k*4,by simp[bU,show c≠k by omega],λj f i hi=>?_⟩;have a:=h (k+j) x3 i hi;rw[S8,<- Sf]at a;rw[a];congr 2;simp[Qb,List.getD]
def US(h:A=none->l.length=0/\c=0)(a:bU A c k=none):(l.drop k).length=0/\c-k=0:=by
 let⟨b,d⟩:=h (by unfold bU at a;simpa using a);rw[Lf];omega
end
def ue(W:World)(x y:Operand){n:Nat}(a:n<=4611686018427387904):Qp prog W (do eqGuard .quo 3 x y (.int .i64 (n:Int)) (.int .i64 2);binOp .quo 3 (.int .i64 (n:Int)) (.int .i64 2)) (.int .i64 ((n / 2:Nat):Int)):=λb _=>by
 have h:IntKind.i64.wrap ((n:Int) / 2)=(n:Int) / 2:=Le _ x3;simp[go_sem,h]
def yQ(l:List Tm)(A:m3)(c:Nat)(y:Hp):Res where
 φ x S w:=x.oneCell'=true/\((l.length<2/\y=(A,c)/\∀b,¬ S b)\/(¬ l.length<2/\(Qc 56 4 QK (YE l) y.1 y.2).φ (.bool false) S w))
 one _ _ _ h:=h.1
 loc x S w w' h hφ:=⟨hφ.1,hφ.2.imp id λ⟨a,d⟩=>⟨a,(Qc 56 4 QK (YE l) y.1 y.2).loc _ _ _ _ h d⟩⟩
variable{a:Nat}{S:Nat->Prop}{w:m0}
def EO{e:Nat}{c:α->o3}{l:List α}{A:m3}{x:y9}(h:(Qc e k c l A a).φ x S w):l.length<=a:=by
 let⟨_,b,_⟩:=(show _/\_/\_ from h)
 rcases b.2 with⟨e1,e2⟩|⟨g,cap,d,e1,_,_,f,_⟩
 ·rw[e2];exact L7 _
 ·injection e1 with _ _ i
  rw[i];exact f
section
variable{l:List Tm}{A:m3}{c:Nat}{y:Hp}{x:y9}{S:Nat->Prop}{w W:m0}
def yR(ha:RdK w A l.length 4 (λj=>QK (Qb l j)))(hb:Below w.heap.size w W)(h:(yQ l A c y).φ x S W):RdK W y.1 (YE l).length 4 (λj=>QK (Qb (YE l) j)):=by
 rcases h.2 with⟨b,a,_⟩|⟨_,a⟩
 ·rw[a,EX b];exact ha.below (λ_=>rfl) hb
 ·exact JN Q4 Bp a
def qL(b:l.length<=c)(h:(yQ l A c y).φ x S W):(YE l).length<=y.2:=by
 rcases h.2 with⟨d,a,_⟩|⟨_,a⟩
 ·rw[a,EX d];exact b
 ·exact EO a
def iz(b:A=none->l.length=0/\c=0)(h:(yQ l A c y).φ x S W):y.1=none->(YE l).length=0/\y.2=0:=by
 rcases h.2 with⟨d,a,_⟩|⟨_,a⟩
 ·rw[a,EX d];exact b
 ·exact(M6 a).1
end
def Ts:y9:=.func (.func 214) #[] #[]
def Tz:y9:=.func (.func 215) #[] #[]
def SrtOk(W:m0)(l:List Tm)(A:m3)(c:Nat):Prop:=NewIn prog W [] 213 #[.slice A l.length c,Ts,Tz] (λy:Hp=>.slice y.1 (YE l).length y.2) (yQ l A c)
variable{W:m0}
def SrtOk.up{l:List Tm}{A:m3}{c:Nat}(h:SrtOk w l A c)(a:Below w.heap.size w W):SrtOk W l A c:=⟨h.1,λb hb=>h.2 b (nxt a hb)⟩
def oo(n:Nat)(l m:List Tm)(A B:m3)(ca cb:Nat)(w:m0)(s:l.length+m.length<=4000)(a:l.length<=ca)(c:m.length<=cb)(d:A=none->l.length=0/\ca=0)(f:B=none->m.length=0/\cb=0)(u:∀t,t∈l->fT n 0 t)(v:∀t,t∈m->fT n 0 t)(z:QV w)(ha:RdK w A l.length 4 (λj=>QK (Qb l j)))(hb:RdK w B m.length 4 (λj=>QK (Qb m j))):
  ∀W,Below w.heap.size w W->∀x S,(HW (λy:Hp=>.slice y.1 (YE l).length y.2) (yQ l A ca)).φ x S W->∀g r,(HW (λy:Hp=>.slice y.1 (YE m).length y.2) (yQ m B cb)).φ g r W ->
   Calls prog 240 #[x,g,Ts,Tz] W λe h=>∃(y:Hp) (x:y9) (S:Nat->Prop),e=.returned (.slice y.1 (VS (l.length+m.length) (YE l) (YE m)).length y.2)/\(Qc 56 4 QK (VS (l.length+m.length) (YE l) (YE m)) y.1 y.2).φ x S h/\(∀b,S b->W.heap.size<=b/\b<h.heap.size)/\Below W.heap.size W h:=λW i x S C g r D=>by
 obtain⟨_,E,_,rfl,o⟩:=(show _/\_ from C)
 obtain⟨_,F,_,rfl,p⟩:=(show _/\_ from D)
 have e1:=GY l.length l;have e2:=GY m.length m;exact(oq 4000 (l.length+m.length) x3 (show(YE l).length<=4000 from L6 e1 x3) (show(YE m).length<=4000 from L6 e2 x3) (qL a o) (qL c p) (iz d o) (iz f p) (λt q=>(An _ _ u t q).2.up x3) (λt q=>(An _ _ v t q).2.up x3) (Nat.add_le_add e1 e2) W (Ql z i) (yR ha i o) (yR hb i p)).2 W (p5 _ _)
def am(A:m3)(c:Nat)(l:List Tm)(a:decide ((l.length:Int)<2)=true)(w:m0):RetAt prog w 213 #[Ω A l.length c,Ts,Tz] (Ω A l.length c) :=
 rk [.br true] λW d b=>ai a<|b
def ov{l:List Tm}(h:¬ l.length<2):VS ((l.take (l.length / 2)).length+(l.drop (l.length / 2)).length) (YE (l.take (l.length / 2))) (YE (l.drop (l.length / 2)))=YE l:=by
 rw[wL h];congr 1;simp only[Ll,Lf];omega
abbrev HAp(l:List Tm):=VS ((l.take (l.length / 2)).length+(l.drop (l.length / 2)).length) (YE (l.take (l.length / 2))) (YE (l.drop (l.length / 2)))
abbrev HAq(l:List Tm):=l.take (l.length / 2)
abbrev HAr(l:List Tm):=l.drop (l.length / 2)
def qF{n:Nat}{A:m3}{c:Nat}{l:List Tm}(hl:l.length<=4000)(d:l.length<=c)(f:A=none->l.length=0/\c=0)(r:∀t,t∈l->fT n 0 t)(g:decide ((l.length:Int)<2)=false)(w:m0)(p:QV w)(ha:RdK w A l.length 4 (λj=>QK (Qb l j)))(s:SrtOk w (l.take (l.length / 2)) A c)(u:SrtOk w (l.drop (l.length / 2)) (bU A c (l.length / 2)) (c-(l.length / 2))):NewIn prog w [] 213 #[Ω A l.length c,Ts,Tz] (λ(y:Hp)=>Ω y.1 (YE l).length y.2) (λ(y:Hp)=>Qc 56 4 QK (YE l) y.1 y.2) :=
 Bf Hp Qm QU (λa w=>call213 a w) func213 ntmps213 results213 _ rfl 14 _ _ [.br false,x03 3 2 (Θ ((l.length / 2:Nat):Int)),.reg 15 [],x03 4 2 (Ω A (HAq l).length c),.o 4 5 (.nw (.han 5) [] (λ(y:Hp)=>Ω y.1 (YE (HAq l)).length y.2) (λ(y:Hp)=>yQ (HAq l) A c y)),x03 4 8 (Ω (bU A c (l.length / 2)) (HAr l).length (c-(l.length / 2))),.o 4 11 (.nw (.han 11) [] (λ(y:Hp)=>Ω y.1 (YE (HAr l)).length y.2) (λ(y:Hp)=>yQ (HAr l) (bU A c (l.length / 2)) (c-(l.length / 2)) y)),.o 4 14 (.nwc [5,11] (.han 14) (λ(y:Hp)=>Ω y.1 (HAp l).length y.2) (λ(y:Hp)=>Qc 56 4 QK (HAp l) y.1 y.2)),.opn 4 15 14 (λ(b:Hp)=>Ω b.1 (HAp l).length b.2) (λ(b:Hp)=>Qc 56 4 QK (HAp l) b.1 b.2) (λ(b:Hp)=>[])] (λW i=>have k:=ha.up i (λ_=>rfl);(λ(p:QV W)=>Yx g (ue W (.tmp 13) (.const (Θ 2)) (n:=l.length) x3) (QbK d k (show 0<l.length from hA (L1 g)) (show l.length / 2<=l.length from Rn _ _)) (s.up i) (show ∀y:Hp,(Ω y.1 (YE (l.take (l.length / 2))).length y.2:y9).oneCell'=true from λ_=>rfl) (qA d k (show 0<l.length from hA (L1 g)) (show l.length / 2<=l.length from Rn _ _)) (u.up i) (show ∀y:Hp,(Ω y.1 (YE (l.drop (l.length / 2))).length y.2:y9).oneCell'=true from λ_=>rfl)<|X0 (p0 (λa w=>call240 a w) (oo n (HAq l) (HAr l) A (bU A c (l.length / 2)) c (c-(l.length / 2)) W (by simp only[Ll,Lf];omega) (by simp only[Ll];omega) (by simp only[Lf];omega) (λe=>by have:=f e;simp only[Ll];omega) (US f) (λt q=>r t (U5 q)) (λt q=>r t (To q)) p (pW k (show l.length / 2<=l.length from Rn _ _)) (pY d k (show l.length / 2<=l.length from Rn _ _)))) (show ∀y:Hp,(Ω y.1 (VS ((l.take (l.length / 2)).length+(l.drop (l.length / 2)).length) (YE (l.take (l.length / 2))) (YE (l.drop (l.length / 2)))).length y.2:y9).oneCell'=true from λ_=>rfl)<|ai (show qg (HW (λ(y:Hp)=>Ω y.1 (VS ((l.take (l.length / 2)).length+(l.drop (l.length / 2)).length) (YE (l.take (l.length / 2))) (YE (l.drop (l.length / 2)))).length y.2) (λ(y:Hp)=>Qc 56 4 QK (VS ((l.take (l.length / 2)).length+(l.drop (l.length / 2)).length) (YE (l.take (l.length / 2))) (YE (l.drop (l.length / 2)))) y.1 y.2)) (λ(y:Hp)=>Ω y.1 (VS ((l.take (l.length / 2)).length+(l.drop (l.length / 2)).length) (YE (l.take (l.length / 2))) (YE (l.drop (l.length / 2)))).length y.2) (λ(y:Hp)=>Qc 56 4 QK (VS ((l.take (l.length / 2)).length+(l.drop (l.length / 2)).length) (YE (l.take (l.length / 2))) (YE (l.drop (l.length / 2)))) y.1 y.2)from Aw λy x z S w v h=>Ak v h) λ(b:Hp)=>(show ∃y:Hp,SV.val (Ω b.1 (VS ((l.take (l.length / 2)).length+(l.drop (l.length / 2)).length) (YE (l.take (l.length / 2))) (YE (l.drop (l.length / 2)))).length b.2)=SV.val ((λ(y:Hp)=>Ω y.1 (YE l).length y.2) y)/\∀(x:y9) (S:Nat->Prop) (w:m0),(Qc 56 4 QK (VS ((l.take (l.length / 2)).length+(l.drop (l.length / 2)).length) (YE (l.take (l.length / 2))) (YE (l.drop (l.length / 2)))) b.1 b.2).φ x S w->((λ(y:Hp)=>Qc 56 4 QK (YE l) y.1 y.2) y).φ x S w from⟨b,by rw[(ov (λh=>L1 g x3))],λx S w h=>by rw[(ov (λh=>L1 g x3))]at h;exact h⟩)) (Ql p i)) λW=>x5
def Nh{n:Nat}:∀(N:Nat) {A:m3} {c:Nat} {l:List Tm},l.length<=N->l.length<=4000->l.length<=c->(A=none->l.length=0/\c=0)->(∀t,t∈l->fT n 0 t)->∀w:m0,QV w->RdK w A l.length 4 (λj=>QK (Qb l j))->SrtOk w l A c
 |N,A,c,l,z,hl,b,a,f,w,g,ha=>by
  by_cases h:l.length<2
  ·have d:=am A c l (Lk x3) w;refine⟨d.1,λW i=>(d.2 W i).mono λe o k=>?_⟩;obtain⟨rfl,hb⟩:=k;exact⟨(A,c),.bool false,λ_=>False,by rw[EX h],(show _/\_ from⟨rfl,.inl ⟨h,rfl,λ_ h=>h⟩⟩),λ_ h=>h.elim,hb⟩
  ·obtain⟨M,rfl⟩:∃M,N=M+1:=⟨N-1,x3⟩
   have hk:l.length / 2<=l.length:=Rn _ _;have p:=Nh M (A:=A) (c:=c) (l:=l.take (l.length / 2)) (by rw[Ll];omega) (by rw[Ll];omega) (by rw[Ll];omega) (λe=>by have:=a e;rw[Ll];omega) (λt m=>f t (U5 m)) w g (pW ha hk);have q:=Nh M (A:=bU A c (l.length / 2)) (c:=c-l.length / 2) (l:=l.drop (l.length / 2)) (by rw[Lf];omega) (by rw[Lf];omega) (by rw[Lf];omega) (US a) (λt m=>f t (To m)) w g (pY b ha hk);have d:=qF hl b a f (Lc x3) w g ha p q;refine⟨d.1,λW i=>Calls.mono (d.2 W i) λe o k=>?_⟩;let⟨y,x,S,r,s,u,v⟩:=k;exact⟨y,.bool false,S,r,(show _/\_ from⟨rfl,.inr ⟨h,Ak rfl s⟩⟩),u,v⟩
variable{β:Type}
def Qc0(i:Nat)(val:β->y9)(ρ:β->Res)(s:SV)(σ:St):Prop:=ZO (Xq σ.rs i) λR=>Z6 s.plain (∃y:β,s.den e0=val y/\∀(x:y9) (S:Nat->Prop) (w:m0),R.φ x S w->(ρ y).φ x S w)
variable{w0:m0}
theorem uR{P:z4}{tt:List (Nat×TI)}(l:YF P tt)(m:P.follows .mixedOrders=true){f:FuncId}{fn:Func}(n:Xt P f)(o:P.funcs[f]?=some fn){N:Nat}(p:fn.ntmps=N){rs:Array ResultVar}(q:fn.results=rs)(args:o3)(hl:Nat.ble args.length N=true)(i:Nat)(val:β->y9)(ρ:β->Res)(d:List Dir){T:m0->Prop}(h:∀W,Below w0.heap.size w0 W->T W)(hk:∀W,T W=C6 P tt W fn (SH N args) d λe σ _=>VV tt rs.toList e σ λs=>Qc0 i val ρ s σ):NewIn P w0 [] f args.toArray val ρ:=by
 refine⟨n,λW t=>?_⟩;have key:=hk W▸h W t;subst p;subst q;unfold C6 at key;cases hb:fn.body with
 |none =>
  grind
 |some c =>
  rw[hb]at key;refine(H9 l m o hb hl (λs σ=>Qc0 i val ρ s σ) key).mono ?_
  rintro e A ⟨s,σ,r,a,rfl,g,j⟩;let⟨R,k,g⟩:=QH g;let⟨u,y,v,w⟩:=Qq g;let⟨x,z⟩:=j.see.rs i R k;exact⟨y,_,_,by rw[JK u,v],w _ _ _ x,λb hb=>⟨j.sep.ownS i R k b hb,z b hb⟩,j.see.low⟩
def Qw(t:Tm):Bool:=!(sg t.c==0)
def Vi(l:List Tm)(j:Nat):List Tm:=(l.take j).filter Qw
def E6(l:List Tm)(j:Nat):List Tm:=Vi l j++l.drop (Vi l j).length
section
variable{l:List Tm}{j:Nat}
theorem F9(l:List Tm)(j:Nat):(Vi l j).length<=j/\(Vi l j).length<=l.length:=by
 grind[Vi]
def I3(l:List Tm)(j:Nat):(E6 l j).length=l.length:=by
 simp[F9,E6]
theorem Gx(h:j<l.length):l.take (j+1)=l.take j++[Qb l j]:=by
 rw[Rj h,Qb,YZ h]
theorem PN(h:j<l.length)(hk:(!((sg (Qb l j).c)==0))=true):Vi l (j+1)=Vi l j++[Qb l j]:=by
 unfold Vi;rw[Gx h,List.filter_append,Ug (show Qw _=true from hk)];rfl
theorem Ij(h:j<l.length)(hk:(!((sg (Qb l j).c)==0))=false):Vi l (j+1)=Vi l j:=by
 unfold Vi
 grind[Gx,Qw]
theorem QcX(h:j<l.length):(E6 l j).getD j Bp=Qb l j:=by
 have a:=(F9 l j).1
 grind[E6,Qb]
theorem zF(h:j<l.length)(hk:(!((sg (Qb l j).c)==0))=true):(E6 l j).set (Vi l j).length (Qb l j)=E6 l (j+1):=by
 have a:=(F9 l j).1
 grind[E6,PN,Tb]
def tG(h:j<l.length)(hk:(!((sg (Qb l j).c)==0))=false):E6 l (j+1)=E6 l j:=by
 unfold E6;rw[Ij h hk]
end
theorem Ii{l:List Tm}:∀ {i:Nat},i<=l.length->(∀j,j<i->((sg (Qb l j).c)==0)=false)->Vi l i=l.take i
 |0,_,_=>rfl
 |i+1,hi,h=>by
  rw[PN x3 (by rw[h i x3];rfl),Ii x3 λj a=>h j x3,Gx x3]
theorem cB(l:List Tm):Vi l l.length=l.filter Qw:=by simp[Vi]
variable{f:Nat->o3}
def mB{A:m3}{l:List Tm}(h:RdK W A (E6 l j).length 4 f):RdK W A l.length 4 f:=by rwa [I3]at h
def uY(W:m0)(A:m3)(c:Nat){l:List Tm}(g:l.length<=4000)(hi:i<l.length)(hb:((sg (Qb l i).c)==0)=true)(d:∀j,j<i->((sg (Qb l j).c)==0)=false):
  Cv prog W [Qc 56 4 QK l A c] 211 #[.slice A l.length c,.func (.func 216) #[] #[]] (.int .i64 (i:Int)):=⟨λa w=>call211 a w,λb _ x S e=>by
 have h:=(oM (c:=c) x3 b (JN Q4 Bp e)).2 b (p5 _ _);rwa [VD (λj=>(sg (Qb l j).c)==0) d hi hb]at h⟩
def uZ(W:m0)(A:m3)(c:Nat){l:List Tm}(g:l.length<=4000)(d:∀j,j<l.length->((sg (Qb l j).c)==0)=false):
  Cv prog W [Qc 56 4 QK l A c] 211 #[.slice A l.length c,.func (.func 216) #[] #[]] (.int .i64 (-1)):=⟨λa w=>call211 a w,λb _ x S e=>by
 have h:=(oM (c:=c) x3 b (JN Q4 Bp e)).2 b (p5 _ _);rwa [Gg (λj=>(sg (Qb l j).c)==0) d]at h⟩
def QcY(w0:m0)(A:m3)(c j:Nat)(l:List Tm)(h0:0<l.length):GJ prog w0 [Qc 56 4 QK (E6 l j) A c] (Instr.sliceAt 50 (.slice A l.length c) (some (.int .i64 (((Vi l j).length:Nat):Int))) none none) (.slice (bU A c (Vi l j).length) (l.drop (Vi l j).length).length (c-(Vi l j).length)):=λW _ x S a=>by
 have h:=qA (l:=E6 l j) (k:=(Vi l j).length) (w0:=W) (EO a) (JN Q4 Bp a) (by rw[I3];exact h0) (by rw[I3];exact(F9 l j).2) W (p5 _ _);rw[I3]at h;unfold E6 at h;rwa [List.drop_left]at h
def QcT(w0:m0)(A:m3)(c n:Nat)(l:List Tm)(h:l.length<=n):GJ prog w0 [l7 56 4 n QK l A c] (Instr.sliceAt 50 (.slice A n c) none (some (.int .i64 (l.length:Int))) none) (.slice A l.length c):=λW _ x S a=>by
 obtain⟨_,⟨g,rfl⟩,b⟩:=(show _/\_ from a)
 rw[JO prog W g 0 n c 0 l.length none (some (.int .i64 (l.length:Int))) (Qm 50 _ rfl) rfl x4 (.inl ⟨rfl,rfl⟩) (.inr ⟨.i64,rfl⟩) (L7 _) x3,ite_self];rfl
def xb:∃z,(∀w,(zeroValue 56).run prog w=.ok z w)/\z.cells.size=4/\∀u,u∈z.cells.toList->u.oneCell'=true:=by
 obtain⟨z,h⟩:∃z,(prog.info? 56).bind (λi=>i.zero)=some z:=Option.isSome_iff_exists.1 (show((prog.info? 56).bind (λi=>i.zero)).isSome=true by kernel_rfl);have b:((prog.info? 56).bind (λi=>i.zero)).map (λz=>(z.cells.size==4)&&z.cells.toList.all (λu=>u.oneCell'))=some true:=x5;rw[h,Option.map_some]at b;have a:=o7 b;rw[Lx,Sk]at a;refine⟨z,λw=>?_,a.1,λu c=>Lg.1 a.2 u c⟩;cases e:prog.info? 56 with
 |none=>rw[e]at h;cases h
 |some i =>
  rw[e]at h;have d:i.zero=some z:=h;simp[zeroValue,typeInfo,e,d]
theorem mA(w0:m0)(A:m3)(c j ty:Nat)(l:List Tm)(h0:0<l.length):
  ∀W,Below w0.heap.size w0 W->∀x S,(Qc 56 4 QK (E6 l j) A c).φ x S W->Gc prog W (λ_:Unit=>.tuple #[]) (λ_:Unit=>l7 56 4 l.length QK (Vi l j) A c) x S (Vf .clear #[50] ty [.slice (bU A c (Vi l j).length) (l.drop (Vi l j).length).length (c-(Vi l j).length)]):=λW a x S b=>by
 let⟨z,d,f,i⟩:=xb;have n:=(F9 l j).2;have h:=kG (P:=prog) (w0:=w0) (t:=50) (ty:=ty) (A:=A) (cp:=c) (l1:=Vi l j) (l2:=l.drop (Vi l j).length) (B:=bU A c (Vi l j).length) (cq:=c-(Vi l j).length) Q4 x5 d f x4 i (by rw[Lf];omega) (λg e k m=>by
  rw[Lf]at k m;rw[e];simp[bU,show c≠(Vi l j).length by omega]) W a x S b
 grind
theorem Q1{n:Nat}(h:decide ((k:Int)<(n:Int))=true):k<n:=by grind
theorem Iy{n:Nat}(h:decide ((k:Int)<(n:Int))=false):n<=k:=by grind
theorem QdA{l:List Tm}(h:decide ((k:Int)<(l.length:Int))=true):(Vi l k).length<l.length:=by grind[F9]
theorem zH{A:m3}{c:Nat}{l:List Tm}(b:l.length<=4000)(d:∀j,j<l.length->((sg (Qb l j).c)==0)=false)(W:m0):FxF prog W (Qc 56 4 QK l A c) 212 #[Ω A l.length c,.func (.func 216) #[] #[]] (λ_:Unit=>Ω A l.length c) (λ_:Unit=>Qc 56 4 QK l A c) (λ_=>False) :=
 VC (β:=Unit) Qm QU (λa w=>call212 a w) func212 ntmps212 results212 _ rfl _ _ _ _ [.o 1 2 (.retr [0] (Θ (-1)))] (λF=>ai (uZ W A c b d)<|(YP F (Ω A l.length c) (λ_:Unit=>Ω A l.length c) (Qc 56 4 QK l A c) (λ_:Unit=>Qc 56 4 QK l A c) () rfl λ_ _ _ h=>h)) λF=>x5
abbrev HAs:y9:=.func (.func 216) #[] #[]
def zG{A:m3}{c:Nat}{l:List Tm}(x:l.length<=4000)(hi:i<l.length)(d:((sg (Qb l i).c)==0)=true)(q:∀j,j<i->((sg (Qb l j).c)==0)=false)(W:m0):FxF prog W (Qc 56 4 QK l A c) 212 #[Ω A l.length c,.func (.func 216) #[] #[]] (λ_:Unit=>Ω A (l.filter Qw).length c) (λ_:Unit=>Qc 56 4 QK (l.filter Qw) A c) (λ_=>False) :=
 VC (β:=Unit) Qm QU (λa w=>call212 a w) func212 ntmps212 results212 _ rfl _ _ _ _ [.o 1 2 (.retr [0] (Θ (i:Int))),.br false,x05 4 1 (iV ((i+1:Nat):Int)),x0a ((i+1):Nat) (λ(q1:Nat) (u:List Hp)=>q1+1) (λ(q1:Nat)=>((⟨42,[(0,lV A l.length c),(1,.val HAs),(4,lV none 0 0),(5,iV (((Vi l q1).length:Nat):Int)),(6,iV (q1:Int))],[],[some (Qc 56 4 QK (E6 l q1) A c),none]⟩:St),(q1<=l.length),(l.length-q1),[.both [x06 7 2 [0] (.pointer (some (Q5 A (q1*4+0)))),x06 7 3 [0] (.agg #[Ψ ((Qb l q1).m),Ξ ((Qb l q1).c.b),Ψ ((Qb l q1).c.s),Θ ((Qb l q1).c.e)]),x04 8 2 (bV ((sg (Qb l q1).c)==0)),.both [x06 9 3 [0] (.pointer (some (Q5 A (((Vi l q1).length)*4+0)))),x08 9 4 0 (λ(f:Unit)=>(undef,Qc 56 4 QK (E6 l (q1+1)) A c,[x05 10 1 (iV (((Vi l q1).length+1:Nat):Int)),x05 6 1 (iV ((q1+1:Nat):Int)),.nxt []]))] [x05 6 1 (iV ((q1+1:Nat):Int)),.nxt []]] [x06 11 2 [0] (Ω (bU A c (Vi l q1).length) (l.drop (Vi l q1).length).length (c-(Vi l q1).length)),x08 11 3 0 (λ(f:Unit)=>(.tuple #[],l7 56 4 l.length QK (Vi l q1) A c,[x06 12 2 [0] (Ω A (Vi l q1).length c)]))]]))] (λF=>Yx (uY W A c x hi d q) (show(((i:Int))==(-1))=false from Lp.2 x3) (QD i x3) (qV (Ω A l.length c)) (qV HAs) (qV (x01)) (show(i:Int)=(((Vi l (i+1)).length:Nat):Int)from by rw[(Ij (l:=l) hi (by rw[d];rfl)).trans (Ii (l:=l) (Sv hi) q),Ll,Tg (Sv hi)]) (qI (((i+1):Nat):Int))<|X0 (Yq (Qc 56 4 QK l A c) (Qc 56 4 QK (E6 l (i+1)) A c) λ_ _ _ h=>(by have e:E6 l (i+1)=l:=(by unfold E6;rw[(Ij (l:=l) hi (by rw[d];rfl)).trans (Ii (l:=l) (Sv hi) q),Ll,Tg (Sv hi),Uq]);rw[e];exact h)) (XR F)<|ai (show i+1<=l.length from hi) λ(q1:Nat) (r:(q1<=l.length))=>Xi (decide ((q1:Int)<(l.length:Int))) (λhl=>Ja (Jl W 56 4 QK (E6 l q1) A c Q4 Bp (λg p=>Y0 c (mB p) q1 (Q1 hl) (w0:=g))) (Jl W 56 4 QK (E6 l q1) A c Q4 Bp (λg p=>ZE (mB p) q1 0 (Q1 hl) x4 rfl (by rw[QcX (Q1 hl)]<;>rfl) (w0:=g))) (UD (Qb l q1) W)<|have Y:=show l.length-(q1+1)<l.length-q1 from hA (Q1 hl);Xi (!((sg (Qb l q1).c)==0)) (λhb=>ai (Jl W 56 4 QK (E6 l q1) A c Q4 Bp (λg p=>Y0 c (mB p) ((Vi l q1).length) (QdA hl) (w0:=g)))<|ai (Iz prog W 56 4 c QK A 56 ((Vi l q1).length) 0 (E6 l q1) (E6 l (q1+1)) (.agg #[Ψ ((Qb l q1).m),Ξ ((Qb l q1).c.b),Ψ ((Qb l q1).c.s),Θ ((Qb l q1).c.e)]) (Qb l q1) Q4 Bp (Qm 56 _ rfl) rfl rfl x4 (by rw[I3];exact QdA hl) (K2 _) (zF (Q1 hl) hb)) λ(f:Unit)=>Yx (show IntKind.i64.wrap ((((Vi l q1).length:Nat):Int)+1)=(((Vi l q1).length+1:Nat):Int)from QD _ (hA ((F9 l q1).2))) (QD q1 (hA (Q1 hl))) (qV (Ω A l.length c)) (qV HAs) (qV (x01)) (show(((Vi l q1).length+1:Nat):Int)=(((Vi l (q1+1)).length:Nat):Int)from by rw[PN (Q1 hl) hb,La];rfl) (qI (((q1+1):Nat):Int)) (XR (Qc 56 4 QK (E6 l (q1+1)) A c))<|ai (XR F)<|ai (show q1+1<=l.length from Q1 hl) Y) λhb=>Yx (QD q1 (hA (Q1 hl))) (qV (Ω A l.length c)) (qV HAs) (qV (x01)) (show(((Vi l q1).length:Nat):Int)=(((Vi l (q1+1)).length:Nat):Int)from by rw[Ij (Q1 hl) hb]) (qI (((q1+1):Nat):Int)) (Yq (Qc 56 4 QK (E6 l q1) A c) (Qc 56 4 QK (E6 l (q1+1)) A c) λ_ _ _ h=>(by rw[tG (Q1 hl) hb];exact h)) (XR F)<|ai (show q1+1<=l.length from Q1 hl) Y) λhl=>ai (QcY W A c q1 l (Lw (L7 _) hi))<|ai (mA W A c q1 0 l (Lw (L7 _) hi)) λ(f:Unit)=>ai (QcT W A c l.length (Vi l q1) (F9 l q1).2)<|have Z:=(show Vi l q1=l.filter Qw from by rw[show q1=l.length from Ra r (Iy hl),cB]);(YP F (Ω A (Vi l q1).length c) (λ_:Unit=>Ω A (l.filter Qw).length c) (l7 56 4 l.length QK (Vi l q1) A c) (λ_:Unit=>Qc 56 4 QK (l.filter Qw) A c) () (by rw[Z]) λ_ _ _ h=>(by have h:=h.1;rw[Z]at h;exact h))) λF=>x5
theorem x8(A:m3)(c:Nat)(l:List Tm)(a:l.length<=4000)(W:m0):FxF prog W (Qc 56 4 QK l A c) 212 #[.slice A l.length c,.func (.func 216) #[] #[]] (λ_:Unit=>.slice A (l.filter Qw).length c) (λ_:Unit=>Qc 56 4 QK (l.filter Qw) A c) (λ_=>False):=by
 by_cases h:∃i,i<l.length/\((sg (Qb l i).c)==0)=true
 ·obtain⟨i,⟨hi,hb⟩,b⟩:∃i,(i<l.length/\((sg (Qb l i).c)==0)=true)/\∀j,j<i->¬(j<l.length/\((sg (Qb l j).c)==0)=true):=by
   let⟨i,hi⟩:=h;induction i using Nat.strongRecOn with
   |_ i e =>
    grind
  exact zG a hi hb (λj d=>by simpa using λh=>b j d ⟨x3,h⟩) W
 grind[zH,cB,Ii]
def C0(l:List Tm)(k:Nat):List Tm:=(l.take k).map X4++l.drop k
theorem cE(l:List Tm)(k:Nat):(C0 l k).length=l.length:=by
 grind[C0]
def fQ{l:List Tm}(h:k<l.length):(C0 l k).getD k Bp=Qb l k:=by
 unfold C0 Qb;rw[List.getD,List.getD,sT (by rw[Rg,Ll];omega),List.getElem?_drop,Rg,Ll];congr 2;omega
def m6{l:List Tm}(h:k<l.length):(C0 l k).set k (X4 (Qb l k))=C0 l (k+1):=by
 have hl:((l.take k).map X4).length=k:=by rw[Rg,Ll];omega
 unfold C0;rw[List.set_append_right _ _ (by rw[hl];exact L4 _),hl,Tp,Tb h,List.set_cons_zero,Gx h,Rv];simp
def mZ(l:List Tm):C0 l l.length=l.map X4:=by unfold C0;simp
def Oo{A:m3}{l:List Tm}(h:RdK W A (C0 l k).length 4 f):RdK W A l.length 4 f:=by rwa [cE]at h
def Fe(l:List Tm):((YE l).filter Qw).length<=l.length:=L6 (List.length_filter_le _ _) (GY _ _)
abbrev sB(l:List Tm)(A:m3)(c:Nat):Res:=Qj (Qc 56 4 QK l A c) anyR
def uM{l:List Tm}{A:m3}{c:Nat}{x:y9}(h:(Qc 56 4 QK l A c).φ x S w):(sB l A c).φ x S w:=(show ∃a d e,_ from⟨S,λ_=>False,.bool false,h,rfl,λ_ _ h=>h,λb=>⟨.inl,λh=>h.elim id False.elim⟩⟩)
def QaI{l:List Tm}{A:m3}{c:Nat}{R:Res}{x:y9}(h:(Qj R (Qc 56 4 QK l A c)).φ x S w):(sB l A c).φ x S w:=by
 let⟨a,d,e,i,g,j,k⟩:=(show ∃a d e,_ from h)
 exact(show ∃a d e,_ from⟨d,a,e,Ak (R.one _ _ _ i) g,(Qc 56 4 QK l A c).one _ _ _ g,λb hb f=>j b f hb,λb=>by rw[k];exact or_comm⟩)
theorem wK(n:Nat)(A:m3)(c:Nat)(l:List Tm)(m:¬ l.length<2)(hl:l.length<=4000)(f:∀t,t∈l->fT n 0 t)(g:QV W):NewIn prog W [Qc 56 4 QK l A c] 213 #[.slice A l.length c,Ts,Tz] (λy:Hp=>.slice y.1 (YE l).length y.2) (λy:Hp=>Qc 56 4 QK (YE l) y.1 y.2):=⟨λa w=>call213 a w,λd i x S b=>by
 have h:=Nh (n:=n) l.length (A:=A) (c:=c) (l:=l) (L4 _) hl (EO b) (M6 b).1 f d (Ql g i) (JN Q4 Bp b);refine Calls.mono (h.2 d (p5 _ _)) λe o j=>?_
 let⟨y,x,S,p,k1,q,r⟩:=j;rcases k1.2 with⟨k,_⟩|⟨_,k⟩
 all_goals grind⟩
def lZ{l:List Tm}(h:decide ((l.length:Int)<2)=true):Xj l=l.filter Qw:=by
 have a:YE l=l:=EX (hA (L0 h));show(YE l).filter Qw=_;rw[a]
def oL{x:Bool}{s:m1}{e:Int}(u:y9)(h:u∈(Value.agg #[.bool x,.string s,.int .i64 e]).cells.toList):u.oneCell'=true:=by
 simp only[Value.cells,Lb,Ri,or_false]at h;rcases h with rfl|rfl|rfl<;>rfl
abbrev HAt(l:List Tm)(q1:Nat):=nv (Qb (l.filter Qw) q1).c
abbrev HAu(l:List Tm):Int:=((l.filter Qw).length:Nat)
abbrev HAv:=some (52,[iV 0,lV none 0 0])
variable{vars:Int}
def th{n:Nat}{A:m3}{c:Nat}{l:List Tm}(r:l.length<=4000)(j:∀t,t∈l->fT n 0 t)(d:decide ((l.length:Int)<2)=true)(W:m0)(m:QV W):FxF prog W (Qc 56 4 QK l A c) 157 #[Θ vars,Ω A l.length c] (λy:Hp=>Value.tuple #[.agg #[Θ vars,Ω y.1 ((Xj l).map X4).length y.2],Θ 0]) (λy:Hp=>sB ((Xj l).map X4) y.1 y.2) (λ_=>False) :=
 VC (β:=Hp) Qm QU (λa w=>call157 a w) func157 ntmps157 results157 _ rfl _ _ _ _ [x04 1 1 (lV A l.length c),x07 1 2 0 (λ_=>False) (λ(p:Unit)=>(Ω A (l.filter Qw).length c,Qc 56 4 QK (l.filter Qw) A c,[.br false,x0a (0:Nat) (λ(q1:Nat) (u:List Hp)=>q1+1) (λ(q1:Nat)=>((⟨33,[(0,iV vars),(1,lV A (l.filter Qw).length c),(4,.ptr 0 0),(15,iV (HAu l)),(16,iV (q1:Int))],[none],[some (Qc 56 4 QK (C0 (l.filter Qw) q1) A c),none]⟩:St),(q1<=(l.filter Qw).length),((l.filter Qw).length-q1),[.both [x06 7 4 [0] (.pointer (some (Q5 A (q1*4+0)))),x03 7 5 (.pointer (some (Q5 A (q1*4+1)))),x06 7 6 [0] (nA ((Qb (l.filter Qw) q1).c)),x04 7 7 (.agg [bV (neg (dm (HAt l q1))),sV (QJ (dm (HAt l q1))),iV (de (HAt l q1))]),x06 7 8 [0] (.pointer (some (Q5 A (q1*4+0)))),x03 7 9 (.pointer (some (Q5 A (q1*4+1)))),x08 7 10 0 (λ(q:Unit)=>(undef,Qc 56 4 QK (C0 (l.filter Qw) (q1+1)) A c,[x05 8 0 (iV ((q1+1:Nat):Int)),.nxt []]))] []]))]))] (λF=>X0 (am A c l d W) (x8 A c l r W)<|ai (λ(p:Unit)=>Yx (show decide ((((l.filter Qw).length:Nat):Int)>4096)=false from Lc (hA (List.length_filter_le Qw l))) (qI vars) (qV (Ω A (l.filter Qw).length c)) (qI (HAu l)) (qI ((0:Nat):Int)) (qk HAv) (Yq (Qc 56 4 QK (l.filter Qw) A c) (Qc 56 4 QK (C0 (l.filter Qw) 0) A c) λ_ _ _ h=>(by exact h)) (XR F)<|ai (show 0<=(l.filter Qw).length from L7 _) λ(q1:Nat) (x:(q1<=(l.filter Qw).length))=>Xi (decide ((q1:Int)<(((l.filter Qw).length:Nat):Int))) (λhl=>have Y:=Jl W 56 4 QK (C0 (l.filter Qw) q1) A c Q4 Bp (λf g=>Y0 c (Oo g) q1 (Q1 hl) (w0:=f));Vv Y (DE W A 4 q1 0) (Jl W 56 4 QK (C0 (l.filter Qw) q1) A c Q4 Bp (λf g=>JW (Oo g) q1 1 (Q1 hl) x4 rfl (by rw[fQ (Q1 hl)]<;>rfl) (w0:=f))) (rt m call52 λW m=>have Z:=show fT n l.length (Qb (l.filter Qw) q1)from(j _ (Tn.1 (Yh (Q1 hl))).1).up (L7 _);KA (Qb (l.filter Qw) q1).c.s (Qb (l.filter Qw) q1).c.b (Qb (l.filter Qw) q1).c.e W (by have:=(Z.2.ok x3).sz;omega) (by have:=(Z.2.ok x3).lo;omega) (by have:=(Z.2.ok x3).hi;omega) m) Y (DE W A 4 q1 0)<|ai (Iz prog W 56 4 c QK A 32 q1 1 (C0 (l.filter Qw) q1) (C0 (l.filter Qw) (q1+1)) (.agg #[Ξ (neg (dm (HAt l q1))),Ψ (QJ (dm (HAt l q1))),Θ (de (HAt l q1))]) (X4 (Qb (l.filter Qw) q1)) Q4 Bp (Qm 32 _ rfl) (by rw[fQ (Q1 hl)]<;>rfl) rfl x4 (by rw[cE];exact Q1 hl) oL (m6 (Q1 hl))) λ(q:Unit)=>Yx (QD q1 (k0 (Q1 hl) (List.length_filter_le Qw l))) (qI vars) (qV (Ω A (l.filter Qw).length c)) (qI (HAu l)) (qI (((q1+1):Nat):Int)) (qk HAv) (XR (Qc 56 4 QK (C0 (l.filter Qw) (q1+1)) A c)) (XR F)<|ai (show q1+1<=(l.filter Qw).length from Q1 hl) (show(l.filter Qw).length-(q1+1)<(l.filter Qw).length-q1 from hA (Q1 hl))) λhl=>(YP F (.tuple #[.agg #[Θ vars,Ω A (l.filter Qw).length c],Θ 0]) (λy:Hp=>Value.tuple #[.agg #[Θ vars,Ω y.1 ((Xj l).map X4).length y.2],Θ 0]) (Qc 56 4 QK (C0 (l.filter Qw) q1) A c) (λy:Hp=>sB ((Xj l).map X4) y.1 y.2) ((A,c):Hp) (by rw[<- (show(l.filter Qw).map X4=((Xj l).map X4)from by rw[lZ d]),Rg]) λ_ _ _ h=>by have h:=uM h;rw[(show q1=(l.filter Qw).length from Ra x (Iy hl)),mZ,(show(l.filter Qw).map X4=((Xj l).map X4)from by rw[lZ d])]at h;exact h)) (Yf F (λ_=>False) (λ_=>False) λ_ h=>h)) λF=>x5
def tj{n:Nat}{A:m3}{c:Nat}{l:List Tm}(r:l.length<=4000)(j:∀t,t∈l->fT n 0 t)(x:¬ l.length<2)(W:m0)(m:QV W):FxF prog W (Qc 56 4 QK l A c) 157 #[Θ vars,Ω A l.length c] (λy:Hp=>Value.tuple #[.agg #[Θ vars,Ω y.1 ((Xj l).map X4).length y.2],Θ 0]) (λy:Hp=>sB ((Xj l).map X4) y.1 y.2) (λ_=>False) :=
 VC (β:=Hp) Qm QU (λa w=>call157 a w) func157 ntmps157 results157 _ rfl _ _ _ _ [x09 1 1 [0] (λ(d:Hp)=>(Ω d.1 (YE l).length d.2,Qc 56 4 QK (YE l) d.1 d.2,[x07 1 2 2 (λ_=>False) (λ(p:Unit)=>(Ω d.1 ((YE l).filter Qw).length d.2,Qc 56 4 QK ((YE l).filter Qw) d.1 d.2,[.br false,x0a (0:Nat) (λ(q1:Nat) (u:List Hp)=>q1+1) (λ(q1:Nat)=>((⟨33,[(0,iV vars),(1,lV d.1 ((YE l).filter Qw).length d.2),(4,.ptr 0 0),(15,iV ((((YE l).filter Qw).length:Nat):Int)),(16,iV (q1:Int))],[none],[none,none,some (Qc 56 4 QK (C0 ((YE l).filter Qw) q1) d.1 d.2)]⟩:St),(q1<=((YE l).filter Qw).length),(((YE l).filter Qw).length-q1),[.both [x06 7 4 [2] (.pointer (some (Q5 d.1 (q1*4+0)))),x03 7 5 (.pointer (some (Q5 d.1 (q1*4+1)))),x06 7 6 [2] (nA ((Qb ((YE l).filter Qw) q1).c)),x04 7 7 (.agg [bV (neg (dm (nv (Qb ((YE l).filter Qw) q1).c))),sV (QJ (dm (nv (Qb ((YE l).filter Qw) q1).c))),iV (de (nv (Qb ((YE l).filter Qw) q1).c))]),x06 7 8 [2] (.pointer (some (Q5 d.1 (q1*4+0)))),x03 7 9 (.pointer (some (Q5 d.1 (q1*4+1)))),x08 7 10 2 (λ(q:Unit)=>(undef,Qc 56 4 QK (C0 ((YE l).filter Qw) (q1+1)) d.1 d.2,[x05 8 0 (iV ((q1+1:Nat):Int)),.nxt []]))] [.join 9 4 0 2]]))]))]))] (λF=>ai (wK n A c l x r j m) λ(d:Hp)=>ai (x8 d.1 d.2 (YE l) (L6 (GY _ _) r) W)<|ai (λ(p:Unit)=>have V:=qI ((((YE l).filter Qw).length:Nat):Int);have X:=qV (Ω d.1 ((YE l).filter Qw).length d.2);Yx (show decide (((((YE l).filter Qw).length:Nat):Int)>4096)=false from Lc (hA (Fe l))) (qI vars) X V (qI ((0:Nat):Int)) (qk (some (52,[iV 0,lV none 0 0]))) (XR (Qc 56 4 QK l A c)) (XR F)<|ai (Yq (Qc 56 4 QK ((YE l).filter Qw) d.1 d.2) (Qc 56 4 QK (C0 ((YE l).filter Qw) 0) d.1 d.2) λ_ _ _ h=>(by exact h))<|ai (show 0<=((YE l).filter Qw).length from L7 _) λ(q1:Nat) (z:(q1<=((YE l).filter Qw).length))=>Xi (decide ((q1:Int)<((((YE l).filter Qw).length:Nat):Int))) (λhl=>have Y:=Jl W 56 4 QK (C0 ((YE l).filter Qw) q1) d.1 d.2 Q4 Bp (λf g=>Y0 d.2 (Oo g) q1 (Q1 hl) (w0:=f));Vv Y (DE W d.1 4 q1 0) (Jl W 56 4 QK (C0 ((YE l).filter Qw) q1) d.1 d.2 Q4 Bp (λf g=>JW (Oo g) q1 1 (Q1 hl) x4 rfl (by rw[fQ (Q1 hl)]<;>rfl) (w0:=f))) (rt m call52 λW m=>have Z:=show fT n l.length (Qb ((YE l).filter Qw) q1)from AE j _ (Yh (Q1 hl));KA (Qb ((YE l).filter Qw) q1).c.s (Qb ((YE l).filter Qw) q1).c.b (Qb ((YE l).filter Qw) q1).c.e W (by have:=(Z.2.ok x3).sz;omega) (by have:=(Z.2.ok x3).lo;omega) (by have:=(Z.2.ok x3).hi;omega) m) Y (DE W d.1 4 q1 0)<|ai (Iz prog W 56 4 d.2 QK d.1 32 q1 1 (C0 ((YE l).filter Qw) q1) (C0 ((YE l).filter Qw) (q1+1)) (.agg #[Ξ (neg (dm (nv (Qb ((YE l).filter Qw) q1).c))),Ψ (QJ (dm (nv (Qb ((YE l).filter Qw) q1).c))),Θ (de (nv (Qb ((YE l).filter Qw) q1).c))]) (X4 (Qb ((YE l).filter Qw) q1)) Q4 Bp (Qm 32 _ rfl) (by rw[fQ (Q1 hl)]<;>rfl) rfl x4 (by rw[cE];exact Q1 hl) oL (m6 (Q1 hl))) λ(q:Unit)=>Yx (QD q1 (k0 (Q1 hl) (Fe l))) (qI vars) X V (qI (((q1+1):Nat):Int)) (qk (some (52,[iV 0,lV none 0 0]))) (XR (Qc 56 4 QK l A c)) (XR F)<|ai (XR (Qc 56 4 QK (C0 ((YE l).filter Qw) (q1+1)) d.1 d.2))<|ai (show q1+1<=((YE l).filter Qw).length from Q1 hl) (show((YE l).filter Qw).length-(q1+1)<((YE l).filter Qw).length-q1 from hA (Q1 hl))) λhl=>(YP F (.tuple #[.agg #[Θ vars,Ω d.1 ((YE l).filter Qw).length d.2],Θ 0]) (λy:Hp=>Value.tuple #[.agg #[Θ vars,Ω y.1 ((Xj l).map X4).length y.2],Θ 0]) (Qj (Qc 56 4 QK l A c) (Qc 56 4 QK (C0 ((YE l).filter Qw) q1) d.1 d.2)) (λy:Hp=>sB ((Xj l).map X4) y.1 y.2) ((d.1,d.2):Hp) (by rw[<- (show((YE l).filter Qw).map X4=((Xj l).map X4)from rfl),Rg]) λ_ _ _ h=>by have h:=QaI h;rw[(show q1=((YE l).filter Qw).length from Ra z (Iy hl)),mZ,(show((YE l).filter Qw).map X4=((Xj l).map X4)from rfl)]at h;exact h)) (Yf F (λ_=>False) (λ_=>False) λ_ h=>h)) λF=>x5
theorem lB(l:List Tm)(f:Tm->Bool):(XQ l.length λj=>f (Qb l j))=l.any f:=by
 rw[Bool.eq_iff_iff,anyB_iff,List.any_eq_true];constructor
 ·rintro⟨j,a,h⟩
  grind[Yh]
 ·rintro⟨t,b,h⟩;obtain⟨j,a,rfl⟩:=Th b;exact⟨j,a,by unfold Qb;rw[YZ a];exact h⟩
section
variable{vars:Int}{l:List Tm}
theorem yo(h:(!decide (0<=vars/\vars<=12))=true):Xe vars l=(NU,1):=by
 grind[Xe]
theorem yp(h:(!decide (0<=vars/\vars<=12))=false)(a:(XQ l.length λj=>!ZN (Qb l j).m vars)=true):Xe vars l=(NU,1):=by
 unfold Xe
 grind[lB]
theorem gz(h:(!decide (0<=vars/\vars<=12))=false)(a:(XQ l.length λj=>!ZN (Qb l j).m vars)=false)(hl:l.length<=4000):Xe vars l=(⟨vars,(Xj l).map X4⟩,0):=by
 have b:(Xj l).length<=l.length:=Fe l
 grind[Xe,lB]
end
def ow(l:List Tm)(A:m3)(c:Nat)(x:y9)(S:Nat->Prop)(w:m0)(h:(sB l A c).φ x S w):∃a d,(Qc 56 4 QK l A c).φ x a w/\anyR.φ (.bool false) d w/\(∀b,a b->¬ d b)/\∀b,a b\/d b->S b:=by
 let⟨a,d,e,f,j,g,i⟩:=(show ∃a d e,_ from h)
 exact⟨a,d,f,rfl,g,λb hb=>(i b).2 hb⟩
def fq(n:Nat)(vars:Int)(A:m3)(c:Nat)(l:List Tm)(a:l.length<=4000)(b:∀t,t∈l->fT n 0 t)(W:m0)(d:QV W):FxF prog W (Qc 56 4 QK l A c) 157 #[.int .i64 vars,.slice A l.length c] (λy:Hp=>Value.tuple #[.agg #[.int .i64 vars,.slice y.1 ((Xj l).map X4).length y.2],.int .i64 0]) (λy:Hp=>sB ((Xj l).map X4) y.1 y.2) (λ_=>False):=by
 by_cases h:l.length<2
 ·exact th a b (Lk x3) W d
 ·exact tj a b h W d
abbrev HAw(l:List Tm):=λ(b:Hp)=>([.pur 4,.pur 5,.spl 5 6 0 (Qc 56 4 QK ((Xj l).map X4) b.1 b.2) anyR]:List Dir)
abbrev HAx(vars:Int)(l:List Tm):=λ(b:Hp)=>(.tuple #[.agg #[.int .i64 vars,.slice b.1 ((Xj l).map X4).length b.2],.int .i64 0]:y9)
def QaB(n:Nat)(vars:Int){A:m3}{c:Nat}{l:List Tm}(hl:l.length<=4000)(s:n<=1000)(f:A=none->l.length=0/\c=0)(p:∀t,t∈l->fT n 0 t)(w:m0)(k:QV w)(ha:RdK w A l.length 4 (λj=>QK (Qb l j))):NewIn prog w [] 115 #[Θ vars,Ω A l.length c] (λ(y:Hp)=>Value.tuple #[.agg #[Θ (Xe vars l).1.vars,Ω y.1 (Xe vars l).1.ts.length y.2],Θ (Xe vars l).2]) (λ(y:Hp)=>Qc 56 4 QK ((Xe vars l).1.ts) y.1 y.2) :=
 uR (β:=Hp) Qm QU (λa w=>call115 a w) func115 ntmps115 results115 _ rfl 0 _ _ [x04 1 1 (bV (decide (0<=vars/\vars<=12))),.gb 1 4 [x04 1 6 (bV (XQ l.length λj=>!(ZN (Qb l j).m vars))),.both [.nil 2 1 56 4 QK] [.br false,.ord,.pur 1,.both [.o 5 2 (.nw (.han 0) [] (λ(y:Hp)=>Ω y.1 l.length y.2) (λ(y:Hp)=>Qc 56 4 QK l y.1 y.2)),.opn 5 3 0 (λ(d:Hp)=>Ω d.1 l.length d.2) (λ(d:Hp)=>Qc 56 4 QK l d.1 d.2) (λ(d:Hp)=>[.fx 5 3 0 (HAx vars l) (λ(b:Hp)=>sB ((Xj l).map X4) b.1 b.2) (λ_=>False) (HAw l)])] [.o 5 2 (.nw (.han 0) [] (λ(y:Hp)=>Ω y.1 l.length y.2) (λ(y:Hp)=>Qc 56 4 QK l y.1 y.2)),.opn 5 3 0 (λ(d:Hp)=>Ω d.1 l.length d.2) (λ(d:Hp)=>Qc 56 4 QK l d.1 d.2) (λ(d:Hp)=>[.fx 5 3 0 (HAx vars l) (λ(b:Hp)=>sB ((Xj l).map X4) b.1 b.2) (λ_=>False) (HAw l)])]]] [.nil 2 1 56 4 QK]] (λW r=>have q:=ha.up r (λ_=>rfl);(λ(k:QV W)=>ai (ye vars W)<|ZD (!(decide (0<=vars/\vars<=12))) false (λh0=>ai (UW call155 λV u g i=>uV vars A c l x3 (λt v=>hA ((p t v).1)) V i (q.below (λ_=>rfl) u))<|Xi (XQ l.length λj=>!(ZN (Qb l j).m vars)) (λe=>(show ∃y:Hp,(.tuple #[.agg #[Θ 0,x01],Θ 1]:y9)=(λ(y:Hp)=>Value.tuple #[.agg #[Θ (Xe vars l).1.vars,Ω y.1 (Xe vars l).1.ts.length y.2],Θ (Xe vars l).2]) y/\∀(x:y9) (S:Nat->Prop) (w:m0),(Qc 56 4 QK ([]:List Tm) none 0).φ x S w->((λ(y:Hp)=>Qc 56 4 QK ((Xe vars l).1.ts) y.1 y.2) y).φ x S w from⟨((none,0):Hp),by rw[(yp h0 e)]<;>rfl,λx S w h=>by rw[(yp h0 e)];exact h⟩)) λe=>ai (show decide ((l.length:Int)>65536)=false from Lc x3)<|(p0 (X0 (UE x3 W (show Rw W 4 QK Bp l A c from⟨q,f⟩)) (show ∀y:Hp,(Ω y.1 l.length y.2:y9).oneCell'=true from λ_=>rfl)<|ai (show qg (HW (λ(y:Hp)=>Ω y.1 l.length y.2) (λ(y:Hp)=>Qc 56 4 QK l y.1 y.2)) (λ(y:Hp)=>Ω y.1 l.length y.2) (λ(y:Hp)=>Qc 56 4 QK l y.1 y.2)from Aw λy x z S w i h=>Ak i h) λ(d:Hp)=>ai (fq n vars d.1 d.2 l hl p W k)<|ai (λ(b:Hp)=>ai (ow ((Xj l).map X4) b.1 b.2)<|(show ∃y:Hp,(.tuple #[.agg #[Θ vars,Ω b.1 ((Xj l).map X4).length b.2],Θ 0]:y9)=(λ(y:Hp)=>Value.tuple #[.agg #[Θ (Xe vars l).1.vars,Ω y.1 (Xe vars l).1.ts.length y.2],Θ (Xe vars l).2]) y/\∀(x:y9) (S:Nat->Prop) (w:m0),(Qc 56 4 QK ((Xj l).map X4) b.1 b.2).φ x S w->((λ(y:Hp)=>Qc 56 4 QK ((Xe vars l).1.ts) y.1 y.2) y).φ x S w from⟨b,by rw[(gz h0 e hl)]<;>rfl,λx S w h=>by rw[(gz h0 e hl)];exact h⟩)) (λ(_:y9) (h:False)=>h)) (X0 (UE x3 W (show Rw W 4 QK Bp l A c from⟨q,f⟩)) (show ∀y:Hp,(Ω y.1 l.length y.2:y9).oneCell'=true from λ_=>rfl)<|ai (show qg (HW (λ(y:Hp)=>Ω y.1 l.length y.2) (λ(y:Hp)=>Qc 56 4 QK l y.1 y.2)) (λ(y:Hp)=>Ω y.1 l.length y.2) (λ(y:Hp)=>Qc 56 4 QK l y.1 y.2)from Aw λy x z S w i h=>Ak i h) λ(d:Hp)=>ai (fq n vars d.1 d.2 l hl p W k)<|ai (λ(b:Hp)=>ai (ow ((Xj l).map X4) b.1 b.2)<|(show ∃y:Hp,(.tuple #[.agg #[Θ vars,Ω b.1 ((Xj l).map X4).length b.2],Θ 0]:y9)=(λ(y:Hp)=>Value.tuple #[.agg #[Θ (Xe vars l).1.vars,Ω y.1 (Xe vars l).1.ts.length y.2],Θ (Xe vars l).2]) y/\∀(x:y9) (S:Nat->Prop) (w:m0),(Qc 56 4 QK ((Xj l).map X4) b.1 b.2).φ x S w->((λ(y:Hp)=>Qc 56 4 QK ((Xe vars l).1.ts) y.1 y.2) y).φ x S w from⟨b,by rw[(gz h0 e hl)]<;>rfl,λx S w h=>by rw[(gz h0 e hl)];exact h⟩)) (λ(_:y9) (h:False)=>h)))) λh0=>(show ∃y:Hp,(.tuple #[.agg #[Θ 0,x01],Θ 1]:y9)=(λ(y:Hp)=>Value.tuple #[.agg #[Θ (Xe vars l).1.vars,Ω y.1 (Xe vars l).1.ts.length y.2],Θ (Xe vars l).2]) y/\∀(x:y9) (S:Nat->Prop) (w:m0),(Qc 56 4 QK ([]:List Tm) none 0).φ x S w->((λ(y:Hp)=>Qc 56 4 QK ((Xe vars l).1.ts) y.1 y.2) y).φ x S w from⟨((none,0):Hp),by rw[(yo (l:=l) h0)]<;>rfl,λx S w h=>by rw[(yo (l:=l) h0)];exact h⟩)) (Ql k r)) λW=>x5
def Qaz(n:Nat)(vars:Int)(A:m3)(c:Nat)(l:List Tm)(hl:l.length<=4000)(b:n<=1000)(f:∀t,t∈l->fT n 0 t)(W:m0)(g:QV W):NewIn prog W [Qc 56 4 QK l A c] 115 #[.int .i64 vars,.slice A l.length c] (λ(y:Hp)=>Value.tuple #[.agg #[.int .i64 (Xe vars l).1.vars,.slice y.1 (Xe vars l).1.ts.length y.2],.int .i64 (Xe vars l).2]) (λ(y:Hp)=>Qc 56 4 QK (Xe vars l).1.ts y.1 y.2):=⟨λa w=>call115 a w,λd h x S e =>
 (QaB n vars hl b (M6 e).1 f d (Ql g h) (JN Q4 Bp e)).2 d (p5 _ _)⟩
set_option exponentiation.threshold 100000
theorem Qax{b T:Nat}(h:a<256^b)(c:8*b<=T):a<2^T:=by
 refine L9 h ?_
 rw[show(256:Nat)=2^8 from rfl,<- T1];simp_all[Lh]
def aD(v f:Nat)(l:List Tm)(s:FD):JY v (f+1) l s=bif decide ((s.l.length:Int)>0)then bnd XV (λa=>bnd (Jt 127 v []) λm=>JY v f (l++[⟨⟨m.toArray⟩,a⟩])) s else .ok (l,s):=rfl
def Qas{l:List UInt8}(h:l.length<=4000):DB 32768 64768 (Zz l).1:=by
 have key:∀l:List UInt8,l.length<=4000->X6 l=none->(YR l).natAbs<2^32000:=λl h a=>by
  have b:Zr (YR l)<=4000:=jk (l:=⟨l.toArray⟩) (n:=4000) a (show l.toArray.size<=4000 by rw[Rs];exact h);exact Qax (Bc (YR l)) x3
 have c:(l.take (Xw l)).length<=4000:=by rw[Ll];omega
 have d:(l.drop (Xw l+1)).length<=4000:=by rw[Lf];omega
 unfold Zz;cases e1:X6 (l.take (Xw l))with
 |some i=>exact Id _ _
 |none =>
  have a:=key _ c e1;dsimp only;split
  ·exact IX 32000 a x3 x3
  ·cases e2:X6 (l.drop (Xw l+1))with
   |some i=>exact Id _ _
   |none =>
    have b:=key _ d e2;dsimp only;split
    ·split
     ·have f:=G8 (IX 32000 b x3 x3 (L:=0) (T:=32000) (e:=0));exact IX 32000 a x3 x3
     ·exact Id _ _
    ·split
     ·exact IX 32000 a x3 x3
     ·exact Id _ _
variable{s:χ}
def QbX(h:QS s.l):(Qg s.l 0).s.size<=4000:=by
 let⟨_,_,ls,_,_,_,_,l,_,_⟩:=s;cases l with
 |nil=>exact L7 _
 |cons t l=>exact(h.2 t x6).2
variable{M:Res}
def oO(h:s.In M):fN 0 (Q0 s):=⟨_,rfl,Qas (by have:=QbX h.f.l;simpa using this)⟩
structure PC where
 k:Int
 v:Int
 b:Value
 s:Value
 p:Value
 r:Value
 e:Nm
 d:Nm
 u:Int
 c:Value
def PC.l(x:PC)(m:Bool):o3:=[.int .i64 x.k,.int .i64 x.v,x.b,x.s,x.p,x.r,.bool x.e.b,.string x.e.s,.int .i64 x.e.e,.bool x.d.b,.string x.d.s,.int .i64 x.d.e,.int .i64 x.u,x.c,.bool m]
def jt(t:χ)(i:Nat):UInt8:=UInt8.ofNat (Xs (Qg (χ.nxs i t).l 0).s).toNat
def Va(t:χ)(j:Nat):List UInt8:=(List.range j).map (jt t)
def χ.rnds(v:Nat):Nat->χ->χ
 |0,s=>s
 |k+1,s=>χ.nxs v (χ.rnds v k s).nx
def tmA(v:Nat)(s:χ)(j:Nat):Tm:=⟨⟨(Va (χ.rnds v j s).nx v).toArray⟩,Q0 (χ.rnds v j s)⟩
def Zc(v:Nat)(s:χ)(k:Nat):List Tm:=(List.range k).map (tmA v s)
def χ.trm(v:Nat)(s:χ):χ:=χ.rnds v (s.l.length / (v+1)) s
def k9(v:Nat)(s:χ):List Tm:=Zc v s (s.l.length / (v+1))
def QP(v:Nat)(s:χ):Py:=(Xe v (k9 v s)).1
def XX(v:Nat)(s:χ):Bool:=(Xe v (k9 v s)).2 != 0
def χ.In.rnds(h:s.In M)(v:Nat):∀k,(χ.rnds v k s).In M
 |0=>h
 |k+1=>(h.rnds v k).nx.nxs v
def bI(t:χ)(j:Nat):Va t j++[jt t j]=Va t (j+1):=by simp[Va,S7]
def Nt(v:Nat)(s:χ)(k:Nat):(Zc v s k).length=k:=by simp[Zc]
def O9(v:Nat)(s:χ)(k:Nat):Zc v s k++[tmA v s k]=Zc v s (k+1):=by simp[Zc,S7]
variable{v:Nat}
def iO(h:s.In M)(k:Nat):∀t,t∈Zc v s k->fT v 0 t:=λt a=>by
 obtain⟨j,_,rfl⟩:=Lv.1 a;refine⟨?_,oO (h.rnds v j)⟩;show(Va _ v).toArray.size=v;simp[Va]
theorem Dz{m:Int}{a:Int}{t:FD}(h:QQ m s.fd=.ok (a,t)):s.nx.l.length+1=s.l.length/\0<=Xs (Qg s.l 0).s/\Xs (Qg s.l 0).s<=m:=by
 let⟨_,_,ls,_,_,_,_,l,_,_⟩:=s;cases l with
 |nil=>cases h
 |cons x l =>
  refine⟨rfl,?_⟩;simp only[QQ,bnd,X5,OJ,rtn,χ.fd]at h;cases e:IW x.s with
  |false=>rw[e]at h;cases h
  |true =>
   cases e2:decide (Xs x.s<=m)with
   |false=>rw[e,e2]at h;cases h
   |true =>
    refine⟨?_,L0 e2⟩;unfold IW at e;have b:=(L5.1 (L5.1 e).1).1;let⟨k,_,c⟩:=IY x.s.data.toList 0 (l3 b);show(0:Int)<=Xs x.s
    grind[Xs]
theorem oP{a:Nm}{t:FD}(h:XV s.fd=.ok (a,t)):s.nx.l.length+1=s.l.length:=by
 let⟨_,_,ls,_,_,_,_,l,_,_⟩:=s;cases l with
 |nil=>cases h
 |cons x l=>rfl
variable{R:Except Int (List UInt8×FD)}
def zn{t:χ}(h:j<v)(e:R=Jt 127 (v-j) (Va t j) (χ.nxs j t).fd)(e2:QQ 127 (χ.nxs j t).fd=.ok (Xs (Qg (χ.nxs j t).l 0).s,(χ.nxs j t).nx.fd)):R=Jt 127 (v-(j+1)) (Va t (j+1)) (χ.nxs (j+1) t).fd:=by
 rw[show v-j=(v-(j+1))+1 by omega]at e;rw[e,<- bI];exact QA e2
variable{z:Int}
def zm{t:χ}(h:j<v)(e:R=Jt 127 (v-j) (Va t j) (χ.nxs j t).fd)(e2:QQ 127 (χ.nxs j t).fd=.error z):R=.error z:=by
 rw[show v-j=(v-(j+1))+1 by omega]at e;exact e.trans (Xc e2)
structure TmI (v:Nat) (s:χ) (k:Nat):Prop where
 e:JY v 70000 [] s.fd=JY v (70000-k) (Zc v s k) (χ.rnds v k s).fd
 n:k*(v+1)+(χ.rnds v k s).l.length=s.l.length
section
variable{v k:Nat}{s:χ}(h:TmI v s k)(hl:s.l.length<=4000)
include h hl
theorem TmI.lt:k<=4000:=by
 have:=h.n
 grind
theorem TmI.go(h0:decide ((((χ.rnds v k s).l.length:Nat):Int)>0)=true):JY v 70000 [] s.fd=bnd XV (λa=>bnd (Jt 127 v []) λm=>JY v (70000-(k+1)) (Zc v s k++[⟨⟨m.toArray⟩,a⟩])) (χ.rnds v k s).fd:=by
 have b:=h.lt hl;rw[h.e,show 70000-k=(70000-(k+1))+1 by omega];rw[aD,show decide (((χ.rnds v k s).fd.l.length:Int)>0)=true from h0];rfl
theorem TmI.step(h0:decide ((((χ.rnds v k s).l.length:Nat):Int)>0)=true)(e1:XV (χ.rnds v k s).fd=.ok (Q0 (χ.rnds v k s),(χ.rnds v k s).nx.fd)){j:Nat}(a:j=v)(e2:Jt 127 v [] (χ.rnds v k s).nx.fd=Jt 127 (v-j) (Va (χ.rnds v k s).nx j) (χ.nxs j (χ.rnds v k s).nx).fd)(b:j+(χ.nxs j (χ.rnds v k s).nx).l.length=(χ.rnds v k s).nx.l.length):TmI v s (k+1):=by
 subst a;rw[Tp]at e2;refine⟨?_,?_⟩
 ·rw[h.go hl h0,<- O9];exact(QA e1).trans (QA e2)
 ·have c:=h.n
  grind[oP,χ.rnds]
theorem TmI.num_e(h0:decide ((((χ.rnds v k s).l.length:Nat):Int)>0)=true)(e1:XV (χ.rnds v k s).fd=.error z):QC v s.fd=.error z :=
 Xc (by rw[show(v:Int).toNat=v from rfl,h.go hl h0];exact Xc e1)
theorem TmI.cnt_e(h0:decide ((((χ.rnds v k s).l.length:Nat):Int)>0)=true)(e1:XV (χ.rnds v k s).fd=.ok (Q0 (χ.rnds v k s),(χ.rnds v k s).nx.fd))(e2:Jt 127 v [] (χ.rnds v k s).nx.fd=.error z):QC v s.fd=.error z :=
 Xc (by rw[show(v:Int).toNat=v from rfl,h.go hl h0];exact(QA e1).trans (Xc e2))
theorem TmI.fin(h0:decide ((((χ.rnds v k s).l.length:Nat):Int)>0)=false):k=s.l.length / (v+1)/\QC v s.fd=.ok ((QP v s,XX v s),(s.trm v).fd):=by
 have a:(χ.rnds v k s).l.length=0:=hA (L1 h0);have b:=h.lt hl;have hk:k=s.l.length / (v+1):=by
  have c:=h.n
  grind[Nat.mul_div_cancel]
 refine⟨hk,?_⟩;have e:JY v 70000 [] s.fd=.ok (k9 v s,(s.trm v).fd):=by
  rw[h.e,show 70000-k=(70000-(k+1))+1 by omega];rw[aD,show decide (((χ.rnds v k s).fd.l.length:Int)>0)=false from h0];unfold k9 χ.trm;rw[<- hk];rfl
 exact QA e
end
def rm(e:k=s.l.length / (v+1)){A:m3}{c:Nat}:Value.agg #[.int .i64 (Xe v (Zc v s k)).1.vars,.slice A (Xe v (Zc v s k)).1.ts.length c]=.agg #[.int .i64 (QP v s).vars,.slice A (QP v s).ts.length c]:=by subst e;rfl
variable{g:Nat}
def ro(e:k=s.l.length / (v+1)){A:m3}{c:Nat}{x:PC}{m b:Bool}(hb:b=(m||((Xe v (Zc v s k)).2 != 0))){X:y9}(h:(Qh g 69 (χ.cs (χ.rnds v k s) (PC.l x b)) (Qj M (Qc 56 4 QK (Xe v (Zc v s k)).1.ts A c))).φ X S w):(Qh g 69 (χ.cs (s.trm v) (PC.l x (m||XX v s))) (Qj M (Qc 56 4 QK (QP v s).ts A c))).φ X S w:=by
 subst e;subst hb;exact h
theorem rT(h:0<=z/\z<=127):IntKind.u8.wrap z=(((UInt8.ofNat z.toNat).toNat:Nat):Int):=by
 grind[UInt8.toNat_ofNat',IntKind.wrap,IntKind.bits]
theorem xq:∃i z,prog.info? 5=some i/\i.zero=some z/\i.size=1/\i.bytes=1/\z=.int .u8 0:=by
 have a:(prog.info? 5).bind (λi=>i.zero.map λz=>(z,i.size,i.bytes))=some (.int .u8 0,1,1):=x5;cases e1:prog.info? 5 with
 |none=>rw[e1]at a;cases a
 |some i =>
  cases e2:i.zero with
  |none=>rw[e1,Ti,e2]at a;cases a
  |some z =>
   grind
def QaJ(w0:m0){n:Nat}(a:n<=1000000):II prog w0 [] (λy:Hp=>.slice y.1 n y.2) (λy:Hp=>Hr 5 n (λ_=>0) y.1 y.2) (Instr.makeSlice 82 (.int .i64 (n:Int)) (.int .i64 (n:Int))):=by
 let⟨i,z,b,c,d,e,f⟩:=xq;exact QaF x5 b c d e f a
def lp(t:χ)(j i:Nat):Nat:=if i<j then(jt t i).toNat else 0
theorem zk(t:χ)(v:Nat):(⟨(Va t v).toArray⟩:m1)=⟨((List.range v).map λi=>UInt8.ofNat (lp t v i)).toArray⟩:=by
 congr 2;refine S6 λi hi=>?_
 unfold lp;simp_all
abbrev HAy(v:Nat)(q1:Nat×Hp)(s:χ)(x:PC):o3:=[.slice (χ.rnds v q1.1 s).A0 (χ.rnds v q1.1 s).ls.length (χ.rnds v q1.1 s).c0,.slice (χ.rnds v q1.1 s).A (χ.rnds v q1.1 s).l.length (χ.rnds v q1.1 s).c,.int .i64 ((χ.rnds v q1.1 s).ne),.int .i64 ((χ.rnds v q1.1 s).en),.int .i64 x.k,.int .i64 x.v,x.b,x.s,x.p,x.r,.bool x.e.b,.string x.e.s,.int .i64 x.e.e,.bool x.d.b,.string x.d.s,.int .i64 x.d.e,.int .i64 x.u,x.c,.bool (((Xe v (Zc v s q1.1)).2) != 0)]
abbrev HAz(q:Nat)(v:Nat)(q1:Nat×Hp)(s:χ):=(QQ 127) (χ.nxs q (χ.rnds v q1.1 s).nx).fd=.ok ((Xs (Qg (χ.nxs q (χ.rnds v q1.1 s).nx).l 0).s),((χ.nxs q (χ.rnds v q1.1 s).nx).nx).fd)
abbrev HAA(v:Nat)(q1:Nat×Hp)(s:χ)(x:PC):o3:=[.slice (χ.rnds v q1.1 s).A0 (χ.rnds v q1.1 s).ls.length (χ.rnds v q1.1 s).c0,.slice (χ.rnds v q1.1 s).A (χ.rnds v q1.1 s).l.length (χ.rnds v q1.1 s).c,.int .i64 ((χ.rnds v q1.1 s).ne),.int .i64 ((χ.rnds v q1.1 s).en),.int .i64 x.k,.int .i64 x.v,x.b,x.s,x.p,x.r,.bool x.e.b,.string x.e.s,.int .i64 x.e.e,.bool x.d.b,.string x.d.s,.int .i64 x.d.e,.int .i64 x.u,x.c,.bool true]
abbrev HAB(v:Nat)(q1:Nat×Hp)(s:χ):=XV (χ.rnds v q1.1 s).fd=.ok ((Q0 (χ.rnds v q1.1 s)),((χ.rnds v q1.1 s).nx).fd)
abbrev HAC(q:Nat)(v:Nat)(q1:Nat×Hp)(s:χ):=q<=v/\Jt 127 v [] (χ.rnds v q1.1 s).nx.fd=Jt 127 (v-q) (Va (χ.rnds v q1.1 s).nx q) (χ.nxs q (χ.rnds v q1.1 s).nx).fd/\q+(χ.nxs q (χ.rnds v q1.1 s).nx).l.length=(χ.rnds v q1.1 s).nx.l.length
abbrev HAD:Nat×Hp:=(0,(none,0))
abbrev HAE(g:Nat):y9:=.pointer (some ⟨g,0,none⟩)
abbrev HAF:=some (52,[iV 0,lV none 0 0])
abbrev HAG(v:Nat)(q1:Nat×Hp)(s:χ):=some (56,[sV ⟨#[]⟩,bV ((Q0 (χ.rnds v q1.1 s)).b),sV ((Q0 (χ.rnds v q1.1 s)).s),iV ((Q0 (χ.rnds v q1.1 s)).e)])
abbrev HAH(v:Nat)(s:χ)(q1:Nat×Hp):=Xe v (Zc v s q1.1)
abbrev HAI(v:Nat)(s:χ):=((QP v s,XX v s),(s.trm v).fd)
abbrev HAJ:=λ(G:Unit)=>undef
abbrev HAK(v:Nat)(q1:Nat×Hp)(s:χ)(x:PC)(m:Bool):=χ.cs (χ.rnds v q1.1 s) (PC.l x m)
abbrev HAL:=λ(G:Unit)=>([.join 14 1 0 3]:List Dir)
def Bo(g:Nat)(M:Res)(s:χ)(x:PC)(m:Bool)(D:s.In M)(v:Nat)(S:v<=200)(W:m0)(K:QV W):FxF prog W (Qh g 69 (χ.cs s (PC.l x m)) M) 75 #[x02 g,Θ (v:Int)] (λy:{y:Hp // (QC v) s.fd=.ok ((QP v s,XX v s),(s.trm v).fd)}=>Value.agg #[Θ (QP v s).vars,Ω y.1.1 (QP v s).ts.length y.1.2]) (λy:{y:Hp // (QC v) s.fd=.ok ((QP v s,XX v s),(s.trm v).fd)}=>Qh g 69 (χ.cs (s.trm v) (PC.l x (m||XX v s))) (Qj M (Qc 56 4 QK (QP v s).ts y.1.1 y.1.2))) (Xy (QC v) s) :=
 VC Qm QU (λa w=>call75 a w) func75 ntmps75 results75 _ rfl _ _ _ _ [.nil 1 0 56 4 QK,x0a (HAD:Nat×Hp) (λ(q1:Nat×Hp) (u:List Hp)=>(q1.1+1,u.headD (none,0))) (λ(q1:Nat×Hp)=>((⟨61,[(0,.val (HAE g)),(1,iV (v:Int)),(4,.ptr 0 0),(5,lV q1.2.1 (Zc v s q1.1).length q1.2.2)],[none],[some (Qh g 69 (HAK v q1 s x m) M),none,some (Qc 56 4 QK (Zc v s q1.1) q1.2.1 q1.2.2)]⟩:St),TmI v s q1.1,(χ.rnds v q1.1 s).l.length,[.inl 2 3 f113,x06 1 4 [0] (Ω (χ.rnds v q1.1 s).A (χ.rnds v q1.1 s).l.length (χ.rnds v q1.1 s).c),.both [x07 3 3 0 (Xy XV (χ.rnds v q1.1 s)) (λ(B:PLift (HAB v q1 s))=>(nA (Q0 (χ.rnds v q1.1 s)),Qh g 69 (χ.cs ((χ.rnds v q1.1 s).nx) (PC.l x m)) M,[x09 4 1 [] (λ(z:Hp)=>(Ω z.1 v z.2,Hr 5 v (λ_=>0) z.1 z.2,[x0a (0:Nat) (λ(q:Nat) (u:List Hp)=>q+1) (λ(q:Nat)=>((⟨61,[(0,.val (HAE g)),(1,iV (v:Int)),(4,.ptr 0 0),(5,lV q1.2.1 (Zc v s q1.1).length q1.2.2),(6,.ptr 1 0),(7,lV z.1 v z.2),(23,iV (v:Int)),(24,iV (q:Int))],[none,none],[some (Qh g 69 (χ.cs (χ.nxs q (χ.rnds v q1.1 s).nx) (PC.l x m)) M),none,none,some (Hr 5 v (lp (χ.rnds v q1.1 s).nx q) z.1 z.2)]⟩:St),(HAC q v q1 s),(v-q),[.both [x07 8 5 0 (Xy (QQ 127) (χ.nxs q (χ.rnds v q1.1 s).nx)) (λ(C:PLift (HAz q v q1 s))=>(Θ (Xs (Qg (χ.nxs q (χ.rnds v q1.1 s).nx).l 0).s),Qh g 69 (χ.cs (χ.nxs (q+1) (χ.rnds v q1.1 s).nx) (PC.l x m)) M,[x05 8 6 (.val (.int .u8 (((jt (χ.rnds v q1.1 s).nx q).toNat:Nat):Int))),x06 8 7 [3] (.pointer (some (Q5 z.1 (q*1+0)))),.eff 8 8 3 HAJ (λ(G:Unit)=>Hr 5 v (lp (χ.rnds v q1.1 s).nx (q+1)) z.1 z.2) (λ(G:Unit)=>[x05 9 0 (iV ((q+1:Nat):Int)),.nxt []])]))] [x06 10 1 [3] (Ψ ⟨(Va (χ.rnds v q1.1 s).nx v).toArray⟩),x08 11 3 2 (λ(C:Hp)=>(Ω C.1 (Zc v s (q1.1+1)).length C.2,Qc 56 4 QK (Zc v s (q1.1+1)) C.1 C.2,[.nxt [C]]))]]))]))]))] [x09 12 2 [2] (λ(B:Hp)=>(Value.tuple #[.agg #[Θ ((HAH v s q1).1.vars),Ω B.1 (HAH v s q1).1.ts.length B.2],Θ ((HAH v s q1).2)],Qc 56 4 QK (HAH v s q1).1.ts B.1 B.2,[x06 13 4 [0] (Ξ m),.gb 13 6 [.eff 13 11 0 HAJ (λ(G:Unit)=>Qh g 69 (HAy v q1 s x) M) HAL] [.eff 13 11 0 HAJ (λ(G:Unit)=>Qh g 69 (HAA v q1 s x) M) HAL]]))]]))] (λF=>GL (qV (HAE g)) (qI (v:Int)) (qV (Ω HAD.2.1 (Zc v s HAD.1).length HAD.2.2)) (qk HAF) (Yq (Qh g 69 (χ.cs s (PC.l x m)) M) (Qh g 69 (χ.cs (χ.rnds v HAD.1 s) (PC.l x m)) M) λ_ _ _ h=>h) (XR F) (Yq (Qc 56 4 QK ([]:List Tm) none 0) (Qc 56 4 QK (Zc v s HAD.1) (HAD.2.1) (HAD.2.2)) λ_ _ _ h=>h)<|ai (show TmI v s 0 from⟨rfl,by rw[Ue,Lm];rfl⟩) λ(q1:Nat×Hp) (E:TmI v s q1.1)=>Ja func113 (λa w=>call113 a w) (Q2 (w0:=W) (g:=g) (t:=69) (cs:=(HAK v q1 s x m)) (M:=M) (λH I=>Y5 H 1 I rfl))<|Xi (decide ((((χ.rnds v q1.1 s).l.length:Nat):Int)>0)) (λh0=>ai (Af g M (χ.rnds v q1.1 s) (PC.l x m) (D.rnds v q1.1) W K)<|ai (λ(B:PLift (HAB v q1 s))=>ai (QaJ W (n:=v) x3) λ(z:Hp)=>have Y:=qV (Ω q1.2.1 (Zc v s q1.1).length q1.2.2);Yx (qV (HAE g)) (qI (v:Int)) Y (qV (Ω z.1 v z.2)) (qI (v:Int)) (qI ((0:Nat):Int)) (qk HAF) (qk (HAG v q1 s))<|have Z:=XR (Qc 56 4 QK (Zc v s q1.1) q1.2.1 q1.2.2);Ky (Yq (Qh g 69 (χ.cs ((χ.rnds v q1.1 s).nx) (PC.l x m)) M) (Qh g 69 (χ.cs (χ.nxs 0 (χ.rnds v q1.1 s).nx) (PC.l x m)) M) λ_ _ _ h=>h) (XR F) Z (Yq (Hr 5 v (λ_=>0) z.1 z.2) (Hr 5 v (lp (χ.rnds v q1.1 s).nx 0) z.1 z.2) λ_ _ _ h=>h)<|ai (show(0<=v/\Jt 127 v [] (χ.rnds v q1.1 s).nx.fd=Jt 127 (v-0) (Va (χ.rnds v q1.1 s).nx 0) (χ.nxs 0 (χ.rnds v q1.1 s).nx).fd/\0+(χ.nxs 0 (χ.rnds v q1.1 s).nx).l.length=(χ.rnds v q1.1 s).nx.l.length)from⟨L7 _,rfl,Lm _⟩) λ(q:Nat) (hk:(HAC q v q1 s))=>Xi (decide ((q:Int)<(v:Int))) (λhl=>ai (Ia g M (χ.nxs q (χ.rnds v q1.1 s).nx) (PC.l x m) ((D.rnds v q1.1).nx.nxs q) 127 W)<|ai (λ(C:PLift (HAz q v q1 s))=>X0 (show IntKind.u8.wrap (Xs (Qg (χ.nxs q (χ.rnds v q1.1 s).nx).l 0).s)=(((jt (χ.rnds v q1.1 s).nx q).toNat:Nat):Int)from rT (Dz C.down).2) (m9 (P:=prog) (w0:=W) (e:=5) (m:=1) (n:=v) (L:=LP.known λi=>[.int .u8 ((lp (χ.rnds v q1.1 s).nx q i:Nat):Int)]) (A:=z.1) (cp:=z.2) (λH f T O U=>(show Qp prog H (Instr.indexAt 82 (Ω z.1 v z.2) (Θ (q:Int))) (.pointer (some (Q5 z.1 (q*1+0))))from Kr 1 (Qm 82 _ rfl) rfl x4 O (QR hl))))<|ai (λ(H:m0) (_:Below W.heap.size W H)=>sY prog 5 5 v q ((jt (χ.rnds v q1.1 s).nx q).toNat) (lp (χ.rnds v q1.1 s).nx q) (lp (χ.rnds v q1.1 s).nx (q+1)) z.1 z.2 (Qm 5 _ rfl) rfl (QR hl) (λj _=>by unfold lp;by_cases e:j=q<;>simp[e];by_cases e2:j<q<;>simp[e2]<;>omega) H) λ(G:Unit)=>Yx (QD q (hA (QR hl))) (qV (HAE g)) (qI (v:Int)) Y (qV (Ω z.1 v z.2)) (qI (v:Int)) (qI (((q+1):Nat):Int)) (qk HAF)<|KJ (qk (HAG v q1 s)) (XR (Qh g 69 (χ.cs (χ.nxs (q+1) (χ.rnds v q1.1 s).nx) (PC.l x m)) M)) (XR F) Z (XR (Hr 5 v (lp (χ.rnds v q1.1 s).nx (q+1)) z.1 z.2))<|ai (show((q+1)<=v/\Jt 127 v [] (χ.rnds v q1.1 s).nx.fd=Jt 127 (v-(q+1)) (Va (χ.rnds v q1.1 s).nx (q+1)) (χ.nxs (q+1) (χ.rnds v q1.1 s).nx).fd/\(q+1)+(χ.nxs (q+1) (χ.rnds v q1.1 s).nx).l.length=(χ.rnds v q1.1 s).nx.l.length)from⟨QR hl,zn (QR hl) hk.2.1 C.down,by have Q:=(Dz C.down).1;have N:=hk.2.2;show q+1+(χ.nxs q (χ.rnds v q1.1 s).nx).nx.l.length=_;omega⟩) (show v-(q+1)<v-q from hA (QR hl))) (Yf F (Xy (QQ 127) (χ.nxs q (χ.rnds v q1.1 s).nx)) (Xy (QC v) s) λ_ h=>h.imp λ_ h=>⟨E.cnt_e D.f.l.1 h0 B.down (zm (QR hl) hk.2.1 h.1),h.2⟩)) λhl=>ai (by rw[(show q=v from Ra hk.1 (VZ hl))];exact sZ prog W 82 9 5 5 x5 x5 x5 z.1 v z.2 (lp (χ.rnds v q1.1 s).nx v) (zk (χ.rnds v q1.1 s).nx v):GJ prog W [Hr 5 v (lp (χ.rnds v q1.1 s).nx q) z.1 z.2] (Go.convert 82 9 (Ω z.1 v z.2)) (Ψ ⟨(Va (χ.rnds v q1.1 s).nx v).toArray⟩))<|ai (YJ W 50 56 1 1 QK (Zc v s q1.1) ([tmA v s q1.1]) (Zc v s (q1.1+1)) q1.2.1 q1.2.2 ([Ψ ⟨(Va (χ.rnds v q1.1 s).nx v).toArray⟩,Ξ ((Q0 (χ.rnds v q1.1 s)).b),Ψ ((Q0 (χ.rnds v q1.1 s)).s),Θ ((Q0 (χ.rnds v q1.1 s)).e)]) XN Q4 K2 (O9 v s q1.1) (show(Zc v s (q1.1+1)).length*48<=140737488355328 from by rw[Nt];have:=E.lt D.f.l.1;omega) rfl rfl) λ(C:Hp)=>GL (qV (HAE g)) (qI (v:Int)) (qV (Ω C.1 (Zc v s (q1.1+1)).length C.2)) (qk HAF) (Yq (Qh g 69 (χ.cs (χ.nxs q (χ.rnds v q1.1 s).nx) (PC.l x m)) M) (Qh g 69 (χ.cs (χ.rnds v (q1.1+1) s) (PC.l x m)) M) λ_ _ _ h=>(by have e:q=v:=Ra hk.1 (VZ hl);rw[e]at h;exact h)) (XR F) (Yq (Qc 56 4 QK (Zc v s (q1.1+1)) C.1 C.2) (Qc 56 4 QK (Zc v s (q1.1+1)) C.1 C.2) λ_ _ _ h=>h)<|ai (show TmI v s (q1.1+1)from E.step D.f.l.1 h0 B.down (Ra hk.1 (VZ hl)) hk.2.1 hk.2.2) (show(χ.rnds v (q1.1+1) s).l.length<(χ.rnds v q1.1 s).l.length from by have Q:=E.n;have N:=(E.step D.f.l.1 h0 B.down (Ra hk.1 (VZ hl)) hk.2.1 hk.2.2).n;rw[Ru]at N;omega)) (Yf F (Xy XV (χ.rnds v q1.1 s)) (Xy (QC v) s) λ_ h=>h.imp λ_ h=>⟨E.num_e D.f.l.1 h0 h.1,h.2⟩)) λh0=>ai (Qaz v v q1.2.1 q1.2.2 (Zc v s q1.1) (by rw[Nt];exact E.lt D.f.l.1) x3 (iO D q1.1) W K) λ(B:Hp)=>ai (Q2 (w0:=W) (g:=g) (t:=69) (cs:=(HAK v q1 s x m)) (M:=M) (λH I=>gl H 18 I rfl))<|ZD m false (λJ=>ai (YN W prog g 69 (HAK v q1 s x m) M 4 ([Ξ (((HAH v s q1).2) != 0)]) 18 (Ξ (((HAH v s q1).2) != 0)) (Qm 4 _ rfl) rfl rfl (L8 rfl) (Lg.1 (rfl:([Ξ (((HAH v s q1).2) != 0)]:o3).all (λu=>u.oneCell')=true))) λ(G:Unit)=>(YP F (.agg #[Θ ((HAH v s q1).1.vars),Ω B.1 (HAH v s q1).1.ts.length B.2]) (λy:{y:Hp // (QC v) s.fd=.ok (HAI v s)}=>Value.agg #[Θ (QP v s).vars,Ω y.1.1 (QP v s).ts.length y.1.2]) (Qj (Qh g 69 (HAy v q1 s x) M) (Qc 56 4 QK (HAH v s q1).1.ts B.1 B.2)) (λy:{y:Hp // (QC v) s.fd=.ok (HAI v s)}=>Qh g 69 (χ.cs (s.trm v) (PC.l x (m||XX v s))) (Qj M (Qc 56 4 QK (QP v s).ts y.1.1 y.1.2))) ⟨B,(E.fin D.f.l.1 h0).2⟩ (rm (E.fin D.f.l.1 h0).1) λ_ _ _ h=>ro (m:=m) (E.fin D.f.l.1 h0).1 (by rw[J]<;>rfl) (Vw Ca h))) λJ=>ai (YN W prog g 69 (HAK v q1 s x m) M 4 ([Ξ true]) 18 (Ξ true) (Qm 4 _ rfl) rfl rfl (L8 rfl) (Lg.1 (rfl:([Ξ true]:o3).all (λu=>u.oneCell')=true))) λ(G:Unit)=>(YP F (.agg #[Θ ((HAH v s q1).1.vars),Ω B.1 (HAH v s q1).1.ts.length B.2]) (λy:{y:Hp // (QC v) s.fd=.ok (HAI v s)}=>Value.agg #[Θ (QP v s).vars,Ω y.1.1 (QP v s).ts.length y.1.2]) (Qj (Qh g 69 (HAA v q1 s x) M) (Qc 56 4 QK (HAH v s q1).1.ts B.1 B.2)) (λy:{y:Hp // (QC v) s.fd=.ok (HAI v s)}=>Qh g 69 (χ.cs (s.trm v) (PC.l x (m||XX v s))) (Qj M (Qc 56 4 QK (QP v s).ts y.1.1 y.1.2))) ⟨B,(E.fin D.f.l.1 h0).2⟩ (rm (E.fin D.f.l.1 h0).1) λ_ _ _ h=>ro (m:=m) (E.fin D.f.l.1 h0).1 (by rw[J]<;>rfl) (Vw Ca h))) λF=>x5
theorem VI(A N:Res)(e:∀(x:y9) (S:Nat->Prop) (w:m0),N.φ x S w->N.φ (.bool false) S w)(x:y9)(S:Nat->Prop)(w:m0)(h:(Qj A N).φ x S w):∃a c,A.φ x a w/\N.φ (.bool false) c w/\(∀b,a b->¬ c b)/\∀b,a b\/c b->S b:=by
 let⟨a,c,d,f,g,i,j⟩:=(show ∃a c d,_ from h)
 grind
theorem MP{A d B:Res}(h:∀(x:y9) (S:Nat->Prop) (w:m0),A.φ x S w->d.φ x S w){x:y9}(e:(Qj A B).φ x S w):(Qj d B).φ x S w:=by
 let⟨a,b,c,f,g,i,j⟩:=(show ∃a b c,_ from e)
 exact(show ∃a b c,_ from⟨a,b,c,h _ _ _ f,g,i,j⟩)
def A8{A B d:Res}(h:∀(x:y9) (S:Nat->Prop) (w:m0),B.φ x S w->d.φ x S w){x:y9}(e:(Qj A B).φ x S w):(Qj A d).φ x S w:=by
 let⟨a,b,c,f,g,i,j⟩:=(show ∃a b c,_ from e)
 exact(show ∃a b c,_ from⟨a,b,c,f,h _ _ _ g,i,j⟩)
def Ga{e:Nat}{c:α->o3}{l:List α}{A:m3}(x:y9)(S:Nat->Prop)(w:m0)(h:(Qc e k c l A a).φ x S w):(Qc e k c l A a).φ (.bool false) S w:=Ak rfl h
def We{e m n:Nat}{L:LP}{A:m3}(x:y9)(S:Nat->Prop)(w:m0)(h:(Qx e m n L A a).φ x S w):(Qx e m n L A a).φ (.bool false) S w:=Qc8 rfl h
def vZ(_:Unit):o3:=[.slice none 0 0]
def χ.sps(n:Nat):Nat->χ->χ
 |0,s=>s
 |k+1,s=>χ.nxs n (χ.sps n k s)
def χ.In.sps(h:s.In M)(n:Nat):∀k,(χ.sps n k s).In M
 |0=>h
 |k+1=>(h.sps n k).nxs n
def bxA(s:χ)(j:Nat):Nm×Nm:=(Xm (Xn (χ.sps 2 j s) 2) 0,Xm (Xn (χ.sps 2 j s) 2) 1)
def DZ(s:χ)(k:Nat):List (Nm×Nm):=(List.range k).map (bxA s)
def sE(v:Nat)(s:χ)(j:Nat):List Nm:=Xn (χ.sps v j s) v
def BL(v:Nat)(s:χ)(k:Nat):List (List Nm):=(List.range k).map (sE v s)
theorem fk(s:χ)(k:Nat):(DZ s k).length=k:=by simp[DZ]
theorem MW(v:Nat)(s:χ)(k:Nat):(BL v s k).length=k:=by simp[BL]
def TW(s:χ)(k:Nat):DZ s k++[bxA s k]=DZ s (k+1):=by simp[DZ,S7]
def kA(v:Nat)(s:χ)(k:Nat):BL v s k++[sE v s k]=BL v s (k+1):=by simp[BL,S7]
def BD(δ:Int)(s:χ):Bool:=Lib.idxOfS (GO δ) (Qg s.ln.l 0).s==1
def K5(δ:Int)(v:Nat)(s:χ):List (Nm×Nm):=bif BD δ s then[]else DZ s.ln.nx v
def Je(δ:Int)(v:Nat)(s:χ):List (List Nm):=bif BD δ s then BL v s.ln.nx (v+1)else[]
def χ.dom(s:χ)(δ:Int)(v:Nat):χ:=bif BD δ s then χ.sps v (v+1) s.ln.nx else χ.sps 2 v s.ln.nx
def Cw(v:Nat)(s:χ):LP:=VU 32 3 Xk (λ_=>[]) (λi=>sE v s.ln.nx i)
def χ.In.dom(h:s.In M)(hl:0<s.ls.length)(δ:Int)(v:Nat):(s.dom δ v).In M:=by
 unfold χ.dom;cases BD δ s
 ·exact(h.ln hl).nx.sps 2 v
 ·exact(h.ln hl).nx.sps v (v+1)
section
variable{δ:Int}{v:Nat}{s:χ}{ws:List m1}(hw:GO δ=ws)
include hw
theorem zJ{z:Int}(h:Qv ws s.fd=.error z):Ko δ v s.fd=.error z:=by
 simp_all[Ko,Xc]
variable(h:Qv ws s.fd=.ok (Lib.idxOfS ws (Qg s.ln.l 0).s,s.ln.nx.fd))
include h
theorem mG(hi:(Lib.idxOfS ws (Qg s.ln.l 0).s==1)=true):Ko δ v s.fd=bnd (G3 v (v+1) []) (λl=>rtn (([]:List (Nm×Nm)),l)) s.ln.nx.fd:=by
 unfold Ko
 grind[QA]
theorem ya(hi:(Lib.idxOfS ws (Qg s.ln.l 0).s==1)=false):Ko δ v s.fd=bnd (BC v []) (λl=>rtn (l,([]:List (List Nm)))) s.ln.nx.fd:=by
 unfold Ko
 grind[QA]
theorem mF(hi:(Lib.idxOfS ws (Qg s.ln.l 0).s==1)=true)(a:G3 v (v+1) [] s.ln.nx.fd=.ok (BL v s.ln.nx (v+1),(χ.sps v (v+1) s.ln.nx).fd)):Ko δ v s.fd=.ok ((K5 δ v s,Je δ v s),(s.dom δ v).fd):=by
 rw[mG hw h hi];have e:BD δ s=true:=by unfold BD;rw[hw];exact hi
 unfold K5 Je χ.dom;rw[e];exact QA a
theorem mE(hi:(Lib.idxOfS ws (Qg s.ln.l 0).s==1)=false)(a:BC v [] s.ln.nx.fd=.ok (DZ s.ln.nx v,(χ.sps 2 v s.ln.nx).fd)):Ko δ v s.fd=.ok ((K5 δ v s,Je δ v s),(s.dom δ v).fd):=by
 rw[ya hw h hi];have e:BD δ s=false:=by unfold BD;rw[hw];exact hi
 unfold K5 Je χ.dom;rw[e];exact QA a
end
theorem N3{t:o0}{cs:o3}{N a:Res}(c:Pe N)(b:Pe a){x:y9}(h:(Qj (Qj (Qh g t cs M) N) a).φ x S w):(Qh g t cs (Qj (Qj M N) a)).φ x S w:=by grind[Vw,MP]
def PC.D(x:PC)(v:Nat)(b s:y9):PC:=⟨x.k,v,b,s,x.p,x.r,x.e,x.d,x.u,x.c⟩
section
variable{g:Nat}{M:Res}{δ:Int}{x:PC}{v:Nat}{s:χ}{ws:List m1}{m:Bool}{A1 A2:m3}{c1 c2:Nat}{X:y9}{S:Nat->Prop}{w:m0}(hw:GO δ=ws)
include hw
theorem jC{k:Nat}(hi:(Lib.idxOfS ws (Qg s.ln.l 0).s==1)=true)(hk:k=v+1)(h:(Qj (Qj (Qh g 69 (χ.cs (χ.sps v k s.ln.nx) (PC.l (x.D v (.slice none 0 0) (.slice A2 k c2)) m)) M) (Qc 76 6 JR ([]:List (Nm×Nm)) none 0)) (Qx 57 1 k (Cw v s) A2 c2)).φ X S w):
  (Qh g 69 (χ.cs (s.dom δ v) (PC.l (x.D v (.slice none (K5 δ v s).length 0) (.slice A2 (Je δ v s).length c2)) m)) (Qj (Qj M (Qc 76 6 JR (K5 δ v s) none 0)) (Qx 57 1 (Je δ v s).length (Cw v s) A2 c2))).φ X S w:=by
 grind[BD,K5,Je,χ.dom,MW,N3,Ca,AO]
theorem jB{k:Nat}(hi:(Lib.idxOfS ws (Qg s.ln.l 0).s==1)=false)(hk:k=v)(h:(Qj (Qj (Qh g 69 (χ.cs (χ.sps 2 k s.ln.nx) (PC.l (x.D v (.slice A1 (DZ s.ln.nx k).length c1) (.slice none 0 0)) m)) M) (Qc 76 6 JR (DZ s.ln.nx k) A1 c1)) (Qx 57 1 0 (Cw v s) none 0)).φ X S w):
  (Qh g 69 (χ.cs (s.dom δ v) (PC.l (x.D v (.slice A1 (K5 δ v s).length c1) (.slice none (Je δ v s).length 0)) m)) (Qj (Qj M (Qc 76 6 JR (K5 δ v s) A1 c1)) (Qx 57 1 (Je δ v s).length (Cw v s) none 0))).φ X S w:=by
 grind[BD,K5,Je,χ.dom,N3,Ca,AO]
end
variable{R:Except Int (List (List Nm)×FD)}
def qK{n:Nat}{t:χ}(h:k<n)(e:R=G3 v (n-k) (BL v t k) (χ.sps v k t).fd)(e2:XW v [] (χ.sps v k t).fd=.ok (sE v t k,(χ.nxs v (χ.sps v k t)).fd)):R=G3 v (n-(k+1)) (BL v t (k+1)) (χ.sps v (k+1) t).fd:=by
 rw[show n-k=(n-(k+1))+1 by omega]at e;rw[e,<- kA];exact QA e2
def yP{n:Nat}{t:χ}(h:k<n)(e:R=G3 v (n-k) (BL v t k) (χ.sps v k t).fd)(e2:XW v [] (χ.sps v k t).fd=.error z):R=.error z:=by
 rw[show n-k=(n-(k+1))+1 by omega]at e;exact e.trans (Xc e2)
variable{R:Except Int (List (Nm×Nm)×FD)}
def QcO{n:Nat}{t:χ}(h:k<n)(e:R=BC (n-k) (DZ t k) (χ.sps 2 k t).fd)(e2:XW 2 [] (χ.sps 2 k t).fd=.ok (Xn (χ.sps 2 k t) 2,(χ.nxs 2 (χ.sps 2 k t)).fd)):R=BC (n-(k+1)) (DZ t (k+1)) (χ.sps 2 (k+1) t).fd:=by
 rw[show n-k=(n-(k+1))+1 by omega]at e;rw[e,<- TW];exact QA e2
def QcN{n:Nat}{t:χ}(h:k<n)(e:R=BC (n-k) (DZ t k) (χ.sps 2 k t).fd)(e2:XW 2 [] (χ.sps 2 k t).fd=.error z):R=.error z:=by
 rw[show n-k=(n-(k+1))+1 by omega]at e;exact e.trans (Xc e2)
def QZ{ws:List m1}{x:Int×FD}(h:Qv ws s.fd=.ok x):0<s.ls.length:=by
 let⟨_,_,ls,_,_,_,_,l,_,_⟩:=s;cases ls with
 |cons t l=>exact Sw _
 |nil =>
  cases l with
  |nil=>cases h
  |cons t l=>cases h
def bg(m:Bool)(q1:Nat×Hp)(v:Nat)(x:PC):o3:=PC.l (x.D v (.slice none 0 0) (.slice q1.2.1 q1.1 q1.2.2)) m
def F4(q1:Nat×Hp)(s:χ)(v:Nat):χ:=χ.nxs v (χ.sps v q1.1 (χ.nx (χ.ln s)))
def lw(m:Bool)(q1:Nat×Hp)(s:χ)(v:Nat)(x:PC):o3:=PC.l (x.D v (.slice q1.2.1 (DZ (χ.nx (χ.ln s)) q1.1).length q1.2.2) (.slice none 0 0)) m
def lx(q1:Nat×Hp)(s:χ):List Nm:=Xn (χ.sps 2 q1.1 (χ.nx (χ.ln s))) 2
def aL(q1:Nat×Hp)(s:χ)(v:Nat):List Nm:=Xn (χ.sps v q1.1 (χ.nx (χ.ln s))) v
def rU(m:Bool)(v:Nat)(x:PC):o3:=PC.l (x.D v (.slice none 0 0) (.slice none 0 0)) m
def rV(m:Bool)(q1:Nat×Hp)(s:χ)(v:Nat)(x:PC):o3:=χ.cs (χ.sps v q1.1 (χ.nx (χ.ln s))) (bg m q1 v x)
def rW(q1:Nat×Hp)(s:χ):χ:=χ.nxs 2 (χ.sps 2 q1.1 (χ.nx (χ.ln s)))
abbrev HAM(g:Nat)(q1:Nat×Hp)(s:χ)(v:Nat)(x:PC)(m:Bool)(M:Res):=λ(f:Hp)=>([.pur 14,.pur 15,x03 7 15 (.pointer (some ⟨g,4,none⟩)),.pur 16,x03 7 16 (.pointer (some ⟨g,6,none⟩)),.pur 17,x03 7 17 (.pointer (some ⟨g,7,none⟩)),x08 7 18 0 (λ(B:Unit)=>(undef,Qh g 69 (χ.cs (F4 q1 s v) (PC.l (x.D v (.slice none 0 0) (.slice f.1 (q1.1+1) f.2)) m)) M,[.join 8 0 0 3,.join 8 0 0 2,x05 8 0 (iV ((q1.1+1:Nat):Int)),.nxt [f]]))]:List Dir)
abbrev HAN:=Qc 76 6 JR ([]:List (Nm×Nm)) none 0
abbrev HAO:Nat×Hp:=(0,(none,0))
abbrev HAP(q:Nat)(s:χ):=(Qv (List.take q [Jh,Q6])) s.fd=.ok ((Lib.idxOfS (List.take q [Jh,Q6]) (Qg (χ.ln s).l 0).s),(χ.nx (χ.ln s)).fd)
abbrev HAQ(v:Nat)(q1:Nat×Hp)(s:χ):=(Xn (χ.sps v q1.1 (χ.nx (χ.ln s))) v,(F4 q1 s v).fd)
abbrev HAR(g:Nat):y9:=.pointer (some ⟨g,0,none⟩)
abbrev HAS(g:Nat)(v:Nat)(q1:Nat×Hp)(s:χ)(x:PC)(f:Hp)(m:Bool)(M:Res):=Qj (Qj (Qh g 69 (χ.cs (χ.sps v (q1.1+1) (χ.nx (χ.ln s))) (PC.l (x.D v (.slice none 0 0) (.slice f.1 (q1.1+1) f.2)) m)) M) HAN) (Qx 57 1 (q1.1+1) (Cw v s) f.1 f.2)
abbrev HAT(s:χ)(q1:Nat×Hp):=DZ (χ.nx (χ.ln s)) (q1.1+1)
abbrev HAU(g:Nat)(q1:Nat×Hp)(s:χ)(v:Nat)(x:PC)(f:Hp)(m:Bool)(M:Res):=Qj (Qj (Qh g 69 (χ.cs (F4 q1 s v) (PC.l (x.D v (.slice none 0 0) (.slice f.1 (q1.1+1) f.2)) m)) M) HAN) (Qx 57 1 (q1.1+1) (Cw v s) f.1 f.2)
abbrev HAV:=Qc 57 1 vZ ([]:List Unit) none 0
abbrev HAW(q1:Nat×Hp)(s:χ)(m:Bool)(v:Nat)(x:PC):=χ.cs (χ.sps 2 q1.1 (χ.nx (χ.ln s))) (lw m q1 s v x)
abbrev HAX(q1:Nat×Hp)(s:χ)(v:Nat)(m:Bool)(x:PC):=χ.cs (F4 q1 s v) (bg m q1 v x)
abbrev HAY(s:χ)(q1:Nat×Hp):=Qc 76 6 JR (DZ (χ.nx (χ.ln s)) q1.1) q1.2.1 q1.2.2
abbrev HAZ:=some (9,[sV ⟨#[98,111,120]⟩,sV ⟨#[115,105,109,112,108,101,120]⟩])
abbrev HA0(q1:Nat×Hp)(s:χ)(v:Nat)(j:Hp):=Qc 32 3 Xk (aL q1 s v) j.1 j.2
abbrev HA1(f:Hp)(q1:Nat×Hp):=Lg.1 (rfl:([.slice f.1 (q1.1+1) f.2]:o3).all (λu=>u.oneCell')=true)
abbrev HA2(q1:Nat×Hp)(s:χ):=(Xn (χ.sps 2 q1.1 (χ.nx (χ.ln s))) 2,(rW q1 s).fd)
abbrev HA3(q1:Nat×Hp)(v:Nat)(s:χ):=q1.1<=v+1/\G3 v (v+1) [] (χ.nx (χ.ln s)).fd=G3 v (v+1-q1.1) (BL v (χ.nx (χ.ln s)) q1.1) (χ.sps v q1.1 (χ.nx (χ.ln s))).fd
abbrev HA4(v:Nat)(q1:Nat×Hp)(s:χ):=λ(j:{y:Hp // (XW v []) (χ.sps v q1.1 (χ.nx (χ.ln s))).fd=.ok (HAQ v q1 s)})=>Value.slice j.1.1 (aL q1 s v).length j.1.2
abbrev HA5(v:Nat)(s:χ):=Qx 57 1 0 (Cw v s) none 0
abbrev HA6(q1:Nat×Hp)(v:Nat)(s:χ):=q1.1<=v/\BC v [] (χ.nx (χ.ln s)).fd=BC (v-q1.1) (DZ (χ.nx (χ.ln s)) q1.1) (χ.sps 2 q1.1 (χ.nx (χ.ln s))).fd
abbrev HA7(x:PC)(v:Nat)(s:χ):=((K5 x.k v s,Je x.k v s),(s.dom x.k v).fd)
abbrev HA8:=λ(q1:Nat×Hp) (u:List Hp)=>(q1.1+1,u.headD (none,0))
abbrev HA9(q1:Nat×Hp):=λ(f:Hp)=>Value.slice f.1 (q1.1+1) f.2
abbrev HAaa:y9:=.slice none 0 0
abbrev HAab(v:Nat)(q1:Nat×Hp)(s:χ)(g:Nat)(m:Bool)(x:PC)(M:Res):=λ(j:{y:Hp // (XW v []) (χ.sps v q1.1 (χ.nx (χ.ln s))).fd=.ok (HAQ v q1 s)})=>Qh g 69 (HAX q1 s v m x) (Qj M (HA0 q1 s v j.1))
abbrev HAac(q1:Nat×Hp)(v:Nat)(s:χ):=Qx 57 1 q1.1 (Cw v s) q1.2.1 q1.2.2
abbrev HAad(q1:Nat×Hp)(v:Nat)(s:χ):=λ(f:Hp)=>Qx 57 1 (q1.1+1) (Cw v s) f.1 f.2
abbrev HAae(q1:Nat×Hp)(s:χ):=List.getD (lx q1 s) 0 nm0
abbrev HAaf(q1:Nat×Hp)(s:χ):=List.getD (lx q1 s) 1 nm0
def mI(O:s.In M){x:PC}{m:Bool}(S:v<=200)(W:m0)(Q:QV W):FxF prog W (Qh g 69 (χ.cs s (rU m v x)) M) 74 #[x02 g] (λ_:{y:Hp×Hp // Ko x.k v s.fd=.ok ((K5 x.k v s,Je x.k v s),(s.dom x.k v).fd)}=>Value.tuple #[]) (λy:{y:Hp×Hp // Ko x.k v s.fd=.ok ((K5 x.k v s,Je x.k v s),(s.dom x.k v).fd)}=>Qh g 69 (χ.cs (s.dom x.k v) (PC.l ⟨x.k,(v:Int),(Ω y.1.1.1 (K5 x.k v s).length y.1.1.2),(Ω y.1.2.1 (Je x.k v s).length y.1.2.2),x.p,x.r,x.e,x.d,x.u,x.c⟩ m)) (Qj (Qj M (Qc 76 6 JR (K5 x.k v s) y.1.1.1 y.1.1.2)) (Qx 57 1 (Je x.k v s).length (Cw v s) y.1.2.1 y.1.2.2))) (Xy (Ko x.k v) s) :=
 VC Qm QU (λa w=>call74 a w) func74 ntmps74 results74 _ rfl _ _ _ _ [.cut 3 (λ(q:Nat)=>(⟨84,[(0,.val (HAR g)),(2,.sli 0 0 q 2)],[none],[none,none,some HAN,some HAV]⟩:St)) (λ(q:Nat)=>(q<=2/\GO x.k=List.take q [Jh,Q6])) (λk u=>k) (λ(q:Nat)=>[x06 3 4 [0] (Θ (v:Int)),x07 4 4 0 (Xy (Qv (List.take q [Jh,Q6])) s) (λ(G:PLift (HAP q s))=>(Θ (Lib.idxOfS (List.take q [Jh,Q6]) (Qg (χ.ln s).l 0).s),Qh g 69 (χ.cs (χ.nx (χ.ln s)) (rU m v x)) M,[.both [.join 5 0 0 2,.join 5 0 0 3,x05 5 1 (iV ((v+1:Nat):Int)),x0a (HAO:Nat×Hp) HA8 (λ(q1:Nat×Hp)=>((⟨84,[(0,.val (HAR g)),(3,iV (v:Int)),(34,iV ((v+1:Nat):Int)),(35,iV (q1.1:Int))],[some (0,[])],[some (Qj (Qj (Qh g 69 (rV m q1 s v x) M) HAN) (HAac q1 v s)),none]⟩:St),(HA3 q1 v s),(v+1-q1.1),[.both [.ord,.pur 0,.pur 1,.pur 2,.pur 3,x03 7 3 (.pointer (some ⟨g,4,none⟩)),.pur 4,x03 7 4 (.pointer (some ⟨g,6,none⟩)),.pur 5,x03 7 5 (.pointer (some ⟨g,7,none⟩)),.pur 7,.pur 8,.pur 9,x03 7 9 (HAR g),.pur 10,.both [.spl 7 6 0 (Qj (Qh g 69 (rV m q1 s v x) M) HAN) (HAac q1 v s),.spl 7 6 0 (Qh g 69 (rV m q1 s v x) M) HAN,x06 7 6 [0] (Ω q1.2.1 q1.1 q1.2.2),.fx 7 11 0 (HA4 v q1 s) (HAab v q1 s g m x M) (Xy (XW v []) (χ.sps v q1.1 (χ.nx (χ.ln s)))) (λ(j:{y:Hp // (XW v []) (χ.sps v q1.1 (χ.nx (χ.ln s))).fd=.ok (HAQ v q1 s)})=>[.spl 7 12 0 (Qh g 69 (HAX q1 s v m x) M) (HA0 q1 s v j.1),.join 7 13 2 4,.eff 7 13 2 (HA9 q1) (HAad q1 v s) (HAM g q1 s v x m M)])] [.spl 7 11 0 (Qj (Qh g 69 (rV m q1 s v x) M) HAN) (HAac q1 v s),.spl 7 11 0 (Qh g 69 (rV m q1 s v x) M) HAN,.fx 7 11 0 (HA4 v q1 s) (HAab v q1 s g m x M) (Xy (XW v []) (χ.sps v q1.1 (χ.nx (χ.ln s)))) (λ(j:{y:Hp // (XW v []) (χ.sps v q1.1 (χ.nx (χ.ln s))).fd=.ok (HAQ v q1 s)})=>[.both [x06 7 6 [0] (Ω q1.2.1 q1.1 q1.2.2),.spl 7 12 0 (Qh g 69 (HAX q1 s v m x) M) (HA0 q1 s v j.1),.join 7 13 2 4,.eff 7 13 2 (HA9 q1) (HAad q1 v s) (HAM g q1 s v x m M)] [.spl 7 12 0 (Qh g 69 (HAX q1 s v m x) M) (HA0 q1 s v j.1),x06 7 6 [0] (Ω q1.2.1 q1.1 q1.2.2),.join 7 13 2 4,.eff 7 13 2 (HA9 q1) (HAad q1 v s) (HAM g q1 s v x m M)]])]] []]))] [.join 9 0 0 2,.join 9 0 0 3,x0a (HAO:Nat×Hp) HA8 (λ(q1:Nat×Hp)=>((⟨84,[(0,.val (HAR g)),(3,iV (v:Int)),(56,iV (v:Int)),(57,iV (q1.1:Int))],[some (0,[])],[some (Qj (Qj (Qh g 69 (HAW q1 s m v x) M) (HAY s q1)) (HA5 v s)),none]⟩:St),(HA6 q1 v s),(v-q1.1),[.both [.spl 11 0 0 (Qj (Qh g 69 (HAW q1 s m v x) M) (HAY s q1)) (HA5 v s),.spl 11 0 0 (Qh g 69 (HAW q1 s m v x) M) (HAY s q1),x07 11 3 0 (Xy (XW 2 []) (χ.sps 2 q1.1 (χ.nx (χ.ln s)))) (λ(j:{y:Hp // (XW 2 []) (χ.sps 2 q1.1 (χ.nx (χ.ln s))).fd=.ok (HA2 q1 s)})=>(Ω j.1.1 (lx q1 s).length j.1.2,Qh g 69 (χ.cs (rW q1 s) (lw m q1 s v x)) (Qj M (Qc 32 3 Xk (lx q1 s) j.1.1 j.1.2)),[.spl 11 4 0 (Qh g 69 (χ.cs (rW q1 s) (lw m q1 s v x)) M) (Qc 32 3 Xk (lx q1 s) j.1.1 j.1.2),.reg 15 [0],x06 12 6 [0] (Ω q1.2.1 (DZ (χ.nx (χ.ln s)) q1.1).length q1.2.2),x06 12 8 [4] (.pointer (some (Q5 j.1.1 (0*3+0)))),x06 12 9 [4] (nA (HAae q1 s)),x06 12 11 [4] (.pointer (some (Q5 j.1.1 (1*3+0)))),x06 12 12 [4] (nA (HAaf q1 s)),x08 12 15 3 (λ(f:Hp)=>(Ω f.1 (HAT s q1).length f.2,Qc 76 6 JR (HAT s q1) f.1 f.2,[x08 12 20 0 (λ(B:Unit)=>(undef,Qh g 69 (χ.cs (rW q1 s) (PC.l (x.D v (Ω f.1 (HAT s q1).length f.2) HAaa) m)) M,[.join 13 0 0 3,.join 13 0 0 2,x05 13 0 (iV ((q1.1+1:Nat):Int)),.nxt [f]]))]))]))] []]))]]))]),.nil 1 0 76 6 JR,.nil 1 0 57 1 vZ,x06 1 4 [0] (Θ x.k),.gb 1 7 [x06 1 11 [0] (Θ x.k),.both [.nxc 1 []] [.nxc 2 []]] [.nxc 1 []]] (λF=>have V:=Q2 (w0:=W) (g:=g) (t:=69) (cs:=(χ.cs s (rU m v x))) (M:=M) (λz E=>Ze z 4 E rfl);p0 (ai V<|ZD (x.k==2) false (λI=>ai V<|Xi (x.k==5) (λJ=>Vv (qV (HAR g)) (qk HAZ) (XR (Qh g 69 (χ.cs s (rU m v x)) M)) (XR F) (XR HAN) (XR HAV)<|(show 1<=2/\GO x.k=List.take 1 [Jh,Q6]from⟨x4,by unfold GO;rw[I,J]<;>rfl⟩)) λJ=>Vv (qV (HAR g)) (qk HAZ) (XR (Qh g 69 (χ.cs s (rU m v x)) M)) (XR F) (XR HAN) (XR HAV)<|(show 2<=2/\GO x.k=List.take 2 [Jh,Q6]from⟨x4,by unfold GO;rw[I,J]<;>rfl⟩)) λI=>Vv (qV (HAR g)) (qk HAZ) (XR (Qh g 69 (χ.cs s (rU m v x)) M)) (XR F) (XR HAN) (XR HAV)<|(show 1<=2/\GO x.k=List.take 1 [Jh,Q6]from⟨x4,by unfold GO;rw[I]<;>rfl⟩)) λ(q:Nat) (H:(q<=2/\GO x.k=List.take q [Jh,Q6]))=>X0 (Q2 (w0:=W) (g:=g) (t:=69) (cs:=(χ.cs s (rU m v x))) (M:=M) (λz E=>Ze z 5 E rfl)) (Bb g M s (rU m v x) O 9 ([Jh,Q6]) q 2 H.1 (L6 H.1 x4) W)<|ai (λ(G:PLift (HAP q s))=>Xi ((Lib.idxOfS (List.take q [Jh,Q6]) (Qg (χ.ln s).l 0).s)==1) (λhi=>GL (QD v x3) (qV (HAR g)) (qI (v:Int)) (qI ((v+1:Nat):Int)) (qI ((HAO.1:Nat):Int)) (Yq (Qj (Qj (Qh g 69 (χ.cs (χ.nx (χ.ln s)) (rU m v x)) M) HAN) HAV) (Qj (Qj (Qh g 69 (χ.cs (χ.sps v HAO.1 (χ.nx (χ.ln s))) (PC.l (x.D v HAaa (Ω HAO.2.1 HAO.1 HAO.2.2)) m)) M) HAN) (Qx 57 1 HAO.1 (Cw v s) HAO.2.1 HAO.2.2)) λ_ _ _ h=>(by exact A8 (λ_ _ _ h=>AP _ _ _ vZ _ _ _ _ h) h)) (XR F)<|ai (show(((0,(none,0)):Nat×Hp).1<=v+1/\G3 v (v+1) [] (χ.nx (χ.ln s)).fd=G3 v (v+1-((0,(none,0)):Nat×Hp).1) (BL v (χ.nx (χ.ln s)) ((0,(none,0)):Nat×Hp).1) (χ.sps v ((0,(none,0)):Nat×Hp).1 (χ.nx (χ.ln s))).fd)from⟨L7 _,rfl⟩) λ(q1:Nat×Hp) (C:(HA3 q1 v s))=>Xi (decide ((q1.1:Int)<((v+1:Nat):Int))) (λhl=>Ky (λw=>Qf g 0 w (p5 _ _)) (λw=>YD g 4 w (p5 _ _)) (λw=>KE g 6 w (p5 _ _)) (λw=>Qs g 0 w (p5 _ _))<|have P:=λ(j:{y:Hp // (XW v []) (χ.sps v q1.1 (χ.nx (χ.ln s))).fd=.ok (HAQ v q1 s)})=>JE g 69 (HAX q1 s v m x) M (Qc 32 3 Xk (aL q1 s v) j.1.1 j.1.2) Ga;have R:=VI (Qh g 69 (rV m q1 s v x) M) (Qc 76 6 JR ([]:List (Nm×Nm)) none 0) Ga;have T:=VI (Qj (Qh g 69 (rV m q1 s v x) M) HAN) (Qx 57 1 q1.1 (Cw v s) q1.2.1 q1.2.2) We;have X:=FL g M (χ.sps v q1.1 (χ.nx (χ.ln s))) (bg m q1 v x) (((O.ln (QZ G.down)).nx).sps v q1.1) v x3 W Q;have Y:=Yf F (Xy (XW v []) (χ.sps v q1.1 (χ.nx (χ.ln s)))) (Xy (Ko x.k v) s) λ_ h=>h.imp λ_ h=>⟨(mG H.2 G.down hi).trans (Xc (yP (QR hl) C.2 h.1)),h.2⟩;have Z:=λ(j:{y:Hp // (XW v []) (χ.sps v q1.1 (χ.nx (χ.ln s))).fd=.ok (HAQ v q1 s)})=>ai (JJ W 25 57 32 3 q1.1 (q1.1+1) 1 Xk (λ_=>[]) (λi=>sE v s.ln.nx i) q1.2.1 j.1.1 q1.2.2 j.1.2 ([Ω j.1.1 (aL q1 s v).length j.1.2]) (HA0 q1 s v j.1) (λ_ _ _ h=>.inl h) Kv (λu L=>nomatch L) rfl (hA (QR hl)) rfl rfl) λ(f:Hp)=>Ja (λw=>Qf g 0 w (p5 _ _)) (λw=>YD g 4 w (p5 _ _)) (λw=>KE g 6 w (p5 _ _))<|ai (YN W prog g 69 (HAX q1 s v m x) M 25 ([Ω f.1 (q1.1+1) f.2]) 7 (Ω f.1 (q1.1+1) f.2) (Qm 25 _ rfl) rfl rfl (L8 rfl) (HA1 f q1)) λ(B:Unit)=>GL (QD q1.1 (hA (QR hl))) (qV (HAR g)) (qI (v:Int)) (qI ((v+1:Nat):Int)) (qI (((q1.1+1):Nat):Int)) (Yq (HAU g q1 s v x f m M) (HAS g v q1 s x f m M) λ_ _ _ h=>h) (XR F)<|ai (show((q1.1+1)<=v+1/\G3 v (v+1) [] (χ.nx (χ.ln s)).fd=G3 v (v+1-(q1.1+1)) (BL v (χ.nx (χ.ln s)) (q1.1+1)) (χ.sps v (q1.1+1) (χ.nx (χ.ln s))).fd)from⟨QR hl,qK (QR hl) C.2 j.2⟩) (show v+1-(q1.1+1)<v+1-q1.1 from hA (QR hl));(p0 (Ky T R (Q2 (w0:=W) (g:=g) (t:=69) (cs:=(rV m q1 s v x)) (M:=M) (λz E=>GU z 7 E rfl)) X<|ai (λ(j:{y:Hp // (XW v []) (χ.sps v q1.1 (χ.nx (χ.ln s))).fd=.ok (HAQ v q1 s)})=>ai (P j)<|Z j) Y) (Ja T R X<|ai (λ(j:{y:Hp // (XW v []) (χ.sps v q1.1 (χ.nx (χ.ln s))).fd=.ok (HAQ v q1 s)})=>(p0 (X0 (Q2 (w0:=W) (g:=g) (t:=69) (cs:=(HAX q1 s v m x)) (M:=(Qj M (HA0 q1 s v j.1))) (λz E=>GU z 7 E rfl)) (P j)<|Z j) (X0 (P j) (Q2 (w0:=W) (g:=g) (t:=69) (cs:=(HAX q1 s v m x)) (M:=M) (λz E=>GU z 7 E rfl))<|Z j))) Y))) λhl=>(YP F (.tuple #[]) (λ_:{y:Hp×Hp // Ko x.k v s.fd=.ok (HA7 x v s)}=>Value.tuple #[]) (Qj (Qj (Qh g 69 (rV m q1 s v x) M) HAN) (HAac q1 v s)) (λy:{y:Hp×Hp // Ko x.k v s.fd=.ok (HA7 x v s)}=>Qh g 69 (χ.cs (s.dom x.k v) (PC.l ⟨x.k,(v:Int),(Ω y.1.1.1 (K5 x.k v s).length y.1.1.2),(Ω y.1.2.1 (Je x.k v s).length y.1.2.2),x.p,x.r,x.e,x.d,x.u,x.c⟩ m)) (Qj (Qj M (Qc 76 6 JR (K5 x.k v s) y.1.1.1 y.1.1.2)) (Qx 57 1 (Je x.k v s).length (Cw v s) y.1.2.1 y.1.2.2))) ⟨((none,0),q1.2),mF H.2 G.down hi (by have h:=C.2;rw[(show q1.1=v+1 from Ra C.1 (VZ hl)),Tp]at h;exact h)⟩ rfl λ_ _ _ h=>jC H.2 hi (show q1.1=v+1 from Ra C.1 (VZ hl)) h)) λhi=>Vv (qV (HAR g)) (qI (v:Int)) (qI (v:Int)) (qI ((HAO.1:Nat):Int)) (Yq (Qj (Qj (Qh g 69 (χ.cs (χ.nx (χ.ln s)) (rU m v x)) M) HAN) HAV) (Qj (Qj (Qh g 69 (χ.cs (χ.sps 2 HAO.1 (χ.nx (χ.ln s))) (PC.l (x.D v (Ω HAO.2.1 (DZ (χ.nx (χ.ln s)) HAO.1).length HAO.2.2) HAaa) m)) M) (Qc 76 6 JR (DZ (χ.nx (χ.ln s)) HAO.1) HAO.2.1 HAO.2.2)) (HA5 v s)) λ_ _ _ h=>(by exact A8 (λ_ _ _ h=>AP _ _ _ vZ _ _ _ _ h) h)) (XR F)<|ai (show(((0,(none,0)):Nat×Hp).1<=v/\BC v [] (χ.nx (χ.ln s)).fd=BC (v-((0,(none,0)):Nat×Hp).1) (DZ (χ.nx (χ.ln s)) ((0,(none,0)):Nat×Hp).1) (χ.sps 2 ((0,(none,0)):Nat×Hp).1 (χ.nx (χ.ln s))).fd)from⟨L7 _,rfl⟩) λ(q1:Nat×Hp) (C:(HA6 q1 v s))=>Xi (decide ((q1.1:Int)<(v:Int))) (λhl=>Ja (VI (Qj (Qh g 69 (HAW q1 s m v x) M) (HAY s q1)) (Qx 57 1 0 (Cw v s) none 0) We) (VI (Qh g 69 (HAW q1 s m v x) M) (Qc 76 6 JR (DZ (χ.nx (χ.ln s)) q1.1) q1.2.1 q1.2.2) Ga) (FL g M (χ.sps 2 q1.1 (χ.nx (χ.ln s))) (lw m q1 s v x) (((O.ln (QZ G.down)).nx).sps 2 q1.1) 2 x4 W Q)<|ai (λ(j:{y:Hp // (XW 2 []) (χ.sps 2 q1.1 (χ.nx (χ.ln s))).fd=.ok (HA2 q1 s)})=>Vv (JE g 69 (χ.cs (rW q1 s) (lw m q1 s v x)) M (Qc 32 3 Xk (lx q1 s) j.1.1 j.1.2) Ga) (Q2 (w0:=W) (g:=g) (t:=69) (cs:=(χ.cs (rW q1 s) (lw m q1 s v x))) (M:=M) (λz E=>dg z 6 E rfl)) (Jl W 32 3 Xk (Xn (χ.sps 2 q1.1 (χ.nx (χ.ln s))) 2) j.1.1 j.1.2 Xx nm0 (λz K=>Gi j.1.2 z K 0 (by rw[GF];decide))) (Jl W 32 3 Xk (Xn (χ.sps 2 q1.1 (χ.nx (χ.ln s))) 2) j.1.1 j.1.2 Xx nm0 (λz K=>JW K 0 0 (by rw[GF];decide) x4 rfl rfl (w0:=z))) (Jl W 32 3 Xk (Xn (χ.sps 2 q1.1 (χ.nx (χ.ln s))) 2) j.1.1 j.1.2 Xx nm0 (λz K=>Gi j.1.2 z K 1 (by rw[GF];decide))) (Jl W 32 3 Xk (Xn (χ.sps 2 q1.1 (χ.nx (χ.ln s))) 2) j.1.1 j.1.2 Xx nm0 (λz K=>JW K 1 0 (by rw[GF];decide) x4 rfl rfl (w0:=z)))<|ai (YJ W 23 76 1 1 JR (DZ (χ.nx (χ.ln s)) q1.1) ([bxA (χ.nx (χ.ln s)) q1.1]) (DZ (χ.nx (χ.ln s)) (q1.1+1)) q1.2.1 q1.2.2 ([Ξ ((HAae q1 s).b),Ψ ((HAae q1 s).s),Θ ((HAae q1 s).e),Ξ ((HAaf q1 s).b),Ψ ((HAaf q1 s).s),Θ ((HAaf q1 s).e)]) ef iy wH (TW (χ.nx (χ.ln s)) q1.1) (show(DZ (χ.nx (χ.ln s)) (q1.1+1)).length*64<=140737488355328 from by rw[fk];have:=QR hl;omega) rfl rfl) λ(f:Hp)=>ai (YN W prog g 69 (χ.cs (rW q1 s) (lw m q1 s v x)) M 23 ([Ω f.1 (HAT s q1).length f.2]) 6 (Ω f.1 (HAT s q1).length f.2) (Qm 23 _ rfl) rfl rfl (L8 rfl) (Lg.1 (rfl:([Ω f.1 (HAT s q1).length f.2]:o3).all (λu=>u.oneCell')=true))) λ(B:Unit)=>GL (QD q1.1 (hA (QR hl))) (qV (HAR g)) (qI (v:Int)) (qI (v:Int)) (qI (((q1.1+1):Nat):Int)) (Yq (Qj (Qj (Qh g 69 (χ.cs (rW q1 s) (PC.l (x.D v (Ω f.1 (HAT s q1).length f.2) HAaa) m)) M) (Qc 76 6 JR (HAT s q1) f.1 f.2)) (HA5 v s)) (Qj (Qj (Qh g 69 (χ.cs (χ.sps 2 (q1.1+1) (χ.nx (χ.ln s))) (PC.l (x.D v (Ω f.1 (HAT s q1).length f.2) HAaa) m)) M) (Qc 76 6 JR (HAT s q1) f.1 f.2)) (HA5 v s)) λ_ _ _ h=>h) (XR F)<|ai (show((q1.1+1)<=v/\BC v [] (χ.nx (χ.ln s)).fd=BC (v-(q1.1+1)) (DZ (χ.nx (χ.ln s)) (q1.1+1)) (χ.sps 2 (q1.1+1) (χ.nx (χ.ln s))).fd)from⟨QR hl,QcO (QR hl) C.2 j.2⟩) (show v-(q1.1+1)<v-q1.1 from hA (QR hl))) (Yf F (Xy (XW 2 []) (χ.sps 2 q1.1 (χ.nx (χ.ln s)))) (Xy (Ko x.k v) s) λ_ h=>h.imp λ_ h=>⟨(ya H.2 G.down hi).trans (Xc (QcN (QR hl) C.2 h.1)),h.2⟩)) λhl=>(YP F (.tuple #[]) (λ_:{y:Hp×Hp // Ko x.k v s.fd=.ok (HA7 x v s)}=>Value.tuple #[]) (Qj (Qj (Qh g 69 (HAW q1 s m v x) M) (HAY s q1)) (HA5 v s)) (λy:{y:Hp×Hp // Ko x.k v s.fd=.ok (HA7 x v s)}=>Qh g 69 (χ.cs (s.dom x.k v) (PC.l ⟨x.k,(v:Int),(Ω y.1.1.1 (K5 x.k v s).length y.1.1.2),(Ω y.1.2.1 (Je x.k v s).length y.1.2.2),x.p,x.r,x.e,x.d,x.u,x.c⟩ m)) (Qj (Qj M (Qc 76 6 JR (K5 x.k v s) y.1.1.1 y.1.1.2)) (Qx 57 1 (Je x.k v s).length (Cw v s) y.1.2.1 y.1.2.2))) ⟨(q1.2,(none,0)),mE H.2 G.down hi (by have h:=C.2;rw[(show q1.1=v from Ra C.1 (VZ hl)),Tp]at h;exact h)⟩ rfl λ_ _ _ h=>jB H.2 hi (show q1.1=v from Ra C.1 (VZ hl)) h)) (Yf F (Xy (Qv (List.take q [Jh,Q6])) s) (Xy (Ko x.k v) s) λ_ h=>h.imp λ_ h=>⟨zJ H.2 h.1,h.2⟩)) λF=>x5
def Tq(_:Unit):o3:=List.replicate 6 undef
def BI(s:χ):Bool:=Lib.idxOfS [Xo,Zq] (Qg s.ln.l 0).s==0
def χ.nd(n:Nat)(s:χ):χ:=bif BI s then s.ln.nx else(s.ln.nx.nx).trm n
def ndN(n:Nat)(s:χ):Nd:=bif BI s then⟨1,nm0,NU⟩else⟨0,Q0 s.ln.nx,QP n s.ln.nx.nx⟩
def χ.nds(n:Nat):Nat->χ->χ
 |0,s=>s
 |k+1,s=>χ.nd n (χ.nds n k s)
def Hz(n:Nat)(s:χ)(j:Nat):Nd:=ndN n (χ.nds n j s)
def NN(n:Nat)(s:χ)(k:Nat):List Nd:=(List.range k).map (Hz n s)
def J9(n:Nat)(s:χ):Nat->Int
 |0=>1
 |k+1=>bif BI (χ.nds n k s)then J9 n s k+1 else J9 n s k-1
def B8(n:Nat)(s:χ)(m:Bool):Nat->Bool
 |0=>m
 |k+1=>bif BI (χ.nds n k s)then B8 n s m k else(B8 n s m k||XX n (χ.nds n k s).ln.nx.nx)
def Gp(nb a:Nat):Int:=bif (2*(nb:Int))==0 then(a:Int)else 2*(nb:Int)
def jb(n:Nat)(s:χ)(i:Nat):o3:=[.int .i64 (Hz n s i).split,.bool (Hz n s i).ο.b,.string (Hz n s i).ο.s,.int .i64 (Hz n s i).ο.e,.int .i64 (Hz n s i).sum.vars]
def jO(n:Nat)(s:χ)(i:Nat):List Tm:=(Hz n s i).sum.ts
def bj(n:Nat)(s:χ):LP:=VU 56 4 QK (jb n s) (jO n s)
def WA(n:Nat)(s:χ)(k:Nat):NN n s k++[Hz n s k]=NN n s (k+1):=by simp[NN,S7]
section
variable{n k:Nat}{s:χ}{x:Nd}(e:x=Hz n s k)
include e
theorem yr{A:m3}{c:Nat}:[.int .i64 x.split,.bool x.ο.b,.string x.ο.s,.int .i64 x.ο.e,.int .i64 x.sum.vars,.slice A x.sum.ts.length c]=jb n s k++[.slice A (jO n s k).length c]:=by subst e;rfl
theorem oH{A:m3}{c:Nat}(X:y9)(S:Nat->Prop)(w:m0)(h:(Qc 56 4 QK x.sum.ts A c).φ X S w):(Zx 56 4 QK (jO n s k) A c).φ X S w:=by subst e;exact .inl h
end
section
variable{n k:Nat}{s:χ}
theorem gE(h:BI (χ.nds n k s)=true):(⟨1,nm0,NU⟩:Nd)=Hz n s k:=by grind[Hz,ndN]
theorem gD(h:BI (χ.nds n k s)=false):(⟨0,Q0 (χ.nds n k s).ln.nx,QP n (χ.nds n k s).ln.nx.nx⟩:Nd)=Hz n s k:=by grind[Hz,ndN]
theorem oF:J9 n s (k+1)=bif BI (χ.nds n k s)then J9 n s k+1 else J9 n s k-1:=rfl
theorem yq{m:Bool}:B8 n s m (k+1)=bif BI (χ.nds n k s)then B8 n s m k else(B8 n s m k||XX n (χ.nds n k s).ln.nx.nx):=rfl
theorem Ir(h:BI (χ.nds n k s)=true):J9 n s (k+1)=J9 n s k+1:=by grind[oF]
theorem Iq(h:BI (χ.nds n k s)=false):J9 n s (k+1)=J9 n s k-1:=by grind[oF]
theorem oE{m:Bool}(h:BI (χ.nds n k s)=true):B8 n s m (k+1)=B8 n s m k:=by grind[yq]
theorem oD{m:Bool}(h:BI (χ.nds n k s)=false):B8 n s m (k+1)=(B8 n s m k||XX n (χ.nds n k s).ln.nx.nx):=by grind[yq]
theorem RA(h:BI (χ.nds n k s)=true):χ.nds n (k+1) s=(χ.nds n k s).ln.nx:=by show χ.nd n _=_;unfold χ.nd;rw[h];rfl
theorem P9(h:BI (χ.nds n k s)=false):χ.nds n (k+1) s=((χ.nds n k s).ln.nx.nx).trm n:=by show χ.nd n _=_;unfold χ.nd;rw[h];rfl
variable{g t:Nat}{x:PC}{m:Bool}{M:Res}
theorem kj(h:BI (χ.nds n k s)=true){X:y9}{S:Nat->Prop}(a:(Qh g t (χ.cs (χ.nx (χ.ln (χ.nds n k s))) (PC.l x (B8 n s m k))) M).φ X S w):(Qh g t (χ.cs (χ.nds n (k+1) s) (PC.l x (B8 n s m (k+1)))) M).φ X S w:=by
 grind[RA,oE]
theorem ki(h:BI (χ.nds n k s)=false){X:y9}{S:Nat->Prop}(a:(Qh g t (χ.cs (χ.trm n (χ.nx (χ.nx (χ.ln (χ.nds n k s))))) (PC.l x (B8 n s m k||XX n (χ.nx (χ.nx (χ.ln (χ.nds n k s))))))) M).φ X S w):(Qh g t (χ.cs (χ.nds n (k+1) s) (PC.l x (B8 n s m (k+1)))) M).φ X S w:=by
 grind[P9,oD]
end
def χ.In.trm(h:s.In M)(n:Nat):(s.trm n).In M:=h.rnds n _
def oT(s:χ):∀n,(χ.nxs n s).ls=s.ls
 |0=>rfl
 |n+1=>oT s n
def RW(v:Nat)(s:χ):∀k,(χ.rnds v k s).ls=s.ls
 |0=>rfl
 |k+1=>(oT _ v).trans (RW v s k)
def n6(v f:Nat)(o:Int)(l:List Nd)(m:Bool):XJ v (f+1) o l m=bif decide (o>0)then bnd (Qv [Xo,Zq]) (λi=>bif i==0 then XJ v f (o+1) (l++[⟨1,nm0,NU⟩]) m else bnd XV λa=>bnd (QC v) λp=>XJ v f (o-1) (l++[⟨0,a,p.1⟩]) (m||p.2))else rtn (l,m):=rfl
def iR(h:s.In M)(a:v<=1000):okP (QP v s):=uH (l:=k9 v s) (by unfold k9;rw[Nt];exact L6 (Rn _ _) h.f.l.1) a (iO h _)
theorem WL:okN nm0:=⟨x4,x4,x4⟩
theorem QdG:okP NU:=⟨L7 _,λt h=>nomatch h⟩
def MN(h:s.In M):okN (Q0 s):=(oO h).ok x4
structure NdI (V:Int) (n:Nat) (s:χ) (m:Bool) (M:Res) (k:Nat):Prop where
 v:V=(n:Int)
 e:XJ V 70000 1 [] m s.fd=XJ V (70000-k) (J9 n s k) (NN n s k) (B8 n s m k) (χ.nds n k s).fd
 q:k+(χ.nds n k s).ls.length=s.ls.length
 lo:-(k:Int)<=J9 n s k
 hi:J9 n s k<=k+1
 i:(χ.nds n k s).In M
 b:n<=200
 o:∀j,j<k->okP (Hz n s j).sum/\okN (Hz n s j).ο
section
variable{V:Int}{n k:Nat}{s:χ}{m:Bool}{M:Res}(h:NdI V n s m M k)(hl:s.ls.length<=4001)
include h hl
theorem NdI.lt:k<=4001:=hA h.q
theorem NdI.go(h0:decide (J9 n s k>0)=true):XJ V 70000 1 [] m s.fd=bnd (Qv [Xo,Zq]) (λi=>bif i==0 then XJ V (70000-(k+1)) (J9 n s k+1) (NN n s k++[⟨1,nm0,NU⟩]) (B8 n s m k)else bnd XV λa=>bnd (QC V) λp=>XJ V (70000-(k+1)) (J9 n s k-1) (NN n s k++[⟨0,a,p.1⟩]) (B8 n s m k||p.2)) (χ.nds n k s).fd:=by
 have d:=h.lt hl;have b:=h.e;have c:=h.v;subst c;rw[b,show 70000-k=(70000-(k+1))+1 by omega,n6,h0];rfl
variable(h0:decide (J9 n s k>0)=true)
include h0
theorem NdI.line_e{z:Int}(e:Qv [Xo,Zq] (χ.nds n k s).fd=.error z):XJ V 70000 1 [] m s.fd=.error z:=by
 rw[h.go hl h0];exact Xc e
variable(e1:Qv [Xo,Zq] (χ.nds n k s).fd=.ok (Lib.idxOfS [Xo,Zq] (Qg (χ.nds n k s).ln.l 0).s,(χ.nds n k s).ln.nx.fd))
include e1
theorem NdI.at_sp(hi:BI (χ.nds n k s)=true):NdI V n s m M (k+1):=by
 have c:=QZ e1;refine⟨h.v,?_,?_,?_,?_,?_,h.b,λj a=>?_⟩
 ·rw[h.go hl h0,QA e1,show(Lib.idxOfS [Xo,Zq] (Qg (χ.nds n k s).ln.l 0).s==0)=true from hi,RA hi,Ir hi,oE hi,<- WA,<- gE hi];rfl
 ·rw[RA hi];show k+1+((χ.nds n k s).ls.drop 1).length=_;rw[Lf];have:=h.q;omega
 ·rw[Ir hi];have:=h.lo;omega
 ·rw[Ir hi];have:=h.hi;omega
 ·rw[RA hi];exact(h.i.ln c).nx
 ·rcases Nat.lt_or_eq_of_le (U3 a)with a|rfl
  ·exact h.o j a
  grind[gE,QdG,WL]
variable(hi:BI (χ.nds n k s)=false)
include hi
theorem NdI.go2:XJ V 70000 1 [] m s.fd=bnd XV (λa=>bnd (QC V) λp=>XJ V (70000-(k+1)) (J9 n s k-1) (NN n s k++[⟨0,a,p.1⟩]) (B8 n s m k||p.2)) (χ.nds n k s).ln.nx.fd:=by
 rw[h.go hl h0,QA e1,show(Lib.idxOfS [Xo,Zq] (Qg (χ.nds n k s).ln.l 0).s==0)=false from hi];rfl
theorem NdI.num_e{z:Int}(e:XV (χ.nds n k s).ln.nx.fd=.error z):XJ V 70000 1 [] m s.fd=.error z:=by
 rw[h.go2 hl h0 e1 hi];exact Xc e
variable(e2:XV (χ.nds n k s).ln.nx.fd=.ok (Q0 (χ.nds n k s).ln.nx,(χ.nds n k s).ln.nx.nx.fd))
include e2
theorem NdI.trm_e{z:Int}(e:QC n (χ.nds n k s).ln.nx.nx.fd=.error z):XJ V 70000 1 [] m s.fd=.error z:=by
 have a:=h.v;subst a;rw[h.go2 hl h0 e1 hi]
 grind[QA,Xc]
theorem NdI.at_lf(d:QC n (χ.nds n k s).ln.nx.nx.fd=.ok ((QP n (χ.nds n k s).ln.nx.nx,XX n (χ.nds n k s).ln.nx.nx),((χ.nds n k s).ln.nx.nx.trm n).fd)):NdI V n s m M (k+1):=by
 have a:=QZ e1;have e:=h.v;refine⟨h.v,?_,?_,?_,?_,?_,h.b,λj c=>?_⟩
 ·subst e;rw[h.go2 hl h0 e1 hi,QA e2,QA d,P9 hi,Iq hi,oD hi,<- WA,<- gD hi]
 ·rw[P9 hi];show k+1+((χ.trm n (χ.nds n k s).ln.nx.nx).ls).length=_;unfold χ.trm;rw[RW];show k+1+((χ.nds n k s).ls.drop 1).length=_;rw[Lf];have:=h.q;omega
 ·rw[Iq hi];have:=h.lo;omega
 ·rw[Iq hi];have:=h.hi;omega
 ·rw[P9 hi];exact(h.i.ln a).nx.nx.trm n
 ·rcases Nat.lt_or_eq_of_le (U3 c)with c|rfl
  ·exact h.o j c
  ·rw[<- gD hi];exact⟨iR (h.i.ln a).nx.nx (L6 h.b x4),MN (h.i.ln a).nx⟩
end
def NdI.fin{V:Int}{n:Nat}{m:Bool}(h:NdI V n s m M k)(hl:s.ls.length<=4001)(h0:decide (J9 n s k>0)=false):XJ V 70000 1 [] m s.fd=.ok ((NN n s k,B8 n s m k),(χ.nds n k s).fd):=by
 have c:=h.lt hl;have a:=h.e;have b:=h.v;subst b;rw[a,show 70000-k=(70000-(k+1))+1 by omega,n6,h0];rfl
structure NX where
 x:PC
 A1:Option Addr
 nb:Nat
 c1:Nat
 A2:Option Addr
 ns:Nat
 c2:Nat
def NX.N(z:NX)(c:y9):PC:=⟨z.x.k,z.x.v,.slice z.A1 z.nb z.c1,.slice z.A2 z.ns z.c2,z.x.p,z.x.r,z.x.e,z.x.d,z.x.u,c⟩
def BB(n:Nat)(q1:Nat×Hp)(s:χ):χ:=χ.nx (χ.nx (χ.ln (χ.nds n q1.1 s)))
def Um(m:Bool)(n:Nat)(q1:Nat×Hp)(s:χ)(z:NX):o3:=χ.cs (χ.trm n (BB n q1 s)) (PC.l (z.N (.slice q1.2.1 q1.1 q1.2.2)) ((B8 n s m q1.1)||XX n (BB n q1 s)))
def sH(m:Bool)(n:Nat)(q1:Nat×Hp)(s:χ)(z:NX):o3:=PC.l (z.N (.slice q1.2.1 q1.1 q1.2.2)) (B8 n s m q1.1)
abbrev HAag(n:Nat)(q1:Nat×Hp)(s:χ):=(Qv (List.take 2 [Xo,Zq])) (χ.nds n q1.1 s).fd=.ok ((Lib.idxOfS (List.take 2 [Xo,Zq]) (Qg (χ.ln (χ.nds n q1.1 s)).l 0).s),(χ.nx (χ.ln (χ.nds n q1.1 s))).fd)
abbrev HAah(n:Nat)(q1:Nat×Hp)(s:χ):=XV (χ.nx (χ.ln (χ.nds n q1.1 s))).fd=.ok ((Q0 (χ.nx (χ.ln (χ.nds n q1.1 s)))),(BB n q1 s).fd)
abbrev HAai:Nat×Hp:=(0,(none,0))
abbrev HAaj(n:Nat)(q1:Nat×Hp)(s:χ):=((QP n (BB n q1 s),XX n (BB n q1 s)),(χ.trm n (BB n q1 s)).fd)
abbrev HAak(g:Nat):y9:=.pointer (some ⟨g,0,none⟩)
abbrev HAal(s:χ)(z:NX)(m:Bool):=χ.cs s (PC.l (z.N (.slice none 0 0)) m)
abbrev HAam(z:NX)(m:Bool):=XJ (Gp z.nb z.ns) 70000 1 [] m
abbrev HAan(n:Nat)(q1:Nat×Hp)(s:χ):=χ.nds n q1.1 s
abbrev HAao:=Qc 54 6 Tq ([]:List Unit) none 0
abbrev HAap:=List.take 2 [Xo,Zq]
abbrev HAaq(n:Nat)(q1:Nat×Hp)(s:χ):=Q0 (χ.nx (χ.ln (HAan n q1 s)))
abbrev HAar(n:Nat)(q1:Nat×Hp)(s:χ)(z:NX)(r:Hp)(m:Bool):=χ.cs (χ.trm n (BB n q1 s)) (PC.l (z.N (.slice r.1 (q1.1+1) r.2)) ((B8 n s m q1.1)||XX n (BB n q1 s)))
variable{z:NX}
def uU(C:s.In M){m:Bool}(hb:z.nb<=100)(S:z.ns<=200)(W:m0)(L:QV W):FxF prog W (Qh g 69 (χ.cs s (PC.l (z.N (x01)) m)) M) 77 #[x02 g] (λ_:{y:(Nat×Nat)×Hp // (XJ (Gp z.nb z.ns) 70000 1 [] m) s.fd=.ok ((NN y.1.1 s y.1.2,B8 y.1.1 s m y.1.2),(χ.nds y.1.1 y.1.2 s).fd)/\(χ.nds y.1.1 y.1.2 s).In M/\y.1.2<=4001/\∀j,j<y.1.2->okP (Hz y.1.1 s j).sum/\okN (Hz y.1.1 s j).ο}=>Value.tuple #[]) (λy:{y:(Nat×Nat)×Hp // (XJ (Gp z.nb z.ns) 70000 1 [] m) s.fd=.ok ((NN y.1.1 s y.1.2,B8 y.1.1 s m y.1.2),(χ.nds y.1.1 y.1.2 s).fd)/\(χ.nds y.1.1 y.1.2 s).In M/\y.1.2<=4001/\∀j,j<y.1.2->okP (Hz y.1.1 s j).sum/\okN (Hz y.1.1 s j).ο}=>Qh g 69 (χ.cs (χ.nds y.1.1.1 y.1.1.2 s) (PC.l (z.N (Ω y.1.2.1 y.1.1.2 y.1.2.2)) (B8 y.1.1.1 s m y.1.1.2))) (Qj M (Qx 54 6 y.1.1.2 (bj y.1.1.1 s) y.1.2.1 y.1.2.2))) (Xy (XJ (Gp z.nb z.ns) 70000 1 [] m) s) :=
 VC Qm QU (λa w=>call77 a w) func77 ntmps77 results77 _ rfl _ _ _ _ [.nil 0 0 54 6 Tq,x06 0 5 [0] (Ω z.A1 z.nb z.c1),x05 0 7 (iV ((2*z.nb:Nat):Int)),.cut 3 (λ(n:Nat)=>(⟨67,[(0,.val (HAak g)),(2,iV (n:Int))],[],[none,none,none]⟩:St)) (λ(n:Nat)=>(Gp z.nb z.ns=(n:Int)/\n<=200)) (λk u=>bif Nat.beq k 0 then z.ns else 2*z.nb) (λ(n:Nat)=>[.join 3 0 0 2,x0a (HAai:Nat×Hp) (λ(q1:Nat×Hp) (u:List Hp)=>(q1.1+1,u.headD (none,0))) (λ(q1:Nat×Hp)=>((⟨67,[(0,.val (HAak g)),(2,iV (n:Int)),(3,iV (J9 n s q1.1))],[],[some (Qj (Qh g 69 (χ.cs (HAan n q1 s) (sH m n q1 s z)) M) (Qx 54 6 q1.1 (bj n s) q1.2.1 q1.2.2)),none]⟩:St),NdI (Gp z.nb z.ns) n s m M q1.1,(HAan n q1 s).ls.length,[.both [.spl 6 0 0 (Qh g 69 (χ.cs (HAan n q1 s) (sH m n q1 s z)) M) (Qx 54 6 q1.1 (bj n s) q1.2.1 q1.2.2),x07 6 4 0 (Xy (Qv HAap) (HAan n q1 s)) (λ(D:PLift (HAag n q1 s))=>(Θ (Lib.idxOfS HAap (Qg (χ.ln (HAan n q1 s)).l 0).s),Qh g 69 (χ.cs (χ.nx (χ.ln (HAan n q1 s))) (sH m n q1 s z)) M,[.both [x06 7 5 [0] (Ω q1.2.1 q1.1 q1.2.2),.nil 7 8 56 4 QK,.join 7 8 2 3,x08 7 8 2 (λ(d:Hp)=>(Ω d.1 (q1.1+1) d.2,Qx 54 6 (q1.1+1) (bj n s) d.1 d.2,[x08 7 12 0 (λ(E:Unit)=>(undef,Qh g 69 (χ.cs (χ.nx (χ.ln (HAan n q1 s))) (PC.l (z.N (Ω d.1 (q1.1+1) d.2)) (B8 n s m q1.1))) M,[x05 8 1 (iV (J9 n s q1.1+2)),.join 5 0 0 2,x05 5 1 (iV (J9 n s (q1.1+1))),.nxt [d]]))]))] [x07 9 3 0 (Xy XV (χ.nx (χ.ln (HAan n q1 s)))) (λ(d:PLift (HAah n q1 s))=>(nA (HAaq n q1 s),Qh g 69 (χ.cs (BB n q1 s) (sH m n q1 s z)) M,[x07 10 2 0 (Xy (QC n) (BB n q1 s)) (λ(B:{y:Hp // (QC n) (BB n q1 s).fd=.ok (HAaj n q1 s)})=>(Value.agg #[Θ ((QP n (BB n q1 s)).vars),Ω B.1.1 (QP n (BB n q1 s)).ts.length B.1.2],Qh g 69 (Um m n q1 s z) (Qj M (Qc 56 4 QK (QP n (BB n q1 s)).ts B.1.1 B.1.2)),[.spl 10 3 0 (Qh g 69 (Um m n q1 s z) M) (Qc 56 4 QK (QP n (BB n q1 s)).ts B.1.1 B.1.2),.join 10 4 2 3,.reg 8 [0],x06 11 5 [0] (Ω q1.2.1 q1.1 q1.2.2),x08 11 8 2 (λ(r:Hp)=>(Ω r.1 (q1.1+1) r.2,Qx 54 6 (q1.1+1) (bj n s) r.1 r.2,[x08 11 12 0 (λ(E:Unit)=>(undef,Qh g 69 (HAar n q1 s z r m) M,[.join 5 0 0 2,x05 5 1 (iV (J9 n s (q1.1+1))),.nxt [r]]))]))]))]))]]))] []]))]),.both [x06 2 5 [0] (Ω z.A2 z.ns z.c2),.nxc 0 []] [.nxc 1 []]] (λF=>X0 (Q2 (w0:=W) (g:=g) (t:=69) (cs:=(HAal s z m)) (M:=M) (λG H=>dg G 6 H rfl)) (show IntKind.i64.wrap (2*(z.nb:Int))=((2*z.nb:Nat):Int)from by rw[Le _ x3];omega)<|p0 (Xi (((2*z.nb:Nat):Int)==0) (λI=>Vv (Q2 (w0:=W) (g:=g) (t:=69) (cs:=(HAal s z m)) (M:=M) (λG H=>GU G 7 H rfl)) (qV (HAak g)) (qI (z.ns:Int)) (XR (Qh g 69 (HAal s z m) M)) (XR F) (XR HAao)<|(show(Gp z.nb z.ns=(z.ns:Int)/\z.ns<=200)from⟨by unfold Gp;rw[show(2*(z.nb:Int)==0)=true from I];rfl,x3⟩)) λI=>KJ (qV (HAak g)) (qI ((2*z.nb:Nat):Int)) (XR (Qh g 69 (HAal s z m) M)) (XR F) (XR HAao)<|(show(Gp z.nb z.ns=((2*z.nb:Nat):Int)/\2*z.nb<=200)from⟨by unfold Gp;rw[show(2*(z.nb:Int)==0)=false from I];rfl,x3⟩)) λ(n:Nat) (K:(Gp z.nb z.ns=(n:Int)/\n<=200))=>KJ (qV (HAak g)) (qI (n:Int)) (qI (J9 n s HAai.1)) (Yq (Qj (Qh g 69 (HAal s z m) M) HAao) (Qj (Qh g 69 (χ.cs (χ.nds n HAai.1 s) (PC.l (z.N (Ω HAai.2.1 HAai.1 HAai.2.2)) (B8 n s m HAai.1))) M) (Qx 54 6 HAai.1 (bj n s) HAai.2.1 HAai.2.2)) λ_ _ _ h=>(by exact A8 (λ_ _ _ h=>AP _ _ _ Tq _ _ _ _ h) h)) (XR F)<|ai (show NdI (Gp z.nb z.ns) n s m M 0 from⟨K.1,rfl,Lm _,(by show(0:Int)<=1;decide),(by show(1:Int)<=1;decide),C,K.2,λ_ h=>absurd h (R4 _)⟩) λ(q1:Nat×Hp) (p:NdI (Gp z.nb z.ns) n s m M q1.1)=>Xi (decide ((J9 n s q1.1)>0)) (λh0=>X0 (VI (Qh g 69 (χ.cs (HAan n q1 s) (sH m n q1 s z)) M) (Qx 54 6 q1.1 (bj n s) q1.2.1 q1.2.2) We) (Bb g M (HAan n q1 s) (sH m n q1 s z) p.i 9 ([Xo,Zq]) 2 2 x4 x4 W)<|ai (λ(D:PLift (HAag n q1 s))=>Xi ((Lib.idxOfS (List.take 2 [Xo,Zq]) (Qg (χ.ln (χ.nds n q1.1 s)).l 0).s)==0) (λhi=>ai (Q2 (w0:=W) (g:=g) (t:=69) (cs:=(χ.cs (χ.nx (χ.ln (HAan n q1 s))) (sH m n q1 s z))) (M:=M) (λG H=>Ey G 17 H rfl))<|ai (JJ W 33 54 56 4 q1.1 (q1.1+1) 1 QK (jb n s) (jO n s) q1.2.1 none q1.2.2 0 ([Θ 1,Ξ false,x00,Θ 0,Θ 0,x01]) (Qc 56 4 QK ([]:List Tm) none 0) (oH (n:=n) (s:=s) (gE hi)) Am (by intro u J;simp only[jb,Lb,Ri,or_false]at J;first|exact J.elim|(rcases J with rfl|rfl|rfl|rfl|rfl<;>rfl)) rfl (hA (p.lt C.f.n)) (yr (n:=n) (s:=s) (gE hi)) rfl) λ(d:Hp)=>ai (YN W prog g 69 (χ.cs (χ.nx (χ.ln (HAan n q1 s))) (sH m n q1 s z)) M 33 ([Ω d.1 (q1.1+1) d.2]) 17 (Ω d.1 (q1.1+1) d.2) (Qm 33 _ rfl) rfl rfl (L8 rfl) (Lg.1 (rfl:([Ω d.1 (q1.1+1) d.2]:o3).all (λu=>u.oneCell')=true))) λ(E:Unit)=>GL (show IntKind.i64.wrap (J9 n s q1.1+2)=J9 n s q1.1+2 from Le _ (by have:=p.lo;have:=p.hi;have:=p.lt C.f.n;omega)) (show IntKind.i64.wrap (J9 n s q1.1+2-1)=J9 n s (q1.1+1)from by rw[Le _ (by have:=p.lo;have:=p.hi;have:=p.lt C.f.n;omega),Ir hi]<;>omega) (qV (HAak g)) (qI (n:Int)) (qI (J9 n s (q1.1+1))) (Yq (Qj (Qh g 69 (χ.cs (χ.nx (χ.ln (HAan n q1 s))) (PC.l (z.N (Ω d.1 (q1.1+1) d.2)) (B8 n s m q1.1))) M) (Qx 54 6 (q1.1+1) (bj n s) d.1 d.2)) (Qj (Qh g 69 (χ.cs (χ.nds n (q1.1+1) s) (PC.l (z.N (Ω d.1 (q1.1+1) d.2)) (B8 n s m (q1.1+1)))) M) (Qx 54 6 (q1.1+1) (bj n s) d.1 d.2)) λ_ _ _ h=>(MP (λ_ _ _ h=>kj hi h) h)) (XR F)<|ai (show NdI (Gp z.nb z.ns) n s m M (q1.1+1)from p.at_sp C.f.n h0 D.down hi) (show(χ.nds n (q1.1+1) s).ls.length<(χ.nds n q1.1 s).ls.length from by have O:=p.q;have Q:=(p.at_sp C.f.n h0 D.down hi).q;omega)) λhi=>ai (Af g M (χ.nx (χ.ln (HAan n q1 s))) (sH m n q1 s z) (p.i.ln (QZ D.down)).nx W L)<|ai (λ(d:PLift (HAah n q1 s))=>ai (Bo g M (BB n q1 s) (z.N (Ω q1.2.1 q1.1 q1.2.2)) (B8 n s m q1.1) (p.i.ln (QZ D.down)).nx.nx n K.2 W L)<|ai (λ(B:{y:Hp // (QC n) (BB n q1 s).fd=.ok (HAaj n q1 s)})=>X0 (JE g 69 (Um m n q1 s z) M (Qc 56 4 QK (QP n (BB n q1 s)).ts B.1.1 B.1.2) Ga) (Q2 (w0:=W) (g:=g) (t:=69) (cs:=(Um m n q1 s z)) (M:=M) (λG H=>Ey G 17 H rfl))<|ai (JJ W 33 54 56 4 q1.1 (q1.1+1) 1 QK (jb n s) (jO n s) q1.2.1 B.1.1 q1.2.2 B.1.2 ([Θ 0,Ξ ((HAaq n q1 s).b),Ψ ((HAaq n q1 s).s),Θ ((HAaq n q1 s).e),Θ ((QP n (BB n q1 s)).vars),Ω B.1.1 (QP n (BB n q1 s)).ts.length B.1.2]) (Qc 56 4 QK (QP n (BB n q1 s)).ts B.1.1 B.1.2) (oH (n:=n) (s:=s) (gD hi)) Am (by intro u J;simp only[jb,Lb,Ri,or_false]at J;first|exact J.elim|(rcases J with rfl|rfl|rfl|rfl|rfl<;>rfl)) rfl (hA (p.lt C.f.n)) (yr (n:=n) (s:=s) (gD hi)) rfl) λ(r:Hp)=>ai (YN W prog g 69 (Um m n q1 s z) M 33 ([Ω r.1 (q1.1+1) r.2]) 17 (Ω r.1 (q1.1+1) r.2) (Qm 33 _ rfl) rfl rfl (L8 rfl) (Lg.1 (rfl:([Ω r.1 (q1.1+1) r.2]:o3).all (λu=>u.oneCell')=true))) λ(E:Unit)=>Vv (show IntKind.i64.wrap (J9 n s q1.1-1)=J9 n s (q1.1+1)from by rw[Le _ (by have:=p.lo;have:=p.hi;have:=p.lt C.f.n;omega),Iq hi]<;>omega) (qV (HAak g)) (qI (n:Int)) (qI (J9 n s (q1.1+1))) (Yq (Qj (Qh g 69 (HAar n q1 s z r m) M) (Qx 54 6 (q1.1+1) (bj n s) r.1 r.2)) (Qj (Qh g 69 (χ.cs (χ.nds n (q1.1+1) s) (PC.l (z.N (Ω r.1 (q1.1+1) r.2)) (B8 n s m (q1.1+1)))) M) (Qx 54 6 (q1.1+1) (bj n s) r.1 r.2)) λ_ _ _ h=>(MP (λ_ _ _ h=>ki hi h) h)) (XR F)<|ai (show NdI (Gp z.nb z.ns) n s m M (q1.1+1)from p.at_lf C.f.n h0 D.down hi d.down B.2) (show(χ.nds n (q1.1+1) s).ls.length<(χ.nds n q1.1 s).ls.length from by have O:=p.q;have Q:=(p.at_lf C.f.n h0 D.down hi d.down B.2).q;omega)) (Yf F (Xy (QC n) (BB n q1 s)) (Xy (HAam z m) s) λ_ h=>h.imp λ_ h=>⟨p.trm_e C.f.n h0 D.down hi d.down h.1,h.2⟩)) (Yf F (Xy XV (χ.nx (χ.ln (HAan n q1 s)))) (Xy (HAam z m) s) λ_ h=>h.imp λ_ h=>⟨p.num_e C.f.n h0 D.down hi h.1,h.2⟩)) (Yf F (Xy (Qv HAap) (HAan n q1 s)) (Xy (HAam z m) s) λ_ h=>h.imp λ_ h=>⟨p.line_e C.f.n h0 h.1,h.2⟩)) λh0=>(YP F (.tuple #[]) (λ_:{y:(Nat×Nat)×Hp // (HAam z m) s.fd=.ok ((NN y.1.1 s y.1.2,B8 y.1.1 s m y.1.2),(χ.nds y.1.1 y.1.2 s).fd)/\(χ.nds y.1.1 y.1.2 s).In M/\y.1.2<=4001/\∀j,j<y.1.2->okP (Hz y.1.1 s j).sum/\okN (Hz y.1.1 s j).ο}=>Value.tuple #[]) (Qj (Qh g 69 (χ.cs (HAan n q1 s) (sH m n q1 s z)) M) (Qx 54 6 q1.1 (bj n s) q1.2.1 q1.2.2)) (λy:{y:(Nat×Nat)×Hp // (HAam z m) s.fd=.ok ((NN y.1.1 s y.1.2,B8 y.1.1 s m y.1.2),(χ.nds y.1.1 y.1.2 s).fd)/\(χ.nds y.1.1 y.1.2 s).In M/\y.1.2<=4001/\∀j,j<y.1.2->okP (Hz y.1.1 s j).sum/\okN (Hz y.1.1 s j).ο}=>Qh g 69 (χ.cs (χ.nds y.1.1.1 y.1.1.2 s) (PC.l (z.N (Ω y.1.2.1 y.1.1.2 y.1.2.2)) (B8 y.1.1.1 s m y.1.1.2))) (Qj M (Qx 54 6 y.1.1.2 (bj y.1.1.1 s) y.1.2.1 y.1.2.2))) ⟨((n,q1.1),q1.2),p.fin C.f.n h0,p.i,p.lt C.f.n,p.o⟩ rfl λ_ _ _ h=>Vw AO h)) λF=>x5
def Ke(s:χ):Nm:=Q0 s.ln.nx
def χ.l2(s:χ):χ:=s.ln.nx.nx
def Kd(b:Bool)(s:χ):Nm:=bif b then Q0 s.l2.ln.nx else nm0
def DT(b:Bool)(s:χ):Int:=Xs (Qg (χ.nx (χ.ln (bif b then s.l2.l2 else s.l2))).l 0).s
def Ya(b:Bool)(s:χ):χ:=χ.l2 (bif b then s.l2.l2 else s.l2)
def PC.T(x:PC)(e d:Nm)(u:Int):PC:=⟨x.k,x.v,x.b,x.s,x.p,x.r,e,d,u,x.c⟩
section
variable{k:Int}{t t2 t3:FD}{z:Int}{a:Int}{n:Nm}
theorem Qet(hk:(k==4)=true)(h:Qv [Xh] t=.error z):(bif k==4 then bnd (Qv [Xh]) λ_=>XV else rtn nm0) t=.error z:=by grind[Xc]
theorem Qeu(hk:(k==4)=true)(h:Qv [Xh] t=.ok (a,t2))(b:XV t2=.error z):(bif k==4 then bnd (Qv [Xh]) λ_=>XV else rtn nm0) t=.error z:=by grind[QA]
theorem rz(hk:(k==4)=true)(h:Qv [Xh] t=.ok (a,t2))(b:XV t2=.ok (n,t3)):(bif k==4 then bnd (Qv [Xh]) λ_=>XV else rtn nm0) t=.ok (n,t3):=by grind[QA]
def rA(hk:(k==4)=false):(bif k==4 then bnd (Qv [Xh]) λ_=>XV else rtn nm0) t=.ok (nm0,t):=by rw[hk];rfl
end
section
variable{x:PC}{s:χ}{b:Bool}(hk:(x.k==4)=b)
include hk
theorem rC(h:K8 x.k s.fd=.ok ((Ke s,Kd b s,DT b s),(Ya b s).fd))(i:(Ya b s).In M)(a:okN (Ke s))(c:okN (Kd b s)):K8 x.k s.fd=.ok ((Ke s,Kd (x.k==4) s,DT (x.k==4) s),(Ya (x.k==4) s).fd)/\(Ya (x.k==4) s).In M/\okN (Ke s)/\okN (Kd (x.k==4) s):=by grind
theorem iQ{m:Bool}{X:y9}(h:(Qh g 69 (χ.cs (Ya b s) (PC.l (x.T (Ke s) (Kd b s) (DT b s)) m)) M).φ X S w):(Qh g 69 (χ.cs (Ya (x.k==4) s) (PC.l (x.T (Ke s) (Kd (x.k==4) s) (DT (x.k==4) s)) m)) M).φ X S w:=by subst hk;exact h
end
abbrev HAas(s:χ):=Q0 (χ.nx (χ.ln (χ.nx (χ.nx (χ.ln s)))))
abbrev HAat(s:χ):=(Qv (List.take 1 [Qy])) (χ.nx (χ.nx (χ.ln (χ.nx (χ.nx (χ.ln s)))))).fd=.ok ((Lib.idxOfS (List.take 1 [Qy]) (Qg (χ.ln (χ.nx (χ.nx (χ.ln (χ.nx (χ.nx (χ.ln s))))))).l 0).s),(χ.nx (χ.ln (χ.nx (χ.nx (χ.ln (χ.nx (χ.nx (χ.ln s)))))))).fd)
abbrev HAau(s:χ):=(QQ 999999999) (χ.nx (χ.ln (χ.nx (χ.nx (χ.ln (χ.nx (χ.nx (χ.ln s)))))))).fd=.ok ((Xs (Qg (χ.nx (χ.ln (χ.nx (χ.nx (χ.ln (χ.nx (χ.nx (χ.ln s)))))))).l 0).s),(χ.nx (χ.nx (χ.ln (χ.nx (χ.nx (χ.ln (χ.nx (χ.nx (χ.ln s))))))))).fd)
abbrev HAav(s:χ):=(Qv (List.take 1 [Xh])) (χ.nx (χ.nx (χ.ln s))).fd=.ok ((Lib.idxOfS (List.take 1 [Xh]) (Qg (χ.ln (χ.nx (χ.nx (χ.ln s)))).l 0).s),(χ.nx (χ.ln (χ.nx (χ.nx (χ.ln s))))).fd)
abbrev HAaw(s:χ):=(Qv (List.take 1 [Qy])) (χ.nx (χ.nx (χ.ln s))).fd=.ok ((Lib.idxOfS (List.take 1 [Qy]) (Qg (χ.ln (χ.nx (χ.nx (χ.ln s)))).l 0).s),(χ.nx (χ.ln (χ.nx (χ.nx (χ.ln s))))).fd)
abbrev HAax(s:χ):=(QQ 999999999) (χ.nx (χ.ln (χ.nx (χ.nx (χ.ln s))))).fd=.ok ((Xs (Qg (χ.nx (χ.ln (χ.nx (χ.nx (χ.ln s))))).l 0).s),(χ.nx (χ.nx (χ.ln (χ.nx (χ.nx (χ.ln s)))))).fd)
abbrev HAay(s:χ):=Q0 (χ.nx (χ.ln s))
abbrev HAaz(s:χ):=Xs (Qg (χ.nx (χ.ln (χ.nx (χ.nx (χ.ln (χ.nx (χ.nx (χ.ln s)))))))).l 0).s
abbrev HAaA(s:χ):=XV (χ.nx (χ.ln (χ.nx (χ.nx (χ.ln s))))).fd=.ok ((HAas s),(χ.nx (χ.nx (χ.ln (χ.nx (χ.nx (χ.ln s)))))).fd)
abbrev HAaB(x:PC)(s:χ)(M:Res):=K8 x.k s.fd=.ok ((Ke s,Kd (x.k==4) s,DT (x.k==4) s),(Ya (x.k==4) s).fd)/\(Ya (x.k==4) s).In M/\okN (Ke s)/\okN (Kd (x.k==4) s)
abbrev HAaC(s:χ):=(Qv (List.take 1 [Zh])) s.fd=.ok ((Lib.idxOfS (List.take 1 [Zh]) (Qg (χ.ln s).l 0).s),(χ.nx (χ.ln s)).fd)
abbrev HAaD(s:χ):=Xs (Qg (χ.nx (χ.ln (χ.nx (χ.nx (χ.ln s))))).l 0).s
abbrev HAaE(s:χ)(x:PC)(m:Bool):=χ.cs (χ.nx (χ.nx (χ.ln (χ.nx (χ.nx (χ.ln s)))))) (PC.l (x.T (HAay s) nm0 0) m)
abbrev HAaF(s:χ):=XV (χ.nx (χ.ln s)).fd=.ok ((HAay s),(χ.nx (χ.nx (χ.ln s))).fd)
abbrev HAaG(x:PC)(s:χ)(m:Bool):=PC.l (x.T (HAay s) nm0 0) m
abbrev HAaH(x:PC)(s:χ)(m:Bool):=PC.l (x.T (HAay s) (HAas s) 0) m
abbrev HAaI(s:χ)(x:PC)(m:Bool):=χ.cs (χ.nx (χ.nx (χ.ln (χ.nx (χ.nx (χ.ln (χ.nx (χ.nx (χ.ln s))))))))) (PC.l (x.T (HAay s) (HAas s) (HAaz s)) m)
abbrev HAaJ:=List.take 1 [Qy]
abbrev HAaK(s:χ)(x:PC)(m:Bool):=χ.cs (χ.nx (χ.nx (χ.ln (χ.nx (χ.nx (χ.ln (χ.nx (χ.nx (χ.ln s))))))))) (HAaH x s m)
abbrev HAaL(s:χ)(x:PC)(m:Bool):=χ.cs (χ.nx (χ.nx (χ.ln (χ.nx (χ.nx (χ.ln s)))))) (PC.l (x.T (HAay s) nm0 (HAaD s)) m)
abbrev HAaM(x:PC)(m:Bool):=PC.l (x.T nm0 nm0 0) m
abbrev HAaN(x:PC)(s:χ)(m:Bool):=χ.cs (Ya (x.k==4) s) (PC.l (x.T (Ke s) (Kd (x.k==4) s) (DT (x.k==4) s)) m)
abbrev HAaO(s:χ):o3:=[.bool ((HAay s).b),.string ((HAay s).s),.int .i64 ((HAay s).e)]
abbrev HAaP(s:χ):o3:=[.bool ((HAas s).b),.string ((HAas s).s),.int .i64 ((HAas s).e)]
abbrev HAaQ:=List.take 1 [Zh]
abbrev HAaR:=List.take 1 [Xh]
def Qev(g:Nat)(M:Res)(s:χ)(i:s.In M)(x:PC)(m:Bool)(W:m0)(B:QV W):FxF prog W (Qh g 69 (χ.cs s (PC.l (x.T nm0 nm0 0) m)) M) 78 #[x02 g] (λ_:PLift (K8 x.k s.fd=.ok ((Ke s,Kd (x.k==4) s,DT (x.k==4) s),(Ya (x.k==4) s).fd)/\(Ya (x.k==4) s).In M/\okN (Ke s)/\okN (Kd (x.k==4) s))=>Value.tuple #[]) (λ_:PLift (K8 x.k s.fd=.ok ((Ke s,Kd (x.k==4) s,DT (x.k==4) s),(Ya (x.k==4) s).fd)/\(Ya (x.k==4) s).In M/\okN (Ke s)/\okN (Kd (x.k==4) s))=>Qh g 69 (χ.cs (Ya (x.k==4) s) (PC.l (x.T (Ke s) (Kd (x.k==4) s) (DT (x.k==4) s)) m)) M) (Xy (K8 x.k) s) :=
 VC Qm QU (λa w=>call78 a w) func78 ntmps78 results78 _ rfl _ _ _ _ [x07 0 4 0 (Xy (Qv HAaQ) s) (λ(d:PLift (HAaC s))=>(Θ (Lib.idxOfS HAaQ (Qg (χ.ln s).l 0).s),Qh g 69 (χ.cs (χ.nx (χ.ln s)) (HAaM x m)) M,[x07 1 4 0 (Xy XV (χ.nx (χ.ln s))) (λ(j:PLift (HAaF s))=>(nA (HAay s),Qh g 69 (χ.cs (χ.nx (χ.nx (χ.ln s))) (HAaM x m)) M,[x08 1 8 0 (λ(z:Unit)=>(undef,Qh g 69 (χ.cs (χ.nx (χ.nx (χ.ln s))) (HAaG x s m)) M,[x06 2 4 [0] (Θ x.k),.both [x07 3 4 0 (Xy (Qv HAaR) (χ.nx (χ.nx (χ.ln s)))) (λ(f:PLift (HAav s))=>(Θ (Lib.idxOfS HAaR (Qg (χ.ln (χ.nx (χ.nx (χ.ln s)))).l 0).s),Qh g 69 (χ.cs (χ.nx (χ.ln (χ.nx (χ.nx (χ.ln s))))) (HAaG x s m)) M,[x07 4 4 0 (Xy XV (χ.nx (χ.ln (χ.nx (χ.nx (χ.ln s)))))) (λ(p:PLift (HAaA s))=>(nA (HAas s),Qh g 69 (HAaE s x m) M,[x08 4 8 0 (λ(q:Unit)=>(undef,Qh g 69 (χ.cs (χ.nx (χ.nx (χ.ln (χ.nx (χ.nx (χ.ln s)))))) (HAaH x s m)) M,[x07 5 4 0 (Xy (Qv HAaJ) (χ.nx (χ.nx (χ.ln (χ.nx (χ.nx (χ.ln s))))))) (λ(r:PLift (HAat s))=>(Θ (Lib.idxOfS HAaJ (Qg (χ.ln (χ.nx (χ.nx (χ.ln (χ.nx (χ.nx (χ.ln s))))))).l 0).s),Qh g 69 (χ.cs (χ.nx (χ.ln (χ.nx (χ.nx (χ.ln (χ.nx (χ.nx (χ.ln s)))))))) (HAaH x s m)) M,[x07 6 4 0 (Xy (QQ 999999999) (χ.nx (χ.ln (χ.nx (χ.nx (χ.ln (χ.nx (χ.nx (χ.ln s))))))))) (λ(y:PLift (HAau s))=>(Θ (HAaz s),Qh g 69 (HAaK s x m) M,[x08 6 8 0 (λ(A:Unit)=>(undef,Qh g 69 (HAaI s x m) M,[]))]))]))]))]))]))] [x07 5 4 0 (Xy (Qv HAaJ) (χ.nx (χ.nx (χ.ln s)))) (λ(f:PLift (HAaw s))=>(Θ (Lib.idxOfS HAaJ (Qg (χ.ln (χ.nx (χ.nx (χ.ln s)))).l 0).s),Qh g 69 (χ.cs (χ.nx (χ.ln (χ.nx (χ.nx (χ.ln s))))) (HAaG x s m)) M,[x07 6 4 0 (Xy (QQ 999999999) (χ.nx (χ.ln (χ.nx (χ.nx (χ.ln s)))))) (λ(p:PLift (HAax s))=>(Θ (HAaD s),Qh g 69 (HAaE s x m) M,[x08 6 8 0 (λ(q:Unit)=>(undef,Qh g 69 (HAaL s x m) M,[]))]))]))]]))]))]))] (λF=>ai (Bb g M s (HAaM x m) i 9 ([Zh]) 1 1 x4 x4 W)<|ai (λ(d:PLift (HAaC s))=>ai (Af g M (χ.nx (χ.ln s)) (HAaM x m) (i.ln (QZ d.down)).nx W B)<|ai (λ(j:PLift (HAaF s))=>ai (YN W prog g 69 (χ.cs (χ.nx (χ.nx (χ.ln s))) (HAaM x m)) M 32 (HAaO s) 10 (nA (HAay s)) (Qm 32 _ rfl) rfl rfl (L8 rfl) (Lg.1 (rfl:((HAaO s):o3).all (λu=>u.oneCell')=true))) λ(z:Unit)=>ai (Q2 (w0:=W) (g:=g) (t:=69) (cs:=(χ.cs (χ.nx (χ.nx (χ.ln s))) (HAaG x s m))) (M:=M) (λC D=>Ze C 4 D rfl))<|Xi (x.k==4) (λhk=>ai (Bb g M (χ.nx (χ.nx (χ.ln s))) (HAaG x s m) (i.ln (QZ d.down)).nx.nx 9 ([Xh]) 1 1 x4 x4 W)<|ai (λ(f:PLift (HAav s))=>ai (Af g M (χ.nx (χ.ln (χ.nx (χ.nx (χ.ln s))))) (HAaG x s m) ((i.ln (QZ d.down)).nx.nx.ln (QZ f.down)).nx W B)<|ai (λ(p:PLift (HAaA s))=>ai (YN W prog g 69 (HAaE s x m) M 32 (HAaP s) 13 (nA (HAas s)) (Qm 32 _ rfl) rfl rfl (L8 rfl) (Lg.1 (rfl:((HAaP s):o3).all (λu=>u.oneCell')=true))) λ(q:Unit)=>ai (Bb g M (χ.nx (χ.nx (χ.ln (χ.nx (χ.nx (χ.ln s)))))) (HAaH x s m) ((i.ln (QZ d.down)).nx.nx.ln (QZ f.down)).nx.nx 9 ([Qy]) 1 1 x4 x4 W)<|ai (λ(r:PLift (HAat s))=>ai (Ia g M (χ.nx (χ.ln (χ.nx (χ.nx (χ.ln (χ.nx (χ.nx (χ.ln s)))))))) (HAaH x s m) (((i.ln (QZ d.down)).nx.nx.ln (QZ f.down)).nx.nx.ln (QZ r.down)).nx 999999999 W)<|ai (λ(y:PLift (HAau s))=>ai (YN W prog g 69 (HAaK s x m) M 3 ([Θ (HAaz s)]) 16 (Θ (HAaz s)) (Qm 3 _ rfl) rfl rfl (L8 rfl) (Lg.1 (rfl:([Θ (HAaz s)]:o3).all (λu=>u.oneCell')=true))) λ(A:Unit)=>(YP F (.tuple #[]) (λ_:PLift (HAaB x s M)=>Value.tuple #[]) (Qh g 69 (HAaI s x m) M) (λ_:PLift (HAaB x s M)=>Qh g 69 (HAaN x s m) M) ⟨rC hk ((QA d.down).trans ((QA j.down).trans ((QA (rz hk f.down p.down)).trans ((QA r.down).trans (QA y.down))))) (((i.ln (QZ d.down)).nx.nx.ln (QZ f.down)).nx.nx.ln (QZ r.down)).nx.nx (MN (i.ln (QZ d.down)).nx) (MN ((i.ln (QZ d.down)).nx.nx.ln (QZ f.down)).nx)⟩ rfl λ_ _ _ h=>iQ hk h)) (Yf F (Xy (QQ 999999999) (χ.nx (χ.ln (χ.nx (χ.nx (χ.ln (χ.nx (χ.nx (χ.ln s))))))))) (Xy (K8 x.k) s) λ_ h=>h.imp λ_ h=>⟨(QA d.down).trans ((QA j.down).trans ((QA (rz hk f.down p.down)).trans ((QA r.down).trans (Xc h.1)))),h.2⟩)) (Yf F (Xy (Qv HAaJ) (χ.nx (χ.nx (χ.ln (χ.nx (χ.nx (χ.ln s))))))) (Xy (K8 x.k) s) λ_ h=>h.imp λ_ h=>⟨(QA d.down).trans ((QA j.down).trans ((QA (rz hk f.down p.down)).trans (Xc h.1))),h.2⟩)) (Yf F (Xy XV (χ.nx (χ.ln (χ.nx (χ.nx (χ.ln s)))))) (Xy (K8 x.k) s) λ_ h=>h.imp λ_ h=>⟨(QA d.down).trans ((QA j.down).trans (Xc (Qeu hk f.down h.1))),h.2⟩)) (Yf F (Xy (Qv HAaR) (χ.nx (χ.nx (χ.ln s)))) (Xy (K8 x.k) s) λ_ h=>h.imp λ_ h=>⟨(QA d.down).trans ((QA j.down).trans (Xc (Qet hk h.1))),h.2⟩)) λhk=>ai (Bb g M (χ.nx (χ.nx (χ.ln s))) (HAaG x s m) (i.ln (QZ d.down)).nx.nx 9 ([Qy]) 1 1 x4 x4 W)<|ai (λ(f:PLift (HAaw s))=>ai (Ia g M (χ.nx (χ.ln (χ.nx (χ.nx (χ.ln s))))) (HAaG x s m) ((i.ln (QZ d.down)).nx.nx.ln (QZ f.down)).nx 999999999 W)<|ai (λ(p:PLift (HAax s))=>ai (YN W prog g 69 (HAaE s x m) M 3 ([Θ (HAaD s)]) 16 (Θ (HAaD s)) (Qm 3 _ rfl) rfl rfl (L8 rfl) (Lg.1 (rfl:([Θ (HAaD s)]:o3).all (λu=>u.oneCell')=true))) λ(q:Unit)=>(YP F (.tuple #[]) (λ_:PLift (HAaB x s M)=>Value.tuple #[]) (Qh g 69 (HAaL s x m) M) (λ_:PLift (HAaB x s M)=>Qh g 69 (HAaN x s m) M) ⟨rC hk ((QA d.down).trans ((QA j.down).trans ((QA (rA hk)).trans ((QA f.down).trans (QA p.down))))) ((i.ln (QZ d.down)).nx.nx.ln (QZ f.down)).nx.nx (MN (i.ln (QZ d.down)).nx) WL⟩ rfl λ_ _ _ h=>iQ hk h)) (Yf F (Xy (QQ 999999999) (χ.nx (χ.ln (χ.nx (χ.nx (χ.ln s)))))) (Xy (K8 x.k) s) λ_ h=>h.imp λ_ h=>⟨(QA d.down).trans ((QA j.down).trans ((QA (rA hk)).trans ((QA f.down).trans (Xc h.1)))),h.2⟩)) (Yf F (Xy (Qv HAaJ) (χ.nx (χ.nx (χ.ln s)))) (Xy (K8 x.k) s) λ_ h=>h.imp λ_ h=>⟨(QA d.down).trans ((QA j.down).trans ((QA (rA hk)).trans (Xc h.1))),h.2⟩)) (Yf F (Xy XV (χ.nx (χ.ln s))) (Xy (K8 x.k) s) λ_ h=>h.imp λ_ h=>⟨(QA d.down).trans (Xc h.1),h.2⟩)) (Yf F (Xy (Qv HAaQ) s) (Xy (K8 x.k) s) λ_ h=>h.imp λ_ h=>⟨Xc h.1,h.2⟩)) λF=>x5
def Sy(M:Res)(Q:m0->Prop):Prop:=∀(x:y9) (S:Nat->Prop) (w:m0),M.φ x S w->Q w
def Up(M a:Res):Prop:=∀(x:y9) (S:Nat->Prop) (w:m0),a.φ x S w->∃b c,M.φ b c w
def Up.refl(M:Res):Up M M:=λ_ _ _ h=>⟨_,_,h⟩
def Up.trans{A B C:Res}(h:Up A B)(k:Up B C):Up A C:=λ_ _ _ a=>by
 let⟨_,_,b⟩:=k _ _ _ a;exact h _ _ _ b
theorem Up.pair(M N:Res):Up M (Qj M N):=λ_ _ _ a=>by
 let⟨b,_,_,c,_⟩:=(show ∃b d e,_ from a)
 grind
theorem Up.snd(M N:Res):Up N (Qj M N):=λ_ _ _ a=>by
 let⟨_,b,c,_,d,_⟩:=(show ∃e b c,_ from a)
 grind
def Sy.up{a:Res}{Q:m0->Prop}(h:Sy M Q)(b:Up M a):Sy a Q:=λx S w c=>by
 let⟨_,_,d⟩:=b x S w c;exact h _ _ _ d
def χ.In.up{a:Res}(h:s.In M)(b:Up M a):s.In a:=⟨Sy.up (Q:=s.ok) h.ok b,h.f,h.ca,h.na⟩
def FxF.to{γ:Type}{P:z4}{b:Res}{f:FuncId}{args:x0g}{val:β->y9}{R:β->Res}{c:y9->Prop}{a:γ->y9}{d:γ->Res}(h:FxF P w0 b f args val R c)(k:β->γ)(g:∀y,val y=a (k y))(i:∀y (x:y9) (S:Nat->Prop) (w:m0),(R y).φ x S w->(d (k y)).φ x S w):FxF P w0 b f args a d c :=
 ⟨h.1,λW j x S l m=>(h.2 W j x S l m).mono λe r n=>n.imp (λ⟨y,o,e1,e2,p,q⟩=>⟨k y,o,by rw[e1,g],e2,i y _ _ _ p,q⟩) id⟩
def QbT{e m:Nat}{c:α->o3}{l:List α}{A:m3}(b:∀x,(c x).length=m)(d:α):Sy (Qc e m c l A a) λw=>SlV 0 m (λ_ x cs=>cs=c x) w l (.slice A l.length a):=λ_ _ _ h=>im b d h λ_ _=>L7 _
structure DmY where
 t:χ
 A1:Option Addr
 c1:Nat
 bx:List (Nm×Nm)
 A2:Option Addr
 c2:Nat
 κ:List (List Nm)
 M':Res
structure DmY.Ok (y:DmY) (δ:Int) (v:Nat) (s:χ) (M:Res):Prop where
 e:Ko δ v s.fd=.ok ((y.bx,y.κ),y.t.fd)
 i:y.t.In y.M'
 u:Up M y.M'
 b:Sy y.M' λw=>SlV 0 6 yN w y.bx (.slice y.A1 y.bx.length y.c1)
 s:Sy y.M' λw=>SlV 0 1 (kz 0) w y.κ (.slice y.A2 y.κ.length y.c2)
 n1:y.bx.length<=v
 n2:y.κ.length<=v+1
 o1:∀x,x∈y.bx->okN x.1/\okN x.2
 o2:∀p,p∈y.κ->p.length<=v/\∀x,x∈p->okN x
def gN(h:s.In M){n:Nat}:∀x,x∈Xn s n->okN x:=λx a=>by
 obtain⟨j,_,rfl⟩:=Lv.1 a;exact MN (h.nxs j)
theorem gH{l:List Nm}(h:∀x,x∈l->okN x)(k:Nat):okN (Xm l k):=by
 grind[Xm,WL]
variable{δ:Int}
def tH(h:s.In M)(hl:0<s.ls.length):∀x,x∈K5 δ v s->okN x.1/\okN x.2:=λx a=>by
 unfold K5 at a;cases e:BD δ s with
 |true=>rw[e]at a;cases a
 |false =>
  rw[e]at a;obtain⟨j,_,rfl⟩:=Lv.1 (show x∈(List.range v).map (bxA s.ln.nx)from a);have b:=gN (n:=2) ((h.ln hl).nx.sps 2 j);exact⟨gH b 0,gH b 1⟩
def tJ(h:s.In M)(hl:0<s.ls.length):∀p,p∈Je δ v s->p.length<=v/\∀x,x∈p->okN x:=λp a=>by
 unfold Je at a;cases e:BD δ s with
 |false=>rw[e]at a;cases a
 |true =>
  rw[e]at a;obtain⟨j,_,rfl⟩:=Lv.1 (show p∈(List.range (v+1)).map (sE v s.ln.nx)from a);exact⟨Su (GF _ _),gN ((h.ln hl).nx.sps v j)⟩
def bT{a:(List (Nm×Nm)×List (List Nm))×FD}(h:Ko δ v s.fd=.ok a):0<s.ls.length:=by
 cases e:Qv (GO δ) s.fd with
 |error z=>unfold Ko at h;rw[Xc e]at h;cases h
 |ok x=>exact QZ e
theorem mC(δ:Int)(v:Nat)(s:χ):(K5 δ v s).length<=v:=by
 grind[K5,fk]
theorem mD(δ:Int)(v:Nat)(s:χ):(Je δ v s).length<=v+1:=by
 grind[Je,MW]
theorem tI(h:j<(Je δ v s).length):(Je δ v s)[j]=sE v s.ln.nx j:=by
 grind[Je,BL]
def sy_pts{A:m3}{c:Nat}:Sy (Qx 57 1 (Je δ v s).length (Cw v s) A c) λw=>SlV 0 1 (kz 0) w (Je δ v s) (.slice A (Je δ v s).length c):=λ_ _ _ h =>
 bu Xx nm0 rfl h (λ_ _=>L7 _) λj a b d=>⟨b,rfl,by rw[tI a];exact d⟩
def mH(g:Nat)(M:Res)(s:χ)(a:s.In M)(x:PC)(v:Nat)(m:Bool)(b:v<=200)(W:m0)(c:QV W):FxF prog W (Qh g 69 (χ.cs s (PC.l (x.D v (.slice none 0 0) (.slice none 0 0)) m)) M) 74 #[.pointer (some ⟨g,0,none⟩)] (λ_:{y:DmY // y.Ok x.k v s M}=>Value.tuple #[])
  (λy:{y:DmY // y.Ok x.k v s M}=>Qh g 69 (χ.cs y.1.t (PC.l (x.D v (.slice y.1.A1 y.1.bx.length y.1.c1) (.slice y.1.A2 y.1.κ.length y.1.c2)) m)) y.1.M') (Xy (Ko x.k v) s) :=
 (mI a b W c).to (λy=>⟨⟨s.dom x.k v,y.1.1.1,y.1.1.2,K5 x.k v s,y.1.2.1,y.1.2.2,Je x.k v s,Qj (Qj M (Qc 76 6 JR (K5 x.k v s) y.1.1.1 y.1.1.2)) (Qx 57 1 (Je x.k v s).length (Cw v s) y.1.2.1 y.1.2.2)⟩,
  ⟨y.2,(a.dom (bT y.2) x.k v).up ((Up.pair _ _).trans (Up.pair _ _)),(Up.pair _ _).trans (Up.pair _ _),((QbT iy (nm0,nm0)).up (Up.snd _ _)).up (Up.pair _ _),sy_pts.up (Up.snd _ _),mC _ _ _,mD _ _ _,tH a (bT y.2),tJ a (bT y.2)⟩⟩) (λ_=>rfl) λ_ _ _ _ h=>h
structure NdY where
 t:χ
 A:Option Addr
 c:Nat
 l:List Nd
 m:Bool
 M':Res
structure NdY.Ok (y:NdY) (z:NX) (m:Bool) (s:χ) (M:Res):Prop where
 e:XJ (Gp z.nb z.ns) 70000 1 [] m s.fd=.ok ((y.l,y.m),y.t.fd)
 i:y.t.In y.M'
 u:Up M y.M'
 c:Sy y.M' λw=>SlV 0 6 (lu 0) w y.l (.slice y.A y.l.length y.c)
 n:y.l.length<=4001
 o:∀p,p∈y.l->okP p.sum/\okN p.ο
theorem Ip(n:Nat)(s:χ)(k:Nat):(NN n s k).length=k:=by simp[NN]
def sy_nds{n:Nat}{A:m3}{c:Nat}:Sy (Qx 54 6 k (bj n s) A c) λw=>SlV 0 6 (lu 0) w (NN n s k) (.slice A (NN n s k).length c):=λ_ _ w h=>by
 rw[Ip];exact bu Q4 Bp (Ip n s k).symm h (λ_ _=>L7 _) λj d a b=>by
  have e:(NN n s k)[j]=Hz n s j:=by simp only[NN,List.getElem_map,Tw]
  rw[e];exact⟨a,rfl,b⟩
theorem uP{t n:Nat}{A:m3}{c:Nat}{u:χ}{m:Bool}{X:y9}(h:(Qh g t (χ.cs u (PC.l (z.N (.slice A k c)) m)) M).φ X S w):(Qh g t (χ.cs u (PC.l (z.N (.slice A (NN n s k).length c)) m)) M).φ X S w:=by
 grind[Ip]
def uT(g:Nat)(M:Res)(s:χ)(a:s.In M)(z:NX)(m:Bool)(hb:z.nb<=100)(b:z.ns<=200)(W:m0)(d:QV W):FxF prog W (Qh g 69 (χ.cs s (PC.l (z.N (.slice none 0 0)) m)) M) 77 #[.pointer (some ⟨g,0,none⟩)] (λ_:{y:NdY // y.Ok z m s M}=>Value.tuple #[])
  (λy:{y:NdY // y.Ok z m s M}=>Qh g 69 (χ.cs y.1.t (PC.l (z.N (.slice y.1.A y.1.l.length y.1.c)) y.1.m)) y.1.M') (Xy (XJ (Gp z.nb z.ns) 70000 1 [] m) s) :=
 (uU a hb b W d).to (λy=>⟨⟨χ.nds y.1.1.1 y.1.1.2 s,y.1.2.1,y.1.2.2,NN y.1.1.1 s y.1.1.2,B8 y.1.1.1 s m y.1.1.2,Qj M (Qx 54 6 y.1.1.2 (bj y.1.1.1 s) y.1.2.1 y.1.2.2)⟩,
  ⟨y.2.1,y.2.2.1.up (Up.pair _ _),Up.pair _ _,sy_nds.up (Up.snd _ _),(show(NN _ _ _).length<=4001 from(Ip _ _ _).symm▸y.2.2.2.1),λp e=>by obtain⟨j,f,rfl⟩:=Lv.1 (show p∈(List.range y.1.1.2).map (Hz y.1.1.1 s)from e);exact y.2.2.2.2 j (R7.1 f)⟩⟩) (λ_=>rfl) λ_ _ _ _ h=>uP h
abbrev gP(l:List Kn)(k:Nat):Kn:=List.getD l k XM
def YT(a:List Kn)(k:Nat):Nat:=((a.take k).map (λp:Kn=>p.1.ts.length)).sum
def Jc(a:List Kn)(k:Nat):List Nm:=(a.take k).flatMap λp=>p.1.ts.map (λt:Tm=>t.c)
def KD(x:Nm):Bool:=decide ((x.s.size:Int)>20)||decide (x.e < -200)||decide (x.e>200)
def Dm(nb c d e f:Nat)(b:List Kn)(l:List Nm)(a:List (List Nm)):Bool :=
 bif decide ((nb:Int)>6)then true else bif decide ((c:Int)>6)then true else bif decide (((d+e:Nat):Int)>20)then true else bif decide ((f:Int)>100)then true else
 bif XQ b.length (λi=>decide (((YT b (i+1):Nat):Int)>300))then true else bif XQ l.length (λi=>KD (List.getD l i nm0))then true else XQ a.length (λj=>decide ((((Qu a j).length:Nat):Int)>6))
variable{a:List Kn}
def la(h:k<a.length):YT a k+(gP a k).1.ts.length=YT a (k+1):=by
 unfold YT gP;rw[Rj h,Rv,List.sum_append,Yi h];simp
def lU(a:List Kn)(k:Nat):(Jc a k).length=YT a k:=by
 unfold Jc YT;rw[Tt];simp
def Pt(h:k<a.length):Jc a k++(gP a k).1.ts.map (λt:Tm=>t.c)=Jc a (k+1):=by
 unfold Jc gP;rw[Rj h,Sj,Yi h];simp
def IT(h:a.length<=k):Jc a k=a.flatMap λp=>p.1.ts.map (λt:Tm=>t.c):=by
 unfold Jc;rw[Rh h]
variable{a:List Nd}{b:Nat->m3}
def QbR{X:List Kn}{c:Nat->Nat}(h:k<a.length):(X++(K0 a b c).take k)++[((Qn a k).sum,b k,c k)]=X++(K0 a b c).take (k+1):=by
 have d:k<(K0 a b c).length:=by rw[DQ];exact h
 have e:=iE (Ua:=b) (Uc:=c) h;rw[Yi d]at e;rw[Rj d,e,Rl]
def iF{X:List Kn}{c:Nat->Nat}(h:a.length<=k):X++(K0 a b c).take k=X++K0 a b c:=by
 rw[Rh (by rw[DQ];exact h)]
def Qes{X Y:List Nm}{l:List Tm}(h:k<l.length):(X++(Y++(l.take k).map (λt:Tm=>t.c)))++[(Qb l k).c]=X++(Y++(l.take (k+1)).map (λt:Tm=>t.c)):=by
 rw[Rj h,Rv];unfold Qb;rw[Yi h];simp
variable{a:List (List Nm)}{b:List Nd}
def QdR(ν ε:Nm){bx:List (Nm×Nm)}(h:okL0 bx a b)(c:bx.length<=6)(d:a.length<=6)(e:b.length<=100):(Qk ν ε bx a b).length<=7340032:=by
 have k1:=BU (f:=λs:Nm×Nm=>[s.1,s.2]) (M:=2) (λ(x:Nm×Nm) (_:x∈bx)=>L4 _);have g:=BU (f:=λp:List Nm=>p) (M:=1048576) h.hp;have i:=BU (f:=λn:Nd=>[n.ο]) (M:=1) (λ(x:Nd) (_:x∈b)=>L4 _);unfold Qk;rw[La,La,La];simp only[Li,S9];omega
variable{ε:Nm}
def Qbd{ν:Nm}{bx:List (Nm×Nm)}(h:okL0 bx a b):(Qk ν ε bx a b).length<=1099514773506:=by
 have k1:=BU (f:=λs:Nm×Nm=>[s.1,s.2]) (M:=2) (λ(x:Nm×Nm) (_:x∈bx)=>L4 _);have c:=BU (f:=λp:List Nm=>p) (M:=1048576) h.hp;have d:=BU (f:=λn:Nd=>[n.ο]) (M:=1) (λ(x:Nd) (_:x∈b)=>L4 _);have e:=h.hb;have g:=h.hs;have i:=h.hc;unfold Qk;rw[La,La,La];simp only[Li,S9];omega
def Qex{a:List Kn}(h:∀x,x∈a->x.1.ts.length<=1048576)(d:a.length<=3145728)(k:Nat):YT a k<=3298534883328:=by
 have b:=BU (f:=λp:Kn=>p.1.ts) (M:=1048576) (l:=a.take k) (λx c=>h x (U5 c));unfold YT;rw[Tt]at b;have e:(a.take k).length<=a.length:=by rw[Ll];omega
 omega
def sN(a l2:List Kn)(b:List Nd)(c:Nat->m3)(d:Nat->Nat):(C4 a l2 b c d).length=a.length+l2.length+b.length:=by
 unfold C4;rw[La,La,DQ]
def Qb0(a l2:List Kn)(b:List Nd)(c:Nat->m3)(d:Nat->Nat)(k:Nat):((a++l2)++(K0 b c d).take k).length<=a.length+l2.length+b.length:=by
 rw[La,La,Ll,DQ];omega
def Fq{l:List α}{d:α}(h:j<l.length):List.getD l j d∈l:=by
 rw[Yi h];exact List.getElem_mem h
def Mx{a b:Nat}(h:decide ((a:Int)>(b:Int))=false):a<=b:=hA (L1 h)
def Qdm{ν:Nm}{bx:List (Nm×Nm)}{d:List Kn}{l:List Tm}(h:okL0 bx a b)(e:bx.length<=6)(f:a.length<=6)(g:b.length<=100)(i:j<l.length)(hl:l.length<=1048576)(m:YT d k<=3298534883328):((Qk ν ε bx a b)++(Jc d k++(l.take (j+1)).map (λt:Tm=>t.c))).length*32<=140737488355328:=by
 have k1:=QdR ν ε h e f g;rw[La,La,lU,Rg,Ll];omega
def Qb9{q:List Kn}{r:List Nm}(lo:Nat){Ab As Ac:m3}(Ap Ar:m3)(cb cs cc kp kr:Nat)(Us Ua:Nat->m3)(us Uc:Nat->Nat)(ν ε:Nm)(bx:List (Nm×Nm))(κ:List (List Nm))(ct:List Nd)(δ vars ζ:Int)(l1 l2:List Kn)(X:q=C4 l1 l2 ct Ua Uc)(Y:r=Qk ν ε bx κ ct)(I:okL0 bx κ ct)(bl:l1.length<=1048576)(bs:l2.length<=1048576)(ag:∀x,x∈q->x.1.ts.length<=1048576)(w:m0)(hb:RdK w Ab bx.length 6 (λj=>JR (QN bx j)))(hs:RdK w As κ.length 1 (yx κ Us us))(hp:∀j,j<κ.length->SlV lo 3 VT w (Qu κ j) (Ω (Us j) (Qu κ j).length (us j)))(hc:RdK w Ac ct.length 6 (be ct Ua Uc))(hq:(RdK w Ap l1.length 2 (λi=>Zn (l1.getD i XM))/\(Ap=none->l1.length=0/\kp=0)))(hu:(RdK w Ar l2.length 2 (λi=>Zn (l2.getD i XM))/\(Ar=none->l2.length=0/\kr=0)))(hx:∀x,x∈q->RdK w x.2.1 x.1.ts.length 4 (λj=>QK (Qb x.1.ts j))):RetAt prog w 5 #[tA δ vars Ab bx.length cb As κ.length cs Ap l1.length kp Ar l2.length kr ν ε ζ Ac ct.length cc] (Ξ (Dm bx.length κ.length l1.length l2.length ct.length q (r++(q).flatMap λp=>p.1.ts.map (λt:Tm=>t.c)) κ)):=by
 have al:(q).length=l1.length+l2.length+ct.length:=by rw[X];exact sN l1 l2 ct Ua Uc
 have bd:(q).length<=3145728:=hA I.hc;have Z:∀k,YT q k<=3298534883328:=Qex ag bd;have ao:∀k,k<(q).length->(gP q k).1.ts.length<=1048576:=λk hk=>ag _ (Fq hk)
 have bi:∀k,(r++Jc q k).length<=4611686018427387000:=λk=>by rw[La,lU];have:=Z k;have:r.length<=1099514773506:=(by rw[Y];exact Qbd I);omega
 exact let T:OB:=some (35,(tS δ vars Ab bx.length cb As κ.length cs Ap l1.length kp Ar l2.length kr ν ε ζ Ac ct.length cc));have U:=eB (Dm bx.length κ.length l1.length l2.length ct.length q (r++(q).flatMap λp=>p.1.ts.map (λt:Tm=>t.c)) κ);rk [.gb 1 6 [.gb 1 13 [x05 1 19 (iV ((l1.length+l2.length:Nat):Int)),.gb 1 23 [.both [] [x09 3 1 [] (λ(E:Hp)=>(Ω E.1 (r).length E.2,Qc 32 3 Xk r E.1 E.2,[.reg 6 [],.o 4 3 (.nb (.han 4) (λ(y:Hp)=>Ω y.1 (l1).length y.2) (λ(y:Hp)=>Zx 52 2 Zn l1 y.1 y.2)),.opn 4 6 4 (λ(V:Hp)=>Ω V.1 (l1).length V.2) (λ(V:Hp)=>Zx 52 2 Zn l1 V.1 V.2) (λ(V:Hp)=>[x08 4 6 4 (λ(L:Hp)=>(Ω L.1 (l1++l2).length L.2,Zx 52 2 Zn (l1++l2) L.1 L.2,[B2 (λ(q1:Nat×Hp)=>(⟨148,[(1,.ptr 0 0),(2,bV false),(3,lV E.1 (r).length E.2),(4,lV q1.2.1 ((l1++l2)++(K0 ct Ua Uc).take q1.1).length q1.2.2),(5,iV (q1.1:Int))],[none],[none,none,none,none,some (Zx 52 2 Zn ((l1++l2)++(K0 ct Ua Uc).take q1.1) q1.2.1 q1.2.2),none,none]⟩:St)) ct.length ((0,L):Nat×Hp) (λ(q1:Nat×Hp)=>[.both [x03 8 4 (.pointer (some (Q5 Ac (q1.1*6+0)))),x03 8 6 (.agg #[Θ ((Qn ct q1.1).sum.vars),Ω (Ua q1.1) (Qn ct q1.1).sum.ts.length (Uc q1.1)]),x08 8 8 4 (λ(C:Hp)=>(Ω C.1 ((l1++l2)++(K0 ct Ua Uc).take (q1.1+1)).length C.2,Zx 52 2 Zn ((l1++l2)++(K0 ct Ua Uc).take (q1.1+1)) C.1 C.2,[x05 7 1 (iV ((q1.1+1:Nat):Int)),.nxt [C]]))] [x0a ((0,E):Nat×Hp) (λ(a:Nat×Hp) (u:List Hp)=>(a.1+1,u.headD (none,0))) (λ(a:Nat×Hp)=>((⟨148,[(1,.ptr 0 0),(2,bV false),(3,lV a.2.1 (r++Jc q a.1).length a.2.2),(4,lV q1.2.1 (q).length q1.2.2),(6,iV ((YT q a.1:Nat):Int)),(7,iV (a.1:Int))],[none],[some (Qc 32 3 Xk (r++Jc q a.1) a.2.1 a.2.2),none,none,none,some (Zx 52 2 Zn q q1.2.1 q1.2.2),none,none]⟩:St),(a.1<=(q).length/\∀j,j<a.1->decide (((YT q (j+1):Nat):Int)>300)=false),((q).length-a.1),[.both [x06 13 3 [4] (.pointer (some (Q5 q1.2.1 (a.1*2+0)))),x06 13 5 [4] (Ω (gP q a.1).2.1 (gP q a.1).1.ts.length (gP q a.1).2.2),x05 13 7 (iV ((YT q (a.1+1):Nat):Int)),.both [] [B2 (λ(z:Nat×Hp)=>(⟨148,[(1,.ptr 0 0),(2,bV false),(3,lV z.2.1 (r++(Jc q a.1++((gP q a.1).1.ts.take z.1).map (λt:Tm=>t.c))).length z.2.2),(4,lV q1.2.1 (q).length q1.2.2),(6,iV ((YT q (a.1+1):Nat):Int)),(7,iV (a.1:Int)),(8,iV (z.1:Int))],[none],[some (Qc 32 3 Xk (r++(Jc q a.1++((gP q a.1).1.ts.take z.1).map (λt:Tm=>t.c))) z.2.1 z.2.2),none,none,none,none,none,none]⟩:St)) ((gP q a.1).1.ts.length) ((0,a.2):Nat×Hp) (λ(z:Nat×Hp)=>[x06 17 3 [4] (.pointer (some (Q5 q1.2.1 (a.1*2+0)))),x06 17 5 [4] (Ω (gP q a.1).2.1 (gP q a.1).1.ts.length (gP q a.1).2.2),.both [x06 19 3 [4] (.pointer (some (Q5 q1.2.1 (a.1*2+0)))),x06 19 5 [4] (Ω (gP q a.1).2.1 (gP q a.1).1.ts.length (gP q a.1).2.2),x03 19 7 (.pointer (some (Q5 (gP q a.1).2.1 (z.1*4+0)))),x03 19 9 (nA ((Qb (gP q a.1).1.ts z.1).c)),x08 19 11 0 (λ(C:Hp)=>(Ω C.1 (r++(Jc q a.1++((gP q a.1).1.ts.take (z.1+1)).map (λt:Tm=>t.c))).length C.2,Qc 32 3 Xk (r++(Jc q a.1++((gP q a.1).1.ts.take (z.1+1)).map (λt:Tm=>t.c))) C.1 C.2,[x05 18 1 (iV ((z.1+1:Nat):Int)),.nxt [C]]))] [x05 12 1 (iV ((a.1+1:Nat):Int)),.nxt [z.2]]])]] [P5 (λ(F:Nat)=>(⟨148,[(1,.ptr 0 0),(2,bV false),(3,lV a.2.1 (r++Jc q a.1).length a.2.2),(9,iV (F:Int))],[none],[none,none,none,none,none,none,none]⟩:St)) ((r++Jc q a.1).length) (λj=>KD (List.getD (r++Jc q a.1) j nm0)) (λ(F:Nat)=>[.both [x06 23 2 [0] (.pointer (some (Q5 a.2.1 (F*3+0)))),x06 23 5 [0] (Ψ ((List.getD (r++Jc q a.1) F nm0).s)),.gb 23 9 [x06 23 11 [0] (.pointer (some (Q5 a.2.1 (F*3+0)))),x06 23 13 [0] (Θ ((List.getD (r++Jc q a.1) F nm0).e)),.gb 23 17 [x06 23 19 [0] (.pointer (some (Q5 a.2.1 (F*3+0)))),x06 23 21 [0] (Θ ((List.getD (r++Jc q a.1) F nm0).e)),.both [] [x05 22 1 (iV ((F+1:Nat):Int)),.next 0]] []] []] [P5 (λ(M:Nat)=>(⟨148,[(1,.ptr 0 0),(2,bV false),(10,iV (M:Int))],[none],[none,none,none,none,none,none,none]⟩:St)) κ.length (λj=>decide ((((Qu κ j).length:Nat):Int)>6)) (λ(M:Nat)=>[.both [x03 28 4 (.pointer (some (Q5 As (M*1+0)))),x03 28 5 (Ω (Us M) (Qu κ M).length (us M)),.both [] [x05 27 1 (iV ((M+1:Nat):Int)),.next 0]] []])]])]]))]])]))])]))]] []] []] []] λW hW hR=>have HB:=hb.up hW (λ_=>rfl);have HS:=hs.up hW (λ_=>rfl);(λ(HP:∀j,j<κ.length->SlV lo 3 VT W (Qu κ j) (Ω (Us j) (Qu κ j).length (us j)))=>have HC:=hc.up hW (λ_=>rfl);(λ(HQ:(RdK W Ap l1.length 2 (λi=>Zn (l1.getD i XM))/\(Ap=none->l1.length=0/\kp=0)))=>(λ(HU:(RdK W Ar l2.length 2 (λi=>Zn (l2.getD i XM))/\(Ar=none->l2.length=0/\kr=0)))=>(λ(HX:∀x,x∈q->RdK W x.2.1 x.1.ts.length 4 (λj=>QK (Qb x.1.ts j)))=>ZD (decide ((bx.length:Int)>6)) false (λP=>ZD (decide ((κ.length:Int)>6)) false (λQ=>ai (show IntKind.i64.wrap ((l1.length:Int)+(l2.length:Int))=((l1.length+l2.length:Nat):Int)from by rw[Le _ x3];omega)<|ZD (decide (((l1.length+l2.length:Nat):Int)>20)) false (λN=>Xi (decide ((ct.length:Int)>100)) (λR=>(U true (by unfold Dm;rw[P,Q,N,R];rfl))) λR=>ai (by have h:=pU lo cb cs cc (λj=>Ω (Us j) (Qu κ j).length (us j)) (λj=>Ω (Ua j) (Qn ct j).sum.ts.length (Uc j)) ν ε δ vars ζ Ap Ar l1.length kp l2.length kr I W HB HS HP HC;rw[<- Y]at h;exact h) λ(E:Hp)=>X0 (λ(D:m0) (ad:Below W.heap.size W D) (g:Nat) (_:Bx D g 52 #[])=>sP 28 Zn l1 Xg Zb EL (show l1.length*32<=140737488355328 from hA (L1 N)) (GM Zb x4 (d:=XM) (HQ.1.below (λ_=>rfl) ad) HQ.2) g) (show ∀y:Hp,(Ω y.1 (l1).length y.2:y9).oneCell'=true from λ_=>rfl)<|ai (show qg (HW (λ(y:Hp)=>Ω y.1 (l1).length y.2) (λ(y:Hp)=>Zx 52 2 Zn l1 y.1 y.2)) (λ(y:Hp)=>Ω y.1 (l1).length y.2) (λ(y:Hp)=>Zx 52 2 Zn l1 y.1 y.2)from Aw λy x x' S w hx h=>l5 hx h) λ(V:Hp)=>ai (tm W 28 Zn l1 l2 (l1++l2) V.1 V.2 (Ω Ar l2.length kr) Xg Zb EL rfl (show(l1++l2).length*32<=140737488355328 from by rw[La];have:=L1 N;omega) (λD ad=>GM Zb x4 (d:=XM) (HU.1.below (λ_=>rfl) ad) HU.2)) λ(L:Hp)=>GL (qB false) (qV (Ω E.1 (r).length E.2)) (show(Ω L.1 (l1++l2).length L.2:y9)=(Ω L.1 ((l1++l2)++(K0 ct Ua Uc).take 0).length L.2)from x6) (qI ((0:Nat):Int)) (qk T) (XR (Qc 32 3 Xk r E.1 E.2)) (Yq (Zx 52 2 Zn (l1++l2) L.1 L.2) (Zx 52 2 Zn ((l1++l2)++(K0 ct Ua Uc).take 0) L.1 L.2) λ_ _ _ h=>IU x6 h)<|ai (show 0<=ct.length from L7 _) λ(q1:Nat×Hp) (bX:(q1.1<=ct.length))=>Xi (decide ((q1.1:Int)<(ct.length:Int))) (λJ=>X0 (J4 cc HC q1.1 (Qt J)) (D8 HC q1.1 4 (Qt J) x4 rfl rfl)<|ai (tn W 28 52 1 1 Zn ((l1++l2)++(K0 ct Ua Uc).take q1.1) ([((Qn ct q1.1).sum,Ua q1.1,Uc q1.1)]) ((l1++l2)++(K0 ct Ua Uc).take (q1.1+1)) q1.2.1 q1.2.2 ([Θ ((Qn ct q1.1).sum.vars),Ω (Ua q1.1) (Qn ct q1.1).sum.ts.length (Uc q1.1)]) Xg Zb EL (QbR (Qt J)) (show((l1++l2)++(K0 ct Ua Uc).take (q1.1+1)).length*32<=140737488355328 from by have:=Qb0 l1 l2 ct Ua Uc (q1.1+1);have:=L1 N;have:=L1 R;omega) rfl rfl) λ(C:Hp)=>Yx (QD q1.1 (by have:=Qt J;have:=I.hb;have:=I.hs;have:=I.hc;omega)) (qB false) (qV (Ω E.1 (r).length E.2)) (qV (Ω C.1 ((l1++l2)++(K0 ct Ua Uc).take (q1.1+1)).length C.2)) (qI (((q1.1+1):Nat):Int)) (qk T) (XR (Qc 32 3 Xk r E.1 E.2)) (Yq (Zx 52 2 Zn ((l1++l2)++(K0 ct Ua Uc).take (q1.1+1)) C.1 C.2) (Zx 52 2 Zn ((l1++l2)++(K0 ct Ua Uc).take (q1.1+1)) C.1 C.2) λ_ _ _ h=>h)<|ai (show q1.1+1<=ct.length from Qt J) (show ct.length-(q1.1+1)<ct.length-q1.1 from hA (Qt J))) λJ=>Yx (qB false) (show(Ω E.1 (r).length E.2:y9)=(Ω E.1 (r++Jc q 0).length E.2)from(by simp[Jc])) (show(Ω q1.2.1 ((l1++l2)++(K0 ct Ua Uc).take q1.1).length q1.2.2:y9)=(Ω q1.2.1 (q).length q1.2.2)from(by rw[show((l1++l2)++(K0 ct Ua Uc).take q1.1)=q from(iF (geq J)).trans X.symm])) (qI ((YT q 0:Nat):Int)) (qI ((0:Nat):Int)) (qk T) (Yq (Qc 32 3 Xk r E.1 E.2) (Qc 32 3 Xk (r++Jc q 0) E.1 E.2) λ_ _ _ h=>XY (by simp[Jc]) (by simp[Jc]) h) (Yq (Zx 52 2 Zn ((l1++l2)++(K0 ct Ua Uc).take q1.1) q1.2.1 q1.2.2) (Zx 52 2 Zn q q1.2.1 q1.2.2) λ_ _ _ h=>IU (show((l1++l2)++(K0 ct Ua Uc).take q1.1)=q from(iF (geq J)).trans X.symm) h)<|ai (show(0<=(q).length/\∀j,j<0->decide (((YT q (j+1):Nat):Int)>300)=false)from⟨L7 _,λj hj=>absurd hj (R4 _)⟩) λ(a:Nat×Hp) (O:(a.1<=(q).length/\∀j,j<a.1->decide (((YT q (j+1):Nat):Int)>300)=false))=>Xi (decide ((a.1:Int)<(((q).length:Nat):Int))) (λv=>Ja (Ff W 52 2 Zn Zb q XM q1.2.1 q1.2.2 (λD G=>J5 q1.2.2 G a.1 (Qt v) (w0:=D))) (Ff W 52 2 Zn Zb q XM q1.2.1 q1.2.2 (λD G=>Ev D G a.1 1 (Qt v) x4 rfl)) (show IntKind.i64.wrap (((YT q a.1:Nat):Int)+(((gP q a.1).1.ts.length:Nat):Int))=((YT q (a.1+1):Nat):Int)from by have h1:=la (Qt v);have:=Z (a.1+1);rw[Le _ x3];omega)<|Xi (decide (((YT q (a.1+1):Nat):Int)>300)) (λz5=>(U true (by unfold Dm;rw[P,Q,N,R,ZG (f:=λi=>decide (((YT q (i+1):Nat):Int)>300)) (Qt v) z5];rfl))) λz5=>Yx (qB false) (show(Ω a.2.1 (r++Jc q a.1).length a.2.2:y9)=(Ω a.2.1 (r++(Jc q a.1++((gP q a.1).1.ts.take 0).map (λt:Tm=>t.c))).length a.2.2)from x6) (qV (Ω q1.2.1 (q).length q1.2.2)) (qI ((YT q (a.1+1):Nat):Int)) (qI (a.1:Int)) (qI ((0:Nat):Int)) (qk T) (Yq (Qc 32 3 Xk (r++Jc q a.1) a.2.1 a.2.2) (Qc 32 3 Xk (r++(Jc q a.1++((gP q a.1).1.ts.take 0).map (λt:Tm=>t.c))) a.2.1 a.2.2) λ_ _ _ h=>XY x6 x6 h)<|ai (XR (Zx 52 2 Zn q q1.2.1 q1.2.2))<|ai (show 0<=(gP q a.1).1.ts.length from L7 _) λ(z:Nat×Hp) (bY:(z.1<=(gP q a.1).1.ts.length))=>X0 (Ff W 52 2 Zn Zb q XM q1.2.1 q1.2.2 (λD G=>J5 q1.2.2 G a.1 (Qt v) (w0:=D))) (Ff W 52 2 Zn Zb q XM q1.2.1 q1.2.2 (λD G=>Ev D G a.1 1 (Qt v) x4 rfl))<|Xi (decide ((z.1:Int)<(((gP q a.1).1.ts.length:Nat):Int))) (λH=>Ky (Ff W 52 2 Zn Zb q XM q1.2.1 q1.2.2 (λD G=>J5 q1.2.2 G a.1 (Qt v) (w0:=D))) (Ff W 52 2 Zn Zb q XM q1.2.1 q1.2.2 (λD G=>Ev D G a.1 1 (Qt v) x4 rfl)) (Y0 ((gP q a.1).2.2) (HX _ (Fq (Qt v))) z.1 (Qt H)) (JW (HX _ (Fq (Qt v))) z.1 1 (Qt H) x4 rfl rfl)<|ai (YJ W 48 32 1 1 Xk (r++(Jc q a.1++((gP q a.1).1.ts.take z.1).map (λt:Tm=>t.c))) ([(Qb (gP q a.1).1.ts z.1).c]) (r++(Jc q a.1++((gP q a.1).1.ts.take (z.1+1)).map (λt:Tm=>t.c))) z.2.1 z.2.2 ([Ξ ((Qb (gP q a.1).1.ts z.1).c.b),Ψ ((Qb (gP q a.1).1.ts z.1).c.s),Θ ((Qb (gP q a.1).1.ts z.1).c.e)]) ZY Xx Gn (Qes (Qt H)) (show(r++(Jc q a.1++((gP q a.1).1.ts.take (z.1+1)).map (λt:Tm=>t.c))).length*32<=140737488355328 from by rw[Y];exact Qdm I (Mx P) (Mx Q) (Mx R) (Qt H) (ao _ (Qt v)) (Z _)) rfl rfl) λ(C:Hp)=>Yx (QD z.1 (k0 (Qt H) (ao _ (Qt v)))) (qB false) (qV (Ω C.1 (r++(Jc q a.1++((gP q a.1).1.ts.take (z.1+1)).map (λt:Tm=>t.c))).length C.2)) (qV (Ω q1.2.1 (q).length q1.2.2)) (qI ((YT q (a.1+1):Nat):Int)) (qI (a.1:Int)) (qI (((z.1+1):Nat):Int)) (qk T)<|X0 (Yq (Qc 32 3 Xk (r++(Jc q a.1++((gP q a.1).1.ts.take (z.1+1)).map (λt:Tm=>t.c))) C.1 C.2) (Qc 32 3 Xk (r++(Jc q a.1++((gP q a.1).1.ts.take (z.1+1)).map (λt:Tm=>t.c))) C.1 C.2) λ_ _ _ h=>h) (XR (Zx 52 2 Zn q q1.2.1 q1.2.2))<|ai (show z.1+1<=(gP q a.1).1.ts.length from Qt H) (show(gP q a.1).1.ts.length-(z.1+1)<(gP q a.1).1.ts.length-z.1 from hA (Qt H))) λH=>Yx (QD a.1 (by have:=Qt v;have:=al;have:=L1 N;have:=L1 R;omega)) (qB false) (show(Ω z.2.1 (r++(Jc q a.1++((gP q a.1).1.ts.take z.1).map (λt:Tm=>t.c))).length z.2.2:y9)=(Ω z.2.1 (r++Jc q (a.1+1)).length z.2.2)from(by rw[show(r++(Jc q a.1++((gP q a.1).1.ts.take z.1).map (λt:Tm=>t.c)))=(r++Jc q (a.1+1))from by rw[Rh (geq H),Pt (Qt v)]])) (qV (Ω q1.2.1 (q).length q1.2.2)) (qI ((YT q (a.1+1):Nat):Int)) (qI (((a.1+1):Nat):Int)) (qk T) (Yq (Qc 32 3 Xk (r++(Jc q a.1++((gP q a.1).1.ts.take z.1).map (λt:Tm=>t.c))) z.2.1 z.2.2) (Qc 32 3 Xk (r++Jc q (a.1+1)) z.2.1 z.2.2) λ_ _ _ h=>XY (by rw[show(r++(Jc q a.1++((gP q a.1).1.ts.take z.1).map (λt:Tm=>t.c)))=(r++Jc q (a.1+1))from by rw[Rh (geq H),Pt (Qt v)]]) (by rw[show(r++(Jc q a.1++((gP q a.1).1.ts.take z.1).map (λt:Tm=>t.c)))=(r++Jc q (a.1+1))from by rw[Rh (geq H),Pt (Qt v)]]) h)<|ai (XR (Zx 52 2 Zn q q1.2.1 q1.2.2))<|ai (show((a.1+1)<=(q).length/\∀j,j<(a.1+1)->decide (((YT q (j+1):Nat):Int)>300)=false)from⟨Qt v,jY (f:=λj=>decide (((YT q (j+1):Nat):Int)>300)) O.2 z5⟩) (show(q).length-(a.1+1)<(q).length-a.1 from hA (Qt v))) λv=>Vv (qB false) (qV (Ω a.2.1 (r++Jc q a.1).length a.2.2)) (qI ((0:Nat):Int)) (qk T) (XR (Qc 32 3 Xk (r++Jc q a.1) a.2.1 a.2.2)) (XR (Zx 52 2 Zn q q1.2.1 q1.2.2))<|ai (c0 ((r++Jc q a.1).length) (λj=>KD (List.getD (r++Jc q a.1) j nm0))) λ(F:Nat) (ae:cQ ((r++Jc q a.1).length) (λj=>KD (List.getD (r++Jc q a.1) j nm0)) F)=>Xi (decide ((F:Int)<(((r++Jc q a.1).length:Nat):Int))) (λB=>X0 (Jl W 32 3 Xk (r++Jc q a.1) a.2.1 a.2.2 Xx nm0 (λD G=>Gi a.2.2 D G F (Qt B))) (Jl W 32 3 Xk (r++Jc q a.1) a.2.1 a.2.2 Xx nm0 (λD G=>AT D G F 1 (Qt B) x4 rfl))<|ZD (decide ((((List.getD (r++Jc q a.1) F nm0).s).size:Int)>20)) false (λz6=>X0 (Jl W 32 3 Xk (r++Jc q a.1) a.2.1 a.2.2 Xx nm0 (λD G=>Gi a.2.2 D G F (Qt B))) (Jl W 32 3 Xk (r++Jc q a.1) a.2.1 a.2.2 Xx nm0 (λD G=>BZ D G F 2 (Qt B) x4 rfl))<|ZD (decide (((List.getD (r++Jc q a.1) F nm0).e)<(-200))) false (λz7=>X0 (Jl W 32 3 Xk (r++Jc q a.1) a.2.1 a.2.2 Xx nm0 (λD G=>Gi a.2.2 D G F (Qt B))) (Jl W 32 3 Xk (r++Jc q a.1) a.2.1 a.2.2 Xx nm0 (λD G=>BZ D G F 2 (Qt B) x4 rfl))<|Xi (decide (((List.getD (r++Jc q a.1) F nm0).e)>200)) (λz8=>(U true (by rw[<- (show(r++Jc q a.1)=r++(q).flatMap (λp=>p.1.ts.map (λt:Tm=>t.c))from by rw[IT (geq v)])];unfold Dm;rw[P,Q,N,R,G6 (λi=>decide (((YT q (i+1):Nat):Int)>300)) v O.2,ZG (f:=λi=>KD (List.getD (r++Jc q a.1) i nm0)) (Qt B) (by show KD _=true;unfold KD;rw[z6,z7,z8];rfl)];rfl))) λz8=>GL (QD F (k0 (Qt B) (bi a.1))) (qB false) (qV (Ω a.2.1 (r++Jc q a.1).length a.2.2)) (qI (((F+1):Nat):Int)) (qk T) (XR (Qc 32 3 Xk (r++Jc q a.1) a.2.1 a.2.2)) (XR (Zx 52 2 Zn q q1.2.1 q1.2.2))<|ai (cS ae (Qt B) (by show KD _=false;unfold KD;rw[z6,z7,z8];rfl)) (Oe (Qt B))) λz7=>(U true (by rw[<- (show(r++Jc q a.1)=r++(q).flatMap (λp=>p.1.ts.map (λt:Tm=>t.c))from by rw[IT (geq v)])];unfold Dm;rw[P,Q,N,R,G6 (λi=>decide (((YT q (i+1):Nat):Int)>300)) v O.2,ZG (f:=λi=>KD (List.getD (r++Jc q a.1) i nm0)) (Qt B) (by show KD _=true;unfold KD;rw[z6,z7];rfl)];rfl))) λz6=>(U true (by rw[<- (show(r++Jc q a.1)=r++(q).flatMap (λp=>p.1.ts.map (λt:Tm=>t.c))from by rw[IT (geq v)])];unfold Dm;rw[P,Q,N,R,G6 (λi=>decide (((YT q (i+1):Nat):Int)>300)) v O.2,ZG (f:=λi=>KD (List.getD (r++Jc q a.1) i nm0)) (Qt B) (by show KD _=true;unfold KD;rw[z6];rfl)];rfl))) λB=>KJ (qB false) (qI ((0:Nat):Int)) (qk T) (XR (Qc 32 3 Xk (r++Jc q a.1) a.2.1 a.2.2)) (XR (Zx 52 2 Zn q q1.2.1 q1.2.2))<|ai (c0 κ.length (λj=>decide ((((Qu κ j).length:Nat):Int)>6))) λ(M:Nat) (aB:cQ κ.length (λj=>decide ((((Qu κ j).length:Nat):Int)>6)) M)=>Xi (decide ((M:Int)<(κ.length:Int))) (λK=>X0 (Zy cs HS M (Qt K)) (J6 HS M 0 (Qt K) x4 rfl)<|Xi (decide ((((Qu κ M).length:Nat):Int)>6)) (λz9=>(U true (by rw[<- (show(r++Jc q a.1)=r++(q).flatMap (λp=>p.1.ts.map (λt:Tm=>t.c))from by rw[IT (geq v)])];unfold Dm;rw[P,Q,N,R,G6 (λi=>decide (((YT q (i+1):Nat):Int)>300)) v O.2,G6 (λi=>KD (List.getD (r++Jc q a.1) i nm0)) B ae.2,ZG (f:=λj=>decide ((((Qu κ j).length:Nat):Int)>6)) (Qt K) z9];rfl))) λz9=>Vv (QD M (by have:=Qt K;have:=I.hb;have:=I.hs;have:=I.hc;omega)) (qB false) (qI (((M+1):Nat):Int)) (qk T) (XR (Qc 32 3 Xk (r++Jc q a.1) a.2.1 a.2.2)) (XR (Zx 52 2 Zn q q1.2.1 q1.2.2))<|ai (cS aB (Qt K) z9) (Oe (Qt K))) λK=>(U false (by rw[<- (show(r++Jc q a.1)=r++(q).flatMap (λp=>p.1.ts.map (λt:Tm=>t.c))from by rw[IT (geq v)])];unfold Dm;rw[P,Q,N,R,G6 (λi=>decide (((YT q (i+1):Nat):Int)>300)) v O.2,G6 (λi=>KD (List.getD (r++Jc q a.1) i nm0)) B ae.2,G6 (λj=>decide ((((Qu κ j).length:Nat):Int)>6)) K aB.2];rfl))) λN=>(U true (by unfold Dm;rw[P,Q,N];rfl))) λQ=>(U true (by unfold Dm;rw[P,Q];rfl))) λP=>(U true (by unfold Dm;rw[P];rfl))) (λx bk=>(hx x bk).below (λ_=>rfl) hW)) (⟨hu.1.below (λ_=>rfl) hW,hu.2⟩)) (⟨hq.1.below (λ_=>rfl) hW,hq.2⟩)) (λj hj=>(hp j hj).below YH hW)
