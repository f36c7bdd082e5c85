/- Laws beneath the statement. -/
import Derived.Test.YtoibldcmoapgbaaGreatDoorQP29
namespace Go.Proofs.YtoibldcmoapgbaaGreatDoor
open Tryz
set_option maxRecDepth 100000
open Go Go.RowKit
variable{P:Program}{rs:Array ResultVar}
def DE(A:u5)(c:Nat): Nat->u5
 | 0=>A
 | i+1=>AI (DE A c i) (c-i) 4
section
variable {w0:World} {A:Option Addr} {c:Nat} {l:List Tm}
theorem YZ(b:l.length<=c)(a:RdK w0 A l.length 4 (λj=>QG (Qb l j))): ∀i,i<=l.length->RdK w0 (DE A c i) (l.drop i).length 4 (λj=>QG (Qb (l.drop i) j))
 | 0,_=>a
 | i+1,d=>by
  have h:=YZ b a i x3;rw[show(l.drop i).length=(l.drop (i+1)).length+1 by simp only[Lf];omega]at h;refine(lh (c:=c-i) (by simp only[Lf];omega) h).congr λj _=>?_
  show QG _=QG _;congr 1;simp[Qb,List.getD,Sc,Te 1 j]
theorem CL(h:A=none->l.length=0/\c=0)(i:Nat)(a:DE A c i=none): (l.drop i).length=0/\c-i=0:=by
 have b:A=none:=by
  induction i with
  | zero=>exact a
  | succ i d=>exact d (by unfold DE AI at a;simpa using a)
 obtain⟨e,f⟩:=h b;simp only[Lf];omega
theorem QZ{l:List Tm}(h:decide ((l.length:Int)>0)=true): 0<l.length:=y6 (L1 h)
theorem Fz{l:List Tm}(h:decide ((l.length:Int)>0)=false): l=[]:=Rz (y6 (L7 h))
theorem OX(i:Nat)(k:l.length<=c)(a:RdK w0 (DE A c i) (l.drop i).length 4 (λj=>QG (Qb (l.drop i) j)))(h:0<(l.drop i).length)(w:y9):
  (Instr.sliceAt 50 (.slice (DE A c i) (l.drop i).length (c-i)) (some (.int .i64 1)) none none).run prog w=.ok (.slice (DE A c (i+1)) (l.drop (i+1)).length (c-(i+1))) w:=by
 obtain⟨b,off,e,_⟩:=a h;have d:(l.drop (i+1)).length=(l.drop i).length-1:=by simp only[Lf];omega
 have f:(l.drop i).length<=c-i:=by simp only[Lf];omega
 rw[d,show DE A c (i+1)=AI (DE A c i) (c-i) 4 from rfl,e,J0 prog w b off ((l.drop i).length) (c-i) 1 ((l.drop i).length) (some (.int .i64 1)) none (Qu 50 _ rfl) rfl x4 (.inr ⟨.i64,rfl⟩) (.inl ⟨rfl,rfl⟩) h f,Tg,Nat.sub_sub];rfl
theorem EF(i cc:Nat)(a:RdK w0 (DE A c i) (l.drop i).length 4 (λj=>QG (Qb (l.drop i) j)))(h:0<(l.drop i).length)(w:y9):
  (Instr.indexAt 50 (.slice (DE A c i) (l.drop i).length cc) (.int .i64 0)).run prog w=.ok (.pointer (some (Xi (DE A c i) (0*4+0)))) w:=by
 obtain⟨b,off,e,_⟩:=a h;rw[e];exact(JM _ (w0:=w) (f:=λ_=>[]) (Qu 50 _ rfl) rfl x4 (show RdK w (some ⟨b,off,none⟩) (l.drop i).length 0 (λ_=>[])from λ_=>⟨b,off,rfl,λ_ _ i d=>absurd d (R6 _)⟩) h) w (l3 _ _)
end
structure MgI (f0:Nat) (a b:List Tm) (i j:Nat) (o:List Tm):Prop where
 hi:i<=a.length
 hj:j<=b.length
 ho:o.length<=i+j
 hf:∃f,(a.drop i).length+(b.drop j).length<=f/\VZ f0 a b=o++VZ f (a.drop i) (b.drop j)
theorem o6{f:Nat}{x y:Tm}{a b:List Tm}(h:(x::a).length+(y::b).length<=f): ∃g,a.length+b.length+1<=g/\VZ f (x::a) (y::b)=bif Ao x.m y.m then x::VZ g a (y::b)else bif Ao y.m x.m then y::VZ g (x::a) b else X6 x y::VZ g a b:=by
 obtain⟨g,rfl⟩:∃g,f=g+1:=⟨f-1,by simp at h;omega⟩
 exact⟨g,by simp at h;omega,rfl⟩
theorem Fv{l:List Tm}{i:Nat}(h:0<(l.drop i).length): l.drop i=Qb (l.drop i) 0::l.drop (i+1):=by
 have a:i<l.length:=by simp only[Lf]at h;omega
 rw[Tv a];rfl
section
variable {f0:Nat} {a b o:List Tm} {i j:Nat} (h:MgI f0 a b i j o) (ha:0<(a.drop i).length) (hb:0<(b.drop j).length)
include h ha hb
theorem MgI.step:∃g,(a.drop (i+1)).length+(b.drop (j+1)).length+1<=g/\VZ f0 a b=o++bif Ao (Qb (a.drop i) 0).m (Qb (b.drop j) 0).m then Qb (a.drop i) 0::VZ g (a.drop (i+1)) (b.drop j)else bif Ao (Qb (b.drop j) 0).m (Qb (a.drop i) 0).m then Qb (b.drop j) 0::VZ g (a.drop i) (b.drop (j+1))else X6 (Qb (a.drop i) 0) (Qb (b.drop j) 0)::VZ g (a.drop (i+1)) (b.drop (j+1)):=by
 obtain⟨f,e,k⟩:=h.hf;have c:(Qb (a.drop i) 0::a.drop (i+1)).length+(Qb (b.drop j) 0::b.drop (j+1)).length<=f:=by rw[<- Fv ha,<- Fv hb];exact e
 obtain⟨g,l,d⟩:=o6 c;rw[<- Fv ha,<- Fv hb]at d;exact⟨g,l,by rw[k,d]⟩
theorem MgI.stA(d:decide (Ku (Qb (a.drop i) 0) (Qb (b.drop j) 0)<0)=true): MgI f0 a b (i+1) j (o++[Qb (a.drop i) 0]):=by
 obtain⟨g,f,c⟩:=h.step ha hb;simp only[Lf]at f ha hb;have k:Ao (Qb (a.drop i) 0).m (Qb (b.drop j) 0).m=true:=by
  have:=L1 d;unfold Ku at this;cases e:Ao (Qb (a.drop i) 0).m (Qb (b.drop j) 0).m
  ·rw[e,cond_false]at this;cases l:Ao (Qb (b.drop j) 0).m (Qb (a.drop i) 0).m<;>rw[l]at this<;>simp at this
  ·rfl
 rw[k,cond_true]at c;exact⟨x3,h.hj,by have:=h.ho;simp;omega,g,by simp only[Lf];omega,by rw[c];simp⟩
theorem MgI.stB(n:decide (Ku (Qb (a.drop i) 0) (Qb (b.drop j) 0)<0)=false)(c:decide (Ku (Qb (a.drop i) 0) (Qb (b.drop j) 0)>0)=true): MgI f0 a b i (j+1) (o++[Qb (b.drop j) 0]):=by
 obtain⟨g,p,k⟩:=h.step ha hb;simp only[Lf]at p ha hb;have d:=L7 n;have f:=L1 c;unfold Ku at d f;cases e:Ao (Qb (a.drop i) 0).m (Qb (b.drop j) 0).m
 ·cases l:Ao (Qb (b.drop j) 0).m (Qb (a.drop i) 0).m
  ·rw[e,l]at f;simp at f
  ·rw[e,l,cond_false,cond_true]at k;exact⟨h.hi,x3,by have:=h.ho;simp;omega,g,by simp only[Lf];omega,by rw[k];simp⟩
 ·rw[e]at d;simp at d
theorem MgI.stC(n:decide (Ku (Qb (a.drop i) 0) (Qb (b.drop j) 0)<0)=false)(c:decide (Ku (Qb (a.drop i) 0) (Qb (b.drop j) 0)>0)=false): MgI f0 a b (i+1) (j+1) (o++[X6 (Qb (a.drop i) 0) (Qb (b.drop j) 0)]):=by
 obtain⟨g,p,k⟩:=h.step ha hb;simp only[Lf]at p ha hb;have d:=L7 n;have f:=L7 c;unfold Ku at d f;cases e:Ao (Qb (a.drop i) 0).m (Qb (b.drop j) 0).m
 ·cases l:Ao (Qb (b.drop j) 0).m (Qb (a.drop i) 0).m
  ·rw[e,l,cond_false,cond_false]at k;exact⟨x3,x3,by have:=h.ho;simp;omega,g,by simp only[Lf];omega,by rw[k];simp⟩
  ·rw[e,l]at f;simp at f
 ·rw[e]at d;simp at d
end
theorem MgI.fin{f0:Nat}{a b o:List Tm}{i j:Nat}(h:MgI f0 a b i j o)(c:a.drop i=[]\/b.drop j=[]): o++a.drop i++b.drop j=VZ f0 a b:=by
 obtain⟨f,_,d⟩:=h.hf;rw[d,uJ c,List.append_assoc]
theorem FA(P:Tm->Prop){l:List Tm}{i:Nat}(h:∀t,t∈l->P t)(a:0<(l.drop i).length): P (Qb (l.drop i) 0):=h _ (Ti (Zh a))
theorem uL{w0:y9}{α:Type}{t e k bytes:Nat}{c:α->a8}(d:RowT P t t e k bytes){n:Nat}(hb:bytes*n<=281474976710656)(r:n<=1000000):
  FU P w0 [] (λy:Hp=>.slice y.1 ([]:List α).length y.2) (λy:Hp=>Qc e k c ([]:List α) y.1 y.2) (Instr.makeSlice t (.int .i64 0) (.int .i64 (n:Int))):=λW _=>by
 obtain⟨a,z,g,i,j,l,s⟩:=d.info;obtain⟨m,o,f,p⟩:=run_make_own (P:=P) W 0 t e a z k d.ht g i j .i64 .i64 n (by rw[l];exact hb) (by simp only[maxLen];omega) (La _);show O6 P W _ _ _;refine⟨(some ⟨W.heap.size,0,none⟩,n),.bool false,λb=>b=W.heap.size,m,o,(l3 _ _).grown p (L8 _) (λk q=>by cases q),(show _/\_/\_ from⟨rfl,f,λb=>⟨λh=>by rw[h];rfl,λh=>(hW h).symm⟩⟩),λb hb=>?_⟩;subst hb;exact⟨L8 _,(f.lt _ rfl).2⟩
abbrev HEa(q1:Nat×Nat×List Tm×Hp)(a:List Tm)(b:List Tm)(f:Hp):=(q1.1+1,q1.2.1+1,q1.2.2.1++[X6 (Qb (a.drop q1.1) 0) (Qb (b.drop q1.2.1) 0)],f)
abbrev HEb(b:List Tm)(q1:Nat×Nat×List Tm×Hp):=Qb (b.drop q1.2.1) 0
abbrev HEc(a:List Tm)(q1:Nat×Nat×List Tm×Hp):=Qb (a.drop q1.1) 0
abbrev HEd(C:Hp):Nat×Nat×List Tm×Hp:=(0,0,([]:List Tm),C)
abbrev HEe(q1:Nat×Nat×List Tm×Hp)(a:List Tm)(f:Hp):=(q1.1+1,q1.2.1,q1.2.2.1++[(HEc a q1)],f)
abbrev HEf(q1:Nat×Nat×List Tm×Hp)(b:List Tm)(f:Hp):=(q1.1,q1.2.1+1,q1.2.2.1++[(HEb b q1)],f)
def HEg(q1:Nat×Nat×List Tm×Hp)(a:List Tm)(b:List Tm):List Dir:=[.eff 9 2 0 (λ(f:Hp)=>Value.slice f.1 (q1.2.2.1++a.drop q1.1).length f.2) (λ(f:Hp)=>Qc 56 4 QG (q1.2.2.1++a.drop q1.1) f.1 f.2) (λ(f:Hp)=>[.eff 9 4 0 (λ(z:Hp)=>Value.slice z.1 (q1.2.2.1++a.drop q1.1++b.drop q1.2.1).length z.2) (λ(z:Hp)=>Qc 56 4 QG (q1.2.2.1++a.drop q1.1++b.drop q1.2.1) z.1 z.2) (λ(z:Hp)=>[])])]
abbrev HEh(a:List Tm)(q1:Nat×Nat×List Tm×Hp):z0:=.agg #[.string ((HEc a q1).m),.bool ((HEc a q1).c.b),.string ((HEc a q1).c.s),.int .i64 ((HEc a q1).c.e)]
abbrev HEi(b:List Tm)(q1:Nat×Nat×List Tm×Hp):z0:=.agg #[.string ((HEb b q1).m),.bool ((HEb b q1).c.b),.string ((HEb b q1).c.s),.int .i64 ((HEb b q1).c.e)]
abbrev HEj(a:List Tm)(q1:Nat×Nat×List Tm×Hp)(b:List Tm):=X6 (HEc a q1) (HEb b q1)
abbrev HEk:z0:=.func (.func 214) #[] #[]
abbrev HEl:z0:=.func (.func 215) #[] #[]
abbrev HEm(q1:Nat×Nat×List Tm×Hp)(a:List Tm)(b:List Tm):=q1.2.2.1++[X6 (HEc a q1) (HEb b q1)]
abbrev HEn(a:List Tm)(q1:Nat×Nat×List Tm×Hp)(b:List Tm):a8:=[.string ((HEj a q1 b).m),.bool ((HEj a q1 b).c.b),.string ((HEj a q1 b).c.s),.int .i64 ((HEj a q1 b).c.e)]
abbrev HEo:=λ(f:Hp)=>([.nxt [f,(none,2)]]:List Dir)
theorem j2(k f0:Nat){A B:u5}{p q:Nat}{a b:List Tm}(T:k<=5000)(X:a.length<=4000)(Y:b.length<=4000)(r:a.length<=p)(v:b.length<=q)(L:A=none->a.length=0/\p=0)(M:B=none->b.length=0/\q=0)(U:∀t,t∈a->fN k t.c)(V:∀t,t∈b->fN k t.c)(Z:a.length+b.length<=f0)(w:y9)(O:Q0 w)(ha:RdK w A a.length 4 (λj=>QG (Qb a j)))(hb:RdK w B b.length 4 (λj=>QG (Qb b j))): NewIn prog w [] 240 #[Ω A a.length p,Ω B b.length q,.func (.func 214) #[] #[],.func (.func 215) #[] #[]] (λ(y:Hp)=>Ω y.1 (VZ f0 a b).length y.2) (λ(y:Hp)=>Qc 56 4 QG (VZ f0 a b) y.1 y.2) :=
 El Hp Qu QR (λa w=>call240 a w) func240 ntmps240 results240 _ rfl 0 _ _ [.o 1 4 (.eq (iV ((a.length+b.length:Nat):Int))),.mk 1 5 [] (λ(C:Hp)=>Ω C.1 ([]:List Tm).length C.2) (λ(C:Hp)=>Qc 56 4 QG ([]:List Tm) C.1 C.2) (λ(C:Hp)=>[.lop (λ(q1:Nat×Nat×List Tm×Hp)=>(⟨75,[(0,lV (DE A p q1.1) (a.drop q1.1).length (p-q1.1)),(1,lV (DE B q q1.2.1) (b.drop q1.2.1).length (q-q1.2.1)),(2,.val HEk),(3,.val HEl),(9,lV q1.2.2.2.1 (q1.2.2.1).length q1.2.2.2.2)],[],[some (Qc 56 4 QG q1.2.2.1 q1.2.2.2.1 q1.2.2.2.2)]⟩:St)) (λ(q1:Nat×Nat×List Tm×Hp)=>MgI f0 a b q1.1 q1.2.1 q1.2.2.1) (λ(q1:Nat×Nat×List Tm×Hp)=>((a.drop q1.1).length+(b.drop q1.2.1).length)) ((HEd C):Nat×Nat×List Tm×Hp) (λ(q1:Nat×Nat×List Tm×Hp) (u:List Hp)=>bif Nat.beq (u.getD 1 (none,0)).2 0 then(q1.1+1,q1.2.1,q1.2.2.1++[(HEc a q1)],u.headD (none,0))else bif Nat.beq (u.getD 1 (none,0)).2 1 then(q1.1,q1.2.1+1,q1.2.2.1++[(HEb b q1)],u.headD (none,0))else(q1.1+1,q1.2.1+1,q1.2.2.1++[X6 (HEc a q1) (HEb b q1)],u.headD (none,0))) (λ(q1:Nat×Nat×List Tm×Hp)=>[.gb 2 4 [.both [.reg 9 [],.o 3 2 (.set (.pointer (some (Xi (DE A p q1.1) (0*4+0))))),.o 3 3 (.set (HEh a q1)),.o 3 5 (.set (.pointer (some (Xi (DE B q q1.2.1) (0*4+0))))),.o 3 6 (.set (HEi b q1)),.o 3 7 (.ret (iV (Ku (HEc a q1) (HEb b q1)))),.both [.ord,.pur 0,.pur 1,.pur 2,.o 6 2 (.set (.pointer (some (Xi (DE A p q1.1) (0*4+0))))),.pur 6,.pur 7,.o 6 7 (.set (Ω (DE A p (q1.1+1)) (a.drop (q1.1+1)).length (p-(q1.1+1)))),.o 6 3 (.set (HEh a q1)),.eff 6 5 0 (λ(f:Hp)=>Ω f.1 (q1.2.2.1++[(HEc a q1)]).length f.2) (λ(f:Hp)=>Qc 56 4 QG (q1.2.2.1++[(HEc a q1)]) f.1 f.2) (λ(f:Hp)=>[.nxt [f,(none,0)]])] [.both [.ord,.pur 0,.pur 1,.pur 2,.o 8 2 (.set (.pointer (some (Xi (DE B q q1.2.1) (0*4+0))))),.pur 6,.pur 7,.o 8 7 (.set (Ω (DE B q (q1.2.1+1)) (b.drop (q1.2.1+1)).length (q-(q1.2.1+1)))),.o 8 3 (.set (HEi b q1)),.eff 8 5 0 (λ(f:Hp)=>Ω f.1 (q1.2.2.1++[(HEb b q1)]).length f.2) (λ(f:Hp)=>Qc 56 4 QG (q1.2.2.1++[(HEb b q1)]) f.1 f.2) (λ(f:Hp)=>[.nxt [f,(none,1)]])] [.ord,.pur 0,.pur 1,.pur 2,.pur 3,.o 4 3 (.set (.pointer (some (Xi (DE A p q1.1) (0*4+0))))),.pur 5,.pur 6,.o 4 6 (.set (.pointer (some (Xi (DE B q q1.2.1) (0*4+0))))),.pur 11,.pur 12,.o 4 12 (.set (Ω (DE A p (q1.1+1)) (a.drop (q1.1+1)).length (p-(q1.1+1)))),.pur 13,.pur 14,.o 4 14 (.set (Ω (DE B q (q1.2.1+1)) (b.drop (q1.2.1+1)).length (q-(q1.2.1+1)))),.both [.o 4 4 (.set (HEh a q1)),.o 4 7 (.set (HEi b q1)),.o 4 8 (.ret (.agg [sV ((HEj a q1 b).m),bV ((HEj a q1 b).c.b),sV ((HEj a q1 b).c.s),iV ((HEj a q1 b).c.e)])),.eff 4 10 0 (λ(f:Hp)=>Ω f.1 (HEm q1 a b).length f.2) (λ(f:Hp)=>Qc 56 4 QG (HEm q1 a b) f.1 f.2) HEo] [.o 4 7 (.set (HEi b q1)),.o 4 4 (.set (HEh a q1)),.o 4 8 (.ret (.agg [sV ((HEj a q1 b).m),bV ((HEj a q1 b).c.b),sV ((HEj a q1 b).c.s),iV ((HEj a q1 b).c.e)])),.eff 4 10 0 (λ(f:Hp)=>Ω f.1 (HEm q1 a b).length f.2) (λ(f:Hp)=>Qc 56 4 QG (HEm q1 a b) f.1 f.2) HEo]]]] (HEg q1 a b)] (HEg q1 a b)])])] (λW R=>have H:=ha.up R (λ_=>rfl);have I:=hb.up R (λ_=>rfl);(λ(O:Q0 W)=>ai (show IntKind.i64.wrap ((a.length:Int)+(b.length:Int))=((a.length+b.length:Nat):Int)from by rw[Lg _ x3];omega)<|ai (uL (w0:=W) (c:=QG) (n:=a.length+b.length) Xy x3 x3) λ(C:Hp)=>Gz (qV (Ω (DE A p (HEd C).1) (a.drop (HEd C).1).length (p-(HEd C).1))) (qV (Ω (DE B q (HEd C).2.1) (b.drop (HEd C).2.1).length (q-(HEd C).2.1))) (qV HEk) (qV HEl) (qV (Ω (HEd C).2.2.2.1 ((HEd C).2.2.1).length (HEd C).2.2.2.2)) (Zo (Qc 56 4 QG ([]:List Tm) C.1 C.2) (Qc 56 4 QG ((HEd C).2.2.1) ((HEd C).2.2.2.1) ((HEd C).2.2.2.2)) λ_ _ _ h=>h)<|ai (show MgI f0 a b 0 0 []from⟨La _,La _,L8 _,f0,Z,rfl⟩) λ(q1:Nat×Nat×List Tm×Hp) (g:MgI f0 a b q1.1 q1.2.1 q1.2.2.1)=>ZG (decide ((((a.drop q1.1).length:Nat):Int)>0)) true (λD=>XA (decide ((((b.drop q1.2.1).length:Nat):Int)>0)) (λE=>Kr (λ(G:y9) (_:Below W.heap.size W G)=>(EF q1.1 (p-q1.1) (YZ r H q1.1 g.hi) (QZ D)) G) (Zf 0 0 (YZ r H q1.1 g.hi) (QZ D) x4 rfl rfl) (λ(G:y9) (_:Below W.heap.size W G)=>(EF q1.2.1 (q-q1.2.1) (YZ v I q1.2.1 g.hj) (QZ E)) G) (Zf 0 0 (YZ v I q1.2.1 g.hj) (QZ E) x4 rfl rfl) (vX (HEc a q1) (HEb b q1) W)<|XA (decide ((Ku (Qb (a.drop q1.1) 0) (Qb (b.drop q1.2.1) 0))<0)) (λN=>JH (EF q1.1 (p-q1.1) (YZ r H q1.1 g.hi) (QZ D)) (OX q1.1 r (YZ r H q1.1 g.hi) (QZ D)) (Zf 0 0 (YZ r H q1.1 g.hi) (QZ D) x4 rfl rfl)<|ai (Yj (w0:=W) (ty:=50) (c:=QG) (l:=q1.2.2.1) (l2:=[(HEc a q1)]) (l':=q1.2.2.1++[(HEc a q1)]) (A:=q1.2.2.2.1) (cp:=q1.2.2.2.2) (bt:=56) (m:=1) (cp2:=1) (cs:=[Ψ ((HEc a q1).m),Ξ ((HEc a q1).c.b),Ψ ((HEc a q1).c.s),Θ ((HEc a q1).c.e)]) Xy QW Kk rfl (by have:=g.ho;have:=g.hi;have:=g.hj;simp;omega) rfl rfl) λ(f:Hp)=>Gz (qV (Ω (DE A p (HEe q1 a f).1) (a.drop (HEe q1 a f).1).length (p-(HEe q1 a f).1))) (qV (Ω (DE B q (HEe q1 a f).2.1) (b.drop (HEe q1 a f).2.1).length (q-(HEe q1 a f).2.1))) (qV HEk) (qV HEl) (qV (Ω (HEe q1 a f).2.2.2.1 ((HEe q1 a f).2.2.1).length (HEe q1 a f).2.2.2.2)) (Zo (Qc 56 4 QG (q1.2.2.1++[(HEc a q1)]) f.1 f.2) (Qc 56 4 QG ((HEe q1 a f).2.2.1) ((HEe q1 a f).2.2.2.1) ((HEe q1 a f).2.2.2.2)) λ_ _ _ h=>h)<|ai (show MgI f0 a b (q1.1+1) q1.2.1 (q1.2.2.1++[(Qb (a.drop q1.1) 0)])from g.stA (QZ D) (QZ E) N) (show(a.drop (q1.1+1)).length+(b.drop q1.2.1).length<(a.drop q1.1).length+(b.drop q1.2.1).length from by have J:=QZ D;have K:=QZ E;simp only[Lf]at J K ⊢;omega)) λN=>XA (decide ((Ku (Qb (a.drop q1.1) 0) (Qb (b.drop q1.2.1) 0))>0)) (λQ=>JH (EF q1.2.1 (q-q1.2.1) (YZ v I q1.2.1 g.hj) (QZ E)) (OX q1.2.1 v (YZ v I q1.2.1 g.hj) (QZ E)) (Zf 0 0 (YZ v I q1.2.1 g.hj) (QZ E) x4 rfl rfl)<|ai (Yj (w0:=W) (ty:=50) (c:=QG) (l:=q1.2.2.1) (l2:=[(HEb b q1)]) (l':=q1.2.2.1++[(HEb b q1)]) (A:=q1.2.2.2.1) (cp:=q1.2.2.2.2) (bt:=56) (m:=1) (cp2:=1) (cs:=[Ψ ((HEb b q1).m),Ξ ((HEb b q1).c.b),Ψ ((HEb b q1).c.s),Θ ((HEb b q1).c.e)]) Xy QW Kk rfl (by have:=g.ho;have:=g.hi;have:=g.hj;simp;omega) rfl rfl) λ(f:Hp)=>Gz (qV (Ω (DE A p (HEf q1 b f).1) (a.drop (HEf q1 b f).1).length (p-(HEf q1 b f).1))) (qV (Ω (DE B q (HEf q1 b f).2.1) (b.drop (HEf q1 b f).2.1).length (q-(HEf q1 b f).2.1))) (qV HEk) (qV HEl) (qV (Ω (HEf q1 b f).2.2.2.1 ((HEf q1 b f).2.2.1).length (HEf q1 b f).2.2.2.2)) (Zo (Qc 56 4 QG (q1.2.2.1++[(HEb b q1)]) f.1 f.2) (Qc 56 4 QG ((HEf q1 b f).2.2.1) ((HEf q1 b f).2.2.2.1) ((HEf q1 b f).2.2.2.2)) λ_ _ _ h=>h)<|ai (show MgI f0 a b q1.1 (q1.2.1+1) (q1.2.2.1++[(Qb (b.drop q1.2.1) 0)])from g.stB (QZ D) (QZ E) N Q) (show(a.drop q1.1).length+(b.drop (q1.2.1+1)).length<(a.drop q1.1).length+(b.drop q1.2.1).length from by have J:=QZ D;have K:=QZ E;simp only[Lf]at J K ⊢;omega)) λQ=>Km (EF q1.1 (p-q1.1) (YZ r H q1.1 g.hi) (QZ D)) (EF q1.2.1 (q-q1.2.1) (YZ v I q1.2.1 g.hj) (QZ E)) (OX q1.1 r (YZ r H q1.1 g.hi) (QZ D)) (OX q1.2.1 v (YZ v I q1.2.1 g.hj) (QZ E))<|(k0 (JH (Zf 0 0 (YZ r H q1.1 g.hi) (QZ D) x4 rfl rfl) (Zf 0 0 (YZ v I q1.2.1 g.hj) (QZ E) x4 rfl rfl) (sZ T (FA (λt=>fN k t.c) U (QZ D)) (FA (λt=>fN k t.c) V (QZ E)) W O)<|ai (Yj (w0:=W) (ty:=50) (c:=QG) (l:=q1.2.2.1) (l2:=[X6 (HEc a q1) (HEb b q1)]) (l':=q1.2.2.1++[X6 (HEc a q1) (HEb b q1)]) (A:=q1.2.2.2.1) (cp:=q1.2.2.2.2) (bt:=56) (m:=1) (cp2:=1) (cs:=(HEn a q1 b)) Xy QW Kk rfl (by have:=g.ho;have:=g.hi;have:=g.hj;simp;omega) rfl rfl) λ(f:Hp)=>Gz (qV (Ω (DE A p (HEa q1 a b f).1) (a.drop (HEa q1 a b f).1).length (p-(HEa q1 a b f).1))) (qV (Ω (DE B q (HEa q1 a b f).2.1) (b.drop (HEa q1 a b f).2.1).length (q-(HEa q1 a b f).2.1))) (qV HEk) (qV HEl) (qV (Ω (HEa q1 a b f).2.2.2.1 ((HEa q1 a b f).2.2.1).length (HEa q1 a b f).2.2.2.2)) (Zo (Qc 56 4 QG (HEm q1 a b) f.1 f.2) (Qc 56 4 QG ((HEa q1 a b f).2.2.1) ((HEa q1 a b f).2.2.2.1) ((HEa q1 a b f).2.2.2.2)) λ_ _ _ h=>h)<|ai (show MgI f0 a b (q1.1+1) (q1.2.1+1) (q1.2.2.1++[X6 (Qb (a.drop q1.1) 0) (Qb (b.drop q1.2.1) 0)])from g.stC (QZ D) (QZ E) N Q) (show(a.drop (q1.1+1)).length+(b.drop (q1.2.1+1)).length<(a.drop q1.1).length+(b.drop q1.2.1).length from by have J:=QZ D;have K:=QZ E;simp only[Lf]at J K ⊢;omega)) (JH (Zf 0 0 (YZ v I q1.2.1 g.hj) (QZ E) x4 rfl rfl) (Zf 0 0 (YZ r H q1.1 g.hi) (QZ D) x4 rfl rfl) (sZ T (FA (λt=>fN k t.c) U (QZ D)) (FA (λt=>fN k t.c) V (QZ E)) W O)<|ai (Yj (w0:=W) (ty:=50) (c:=QG) (l:=q1.2.2.1) (l2:=[X6 (HEc a q1) (HEb b q1)]) (l':=q1.2.2.1++[X6 (HEc a q1) (HEb b q1)]) (A:=q1.2.2.2.1) (cp:=q1.2.2.2.2) (bt:=56) (m:=1) (cp2:=1) (cs:=(HEn a q1 b)) Xy QW Kk rfl (by have:=g.ho;have:=g.hi;have:=g.hj;simp;omega) rfl rfl) λ(f:Hp)=>Gz (qV (Ω (DE A p (HEa q1 a b f).1) (a.drop (HEa q1 a b f).1).length (p-(HEa q1 a b f).1))) (qV (Ω (DE B q (HEa q1 a b f).2.1) (b.drop (HEa q1 a b f).2.1).length (q-(HEa q1 a b f).2.1))) (qV HEk) (qV HEl) (qV (Ω (HEa q1 a b f).2.2.2.1 ((HEa q1 a b f).2.2.1).length (HEa q1 a b f).2.2.2.2)) (Zo (Qc 56 4 QG (HEm q1 a b) f.1 f.2) (Qc 56 4 QG ((HEa q1 a b f).2.2.1) ((HEa q1 a b f).2.2.2.1) ((HEa q1 a b f).2.2.2.2)) λ_ _ _ h=>h)<|ai (show MgI f0 a b (q1.1+1) (q1.2.1+1) (q1.2.2.1++[X6 (Qb (a.drop q1.1) 0) (Qb (b.drop q1.2.1) 0)])from g.stC (QZ D) (QZ E) N Q) (show(a.drop (q1.1+1)).length+(b.drop (q1.2.1+1)).length<(a.drop q1.1).length+(b.drop q1.2.1).length from by have J:=QZ D;have K:=QZ E;simp only[Lf]at J K ⊢;omega)))) λE=>ai (V5 (w0:=W) (ty:=50) (c:=QG) (l:=q1.2.2.1) (l2:=(a.drop q1.1)) (l':=q1.2.2.1++a.drop q1.1) (A:=q1.2.2.2.1) (cp:=q1.2.2.2.2) (u:=Ω (DE A p q1.1) (a.drop q1.1).length (p-q1.1)) Xy QW Kk rfl (by have:=g.ho;have:=g.hi;have:=g.hj;simp;omega) (λ(G:y9) (F:Below W.heap.size W G)=>G4 QW x4 (d:=DL) ((YZ r H q1.1 g.hi).below (λ_=>rfl) F) (CL L q1.1))) λ(f:Hp)=>ai (V5 (w0:=W) (ty:=50) (c:=QG) (l:=q1.2.2.1++a.drop q1.1) (l2:=(b.drop q1.2.1)) (l':=q1.2.2.1++a.drop q1.1++b.drop q1.2.1) (A:=f.1) (cp:=f.2) (u:=Ω (DE B q q1.2.1) (b.drop q1.2.1).length (q-q1.2.1)) Xy QW Kk rfl (by have:=g.ho;have:=g.hi;have:=g.hj;simp;omega) (λ(G:y9) (F:Below W.heap.size W G)=>G4 QW x4 (d:=DL) ((YZ v I q1.2.1 g.hj).below (λ_=>rfl) F) (CL M q1.2.1))) λ(z:Hp)=>(show ∃y:Hp,SV.val (Ω z.1 (q1.2.2.1++a.drop q1.1++b.drop q1.2.1).length z.2)=SV.val ((λ(y:Hp)=>Ω y.1 (VZ f0 a b).length y.2) y)/\∀(x:z0) (S:Nat->Prop) (w:y9),(Qc 56 4 QG (q1.2.2.1++a.drop q1.1++b.drop q1.2.1) z.1 z.2).φ x S w->((λ(y:Hp)=>Qc 56 4 QG (VZ f0 a b) y.1 y.2) y).φ x S w from⟨z,by rw[(g.fin (.inr (Fz E)))],λx S w h=>by rw[(g.fin (.inr (Fz E)))]at h;exact h⟩)) λD=>ai (V5 (w0:=W) (ty:=50) (c:=QG) (l:=q1.2.2.1) (l2:=(a.drop q1.1)) (l':=q1.2.2.1++a.drop q1.1) (A:=q1.2.2.2.1) (cp:=q1.2.2.2.2) (u:=Ω (DE A p q1.1) (a.drop q1.1).length (p-q1.1)) Xy QW Kk rfl (by have:=g.ho;have:=g.hi;have:=g.hj;simp;omega) (λ(G:y9) (F:Below W.heap.size W G)=>G4 QW x4 (d:=DL) ((YZ r H q1.1 g.hi).below (λ_=>rfl) F) (CL L q1.1))) λ(f:Hp)=>ai (V5 (w0:=W) (ty:=50) (c:=QG) (l:=q1.2.2.1++a.drop q1.1) (l2:=(b.drop q1.2.1)) (l':=q1.2.2.1++a.drop q1.1++b.drop q1.2.1) (A:=f.1) (cp:=f.2) (u:=Ω (DE B q q1.2.1) (b.drop q1.2.1).length (q-q1.2.1)) Xy QW Kk rfl (by have:=g.ho;have:=g.hi;have:=g.hj;simp;omega) (λ(G:y9) (F:Below W.heap.size W G)=>G4 QW x4 (d:=DL) ((YZ v I q1.2.1 g.hj).below (λ_=>rfl) F) (CL M q1.2.1))) λ(z:Hp)=>(show ∃y:Hp,SV.val (Ω z.1 (q1.2.2.1++a.drop q1.1++b.drop q1.2.1).length z.2)=SV.val ((λ(y:Hp)=>Ω y.1 (VZ f0 a b).length y.2) y)/\∀(x:z0) (S:Nat->Prop) (w:y9),(Qc 56 4 QG (q1.2.2.1++a.drop q1.1++b.drop q1.2.1) z.1 z.2).φ x S w->((λ(y:Hp)=>Qc 56 4 QG (VZ f0 a b) y.1 y.2) y).φ x S w from⟨z,by rw[(g.fin (.inl (Fz D)))],λx S w h=>by rw[(g.fin (.inl (Fz D)))]at h;exact h⟩)) (Ql O R)) λW=>x5
def Wf(A:u5)(c k:Nat): u5:=A.map λa=>⟨a.block,if c=k then a.off else a.off+k*4,none⟩
section
variable {w0:World} {A:Option Addr} {c k:Nat} {l:List Tm}
theorem vY(f:l.length<=c)(a:RdK w0 A l.length 4 (λj=>QG (Qb l j)))(d:0<l.length)(e:k<=l.length):
  Qn prog w0 (Instr.sliceAt 50 (.slice A l.length c) none (some (.int .i64 (k:Int))) none) (.slice A (l.take k).length c):=λw _=>by
 obtain⟨b,off,rfl,_⟩:=a d;rw[J0 prog w b off l.length c 0 k none (some (.int .i64 (k:Int))) (Qu 50 _ rfl) rfl x4 (.inl ⟨rfl,rfl⟩) (.inr ⟨.i64,rfl⟩) (La _) x3,Lk,T4 e,Uh,Sw,ite_self];rfl
theorem lH(a:l.length<=c)(d:RdK w0 A l.length 4 (λj=>QG (Qb l j)))(e:0<l.length)(f:k<=l.length):
  Qn prog w0 (Instr.sliceAt 50 (.slice A l.length c) (some (.int .i64 (k:Int))) none none) (.slice (Wf A c k) (l.drop k).length (c-k)):=λw _=>by
 obtain⟨b,off,rfl,_⟩:=d e;rw[J0 prog w b off l.length c k l.length (some (.int .i64 (k:Int))) none (Qu 50 _ rfl) rfl x4 (.inr ⟨.i64,rfl⟩) (.inl ⟨rfl,rfl⟩) f a,Lf];rfl
theorem ld(a:RdK w0 A l.length 4 (λj=>QG (Qb l j)))(c:k<=l.length): RdK w0 A (l.take k).length 4 (λj=>QG (Qb (l.take k) j)):=λd=>by
 rw[Lk,T4 c]at d ⊢;obtain⟨b,off,e,h⟩:=a x3;refine⟨b,off,e,λj f i g=>?_⟩;rw[h j x3 i g];congr 2;simp[Qb,List.getD,f]
theorem lg(g:l.length<=c)(d:RdK w0 A l.length 4 (λj=>QG (Qb l j)))(m:k<=l.length): RdK w0 (Wf A c k) (l.drop k).length 4 (λj=>QG (Qb (l.drop k) j)):=λe=>by
 rw[Lf]at e ⊢;obtain⟨b,off,rfl,h⟩:=d x3;refine⟨b,off+k*4,by simp[Wf,show c≠k by omega],λj n i f=>?_⟩;have a:=h (k+j) x3 i f;rw[Rt,<- Sc]at a;rw[a];congr 2;simp[Qb,List.getD]
theorem PF(h:A=none->l.length=0/\c=0)(a:Wf A c k=none): (l.drop k).length=0/\c-k=0:=by
 obtain⟨b,d⟩:=h (by unfold Wf at a;simpa using a);rw[Lf];omega
end
theorem ow(W:World)(x y:Operand){n:Nat}(a:n<=4611686018427387904): Qn prog W (do eqGuard .quo 3 x y (.int .i64 (n:Int)) (.int .i64 2);binOp .quo 3 (.int .i64 (n:Int)) (.int .i64 2)) (.int .i64 ((n / 2:Nat):Int)):=λb _=>by
 have h:IntKind.i64.wrap ((n:Int) / 2)=(n:Int) / 2:=Lg _ x3;simp[go_sem,h]
def sX(l:List Tm)(A:u5)(c:Nat)(y:Hp): Res where
 φ x S w:=x.oneCell'=true/\((l.length<2/\y=(A,c)/\∀b,¬ S b)\/(¬ l.length<2/\(Qc 56 4 QG (Yr l) y.1 y.2).φ (.bool false) S w))
 one _ _ _ h:=h.1
 loc x S w w' h hφ:=⟨hφ.1,hφ.2.imp id λ⟨a,d⟩=>⟨a,(Qc 56 4 QG (Yr l) y.1 y.2).loc _ _ _ _ h d⟩⟩
theorem Cz{α:Type}{e k:Nat}{c:α->a8}{l:List α}{A:u5}{a:Nat}{x:z0}{S:Nat->Prop}{w:y9}(h:(Qc e k c l A a).φ x S w): l.length<=a:=by
 obtain⟨_,d,_⟩:=(show _/\_/\_ from h)
 rcases d.2 with⟨b,f⟩|⟨g,cap,i,b,_,_,j,_⟩
 ·rw[f];exact La _
 ·injection b with _ _ m
  rw[m];exact j
section
variable {l:List Tm} {A:Option Addr} {c:Nat} {y:Hp} {x:Value} {S:Nat->Prop} {w W:World}
theorem sY(ha:RdK w A l.length 4 (λj=>QG (Qb l j)))(hb:Below w.heap.size w W)(h:(sX l A c y).φ x S W): RdK W y.1 (Yr l).length 4 (λj=>QG (Qb (Yr l) j)):=by
 rcases h.2 with⟨b,a,_⟩|⟨_,a⟩
 ·rw[a,CH b];exact ha.below (λ_=>rfl) hb
 ·exact Jj QW DL a
theorem lQ(b:l.length<=c)(h:(sX l A c y).φ x S W): (Yr l).length<=y.2:=by
 rcases h.2 with⟨d,a,_⟩|⟨_,a⟩
 ·rw[a,CH d];exact b
 ·exact Cz a
theorem dF(b:A=none->l.length=0/\c=0)(h:(sX l A c y).φ x S W): y.1=none->(Yr l).length=0/\y.2=0:=by
 rcases h.2 with⟨d,a,_⟩|⟨_,a⟩
 ·rw[a,CH d];exact b
 ·exact(IB a).1
end
def ze:z0:=.func (.func 214) #[] #[]
def zi:z0:=.func (.func 215) #[] #[]
def SrtOk(W:y9)(l:List Tm)(A:u5)(c:Nat): Prop:=NewIn prog W [] 213 #[.slice A l.length c,ze,zi] (λy:Hp=>.slice y.1 (Yr l).length y.2) (sX l A c)
theorem SrtOk.up{w W:y9}{l:List Tm}{A:u5}{c:Nat}(h:SrtOk w l A c)(a:Below w.heap.size w W): SrtOk W l A c:=⟨h.1,λb hb=>h.2 b (nxt a hb)⟩
theorem j1(n:Nat)(l m:List Tm)(A B:u5)(ca cb:Nat)(w:y9)(v:l.length+m.length<=4000)(a:l.length<=ca)(c:m.length<=cb)(d:A=none->l.length=0/\ca=0)(f:B=none->m.length=0/\cb=0)(z:∀t,t∈l->fT n 0 t)(C:∀t,t∈m->fT n 0 t)(D:Q0 w)(ha:RdK w A l.length 4 (λj=>QG (Qb l j)))(hb:RdK w B m.length 4 (λj=>QG (Qb m j))):
  ∀W,Below w.heap.size w W->∀x S,(Mi (λy:Hp=>.slice y.1 (Yr l).length y.2) (sX l A ca)).φ x S W->∀g r,(Mi (λy:Hp=>.slice y.1 (Yr m).length y.2) (sX m B cb)).φ g r W ->
   Calls prog 240 #[x,g,ze,zi] W λe h=>∃(y:Hp) (x:z0) (S:Nat->Prop),e=.returned (.slice y.1 (VZ (l.length+m.length) (Yr l) (Yr m)).length y.2)/\(Qc 56 4 QG (VZ (l.length+m.length) (Yr l) (Yr m)) y.1 y.2).φ x S h/\(∀b,S b->W.heap.size<=b/\b<h.heap.size)/\Below W.heap.size W h:=λW i x S E g r F=>by
 obtain⟨_,G,_,rfl,o⟩:=(show _/\_ from E)
 obtain⟨_,H,_,rfl,p⟩:=(show _/\_ from F)
 have s:=VW l.length l;have u:=VW m.length m;exact(j2 4000 (l.length+m.length) x3 (show(Yr l).length<=4000 from L9 s x3) (show(Yr m).length<=4000 from L9 u x3) (lQ a o) (lQ c p) (dF d o) (dF f p) (λt q=>(Bd _ _ z t q).2.up x3) (λt q=>(Bd _ _ C t q).2.up x3) (Nat.add_le_add s u) W (Ql D i) (sY ha i o) (sY hb i p)).2 W (l3 _ _)
theorem SM(A:u5)(c:Nat)(l:List Tm)(a:decide ((l.length:Int)<2)=true)(w:y9): RetAt prog w 213 #[Ω A l.length c,ze,zi] (Ω A l.length c) :=
 rk [.br true] λW d b=>ai a<|b
theorem j3{l:List Tm}(h:¬ l.length<2): VZ ((l.take (l.length / 2)).length+(l.drop (l.length / 2)).length) (Yr (l.take (l.length / 2))) (Yr (l.drop (l.length / 2)))=Yr l:=by
 rw[qM h];congr 1;simp only[Lk,Lf];omega
abbrev HEp(l:List Tm):=VZ ((l.take (l.length / 2)).length+(l.drop (l.length / 2)).length) (Yr (l.take (l.length / 2))) (Yr (l.drop (l.length / 2)))
abbrev HEq(l:List Tm):=l.take (l.length / 2)
abbrev HEr(l:List Tm):=l.drop (l.length / 2)
theorem lL{n:Nat}{A:u5}{c:Nat}{l:List Tm}(z:l.length<=4000)(d:l.length<=c)(f:A=none->l.length=0/\c=0)(r:∀t,t∈l->fT n 0 t)(g:decide ((l.length:Int)<2)=false)(w:y9)(p:Q0 w)(ha:RdK w A l.length 4 (λj=>QG (Qb l j)))(s:SrtOk w (l.take (l.length / 2)) A c)(u:SrtOk w (l.drop (l.length / 2)) (Wf A c (l.length / 2)) (c-(l.length / 2))): NewIn prog w [] 213 #[Ω A l.length c,ze,zi] (λ(y:Hp)=>Ω y.1 (Yr l).length y.2) (λ(y:Hp)=>Qc 56 4 QG (Yr l) y.1 y.2) :=
 El Hp Qu QR (λa w=>call213 a w) func213 ntmps213 results213 _ rfl 14 _ _ [.br false,.o 3 2 (.set (Θ ((l.length / 2:Nat):Int))),.reg 15 [],.o 4 2 (.set (Ω A (HEq l).length c)),.o 4 5 (.nw (.han 5) [] (λ(y:Hp)=>Ω y.1 (Yr (HEq l)).length y.2) (λ(y:Hp)=>sX (HEq l) A c y)),.o 4 8 (.set (Ω (Wf A c (l.length / 2)) (HEr l).length (c-(l.length / 2)))),.o 4 11 (.nw (.han 11) [] (λ(y:Hp)=>Ω y.1 (Yr (HEr l)).length y.2) (λ(y:Hp)=>sX (HEr l) (Wf A c (l.length / 2)) (c-(l.length / 2)) y)),.o 4 14 (.nwc [5,11] (.han 14) (λ(y:Hp)=>Ω y.1 (HEp l).length y.2) (λ(y:Hp)=>Qc 56 4 QG (HEp l) y.1 y.2)),.opn 4 15 14 (λ(b:Hp)=>Ω b.1 (HEp l).length b.2) (λ(b:Hp)=>Qc 56 4 QG (HEp l) b.1 b.2) (λ(b:Hp)=>[])] (λW i=>have k:=ha.up i (λ_=>rfl);(λ(p:Q0 W)=>Zb g (ow W (.tmp 13) (.const (Θ 2)) (n:=l.length) x3) (vY d k (show 0<l.length from y6 (L7 g)) (show l.length / 2<=l.length from Rn _ _)) (s.up i) (show ∀y:Hp,(Ω y.1 (Yr (l.take (l.length / 2))).length y.2:z0).oneCell'=true from λ_=>rfl) (lH d k (show 0<l.length from y6 (L7 g)) (show l.length / 2<=l.length from Rn _ _)) (u.up i) (show ∀y:Hp,(Ω y.1 (Yr (l.drop (l.length / 2))).length y.2:z0).oneCell'=true from λ_=>rfl)<|X7 (k0 (λa w=>call240 a w) (j1 n (HEq l) (HEr l) A (Wf A c (l.length / 2)) c (c-(l.length / 2)) W (by simp only[Lk,Lf];omega) (by simp only[Lk];omega) (by simp only[Lf];omega) (λe=>by have:=f e;simp only[Lk];omega) (PF f) (λt q=>r t (List.mem_of_mem_take q)) (λt q=>r t (Ti q)) p (ld k (show l.length / 2<=l.length from Rn _ _)) (lg d k (show l.length / 2<=l.length from Rn _ _)))) (show ∀y:Hp,(Ω y.1 (VZ ((l.take (l.length / 2)).length+(l.drop (l.length / 2)).length) (Yr (l.take (l.length / 2))) (Yr (l.drop (l.length / 2)))).length y.2:z0).oneCell'=true from λ_=>rfl)<|ai (show vH (Mi (λ(y:Hp)=>Ω y.1 (VZ ((l.take (l.length / 2)).length+(l.drop (l.length / 2)).length) (Yr (l.take (l.length / 2))) (Yr (l.drop (l.length / 2)))).length y.2) (λ(y:Hp)=>Qc 56 4 QG (VZ ((l.take (l.length / 2)).length+(l.drop (l.length / 2)).length) (Yr (l.take (l.length / 2))) (Yr (l.drop (l.length / 2)))) y.1 y.2)) (λ(y:Hp)=>Ω y.1 (VZ ((l.take (l.length / 2)).length+(l.drop (l.length / 2)).length) (Yr (l.take (l.length / 2))) (Yr (l.drop (l.length / 2)))).length y.2) (λ(y:Hp)=>Qc 56 4 QG (VZ ((l.take (l.length / 2)).length+(l.drop (l.length / 2)).length) (Yr (l.take (l.length / 2))) (Yr (l.drop (l.length / 2)))) y.1 y.2)from IT λy x C S w v h=>AH v h) λ(b:Hp)=>(show ∃y:Hp,SV.val (Ω b.1 (VZ ((l.take (l.length / 2)).length+(l.drop (l.length / 2)).length) (Yr (l.take (l.length / 2))) (Yr (l.drop (l.length / 2)))).length b.2)=SV.val ((λ(y:Hp)=>Ω y.1 (Yr l).length y.2) y)/\∀(x:z0) (S:Nat->Prop) (w:y9),(Qc 56 4 QG (VZ ((l.take (l.length / 2)).length+(l.drop (l.length / 2)).length) (Yr (l.take (l.length / 2))) (Yr (l.drop (l.length / 2)))) b.1 b.2).φ x S w->((λ(y:Hp)=>Qc 56 4 QG (Yr l) y.1 y.2) y).φ x S w from⟨b,by rw[(j3 (λh=>L7 g x3))],λx S w h=>by rw[(j3 (λh=>L7 g x3))]at h;exact h⟩)) (Ql p i)) λW=>x5
theorem IK{n:Nat}: ∀(N:Nat) {A:u5} {c:Nat} {l:List Tm},l.length<=N->l.length<=4000->l.length<=c->(A=none->l.length=0/\c=0)->(∀t,t∈l->fT n 0 t)->∀w:y9,Q0 w->RdK w A l.length 4 (λj=>QG (Qb l j))->SrtOk w l A c
 | N,A,c,l,C,p,b,a,f,w,g,ha=>by
  by_cases h:l.length<2
  ·have d:=SM A c l (Lz x3) w;refine⟨d.1,λW i=>(d.2 W i).mono λe q k=>?_⟩;obtain⟨rfl,hb⟩:=k;exact⟨(A,c),.bool false,λ_=>False,by rw[CH h],(show _/\_ from⟨rfl,.inl ⟨h,rfl,λ_ h=>h⟩⟩),λ_ h=>h.elim,hb⟩
  ·obtain⟨M,rfl⟩:∃M,N=M+1:=⟨N-1,x3⟩
   have o:l.length / 2<=l.length:=Rn _ _;have r:=IK M (A:=A) (c:=c) (l:=l.take (l.length / 2)) (by rw[Lk];omega) (by rw[Lk];omega) (by rw[Lk];omega) (λe=>by have:=a e;rw[Lk];omega) (λt m=>f t (List.mem_of_mem_take m)) w g (ld ha o);have s:=IK M (A:=Wf A c (l.length / 2)) (c:=c-l.length / 2) (l:=l.drop (l.length / 2)) (by rw[Lf];omega) (by rw[Lf];omega) (by rw[Lf];omega) (PF a) (λt m=>f t (Ti m)) w g (lg b ha o);have d:=lL p b a f (Lh x3) w g ha r s;refine⟨d.1,λW i=>Calls.mono (d.2 W i) λe q k=>?_⟩;obtain⟨y,x,S,u,v,z,B⟩:=k;exact⟨y,.bool false,S,u,(show _/\_ from⟨rfl,.inr ⟨h,AH rfl v⟩⟩),z,B⟩
def xR{β:Type}(i:Nat)(val:β->z0)(ρ:β->Res)(s:SV)(σ:St): Prop:=ZV (Xe σ.rs i) λR=>Z7 s.plain (∃y:β,s.den e0=val y/\∀(x:z0) (S:Nat->Prop) (w:y9),R.φ x S w->(ρ y).φ x S w)
theorem pf{w0:y9}{β:Type}{tt:List (Nat×TI)}(l:YF P tt)(m:P.follows .mixedOrders=true){f:FuncId}{fn:Func}(n:XB P f)(o:P.funcs[f]?=some fn){N:Nat}(p:fn.ntmps=N)(q:fn.results=rs)(args:a8)(t:Nat.ble args.length N=true)(i:Nat)(val:β->z0)(ρ:β->Res)(d:List Dir){T:y9->Prop}(h:∀W,Below w0.heap.size w0 W->T W)(u:∀W,T W=EM P tt W fn (O4 N args) d λe σ _=>Vj tt rs.toList e σ λs=>xR i val ρ s σ): NewIn P w0 [] f args.toArray val ρ:=by
 refine⟨n,λW v=>?_⟩;have key:=u W▸h W v;subst p;subst q;unfold EM at key;cases hb:fn.body with
 | none =>
  rw[hb]at key;exact key.elim
 | some c =>
  rw[hb]at key;refine(NK (λs σ=>xR i val ρ s σ) l m o hb t key).mono ?_
  rintro e C ⟨s,σ,r,a,rfl,g,j⟩;obtain⟨R,k,g⟩:=QH g;obtain⟨w,y,x,z⟩:=Qp g;obtain⟨A,B⟩:=j.see.rs i R k;exact⟨y,_,_,by rw[JW w,x],z _ _ _ A,λb hb=>⟨j.sep.ownS i R k b hb,B b hb⟩,j.see.low⟩
def Qs(t:Tm): Bool:=!(sg t.c==0)
def Ky(l:List Tm)(j:Nat): List Tm:=(l.take j).filter Qs
def CQ(l:List Tm)(j:Nat): List Tm:=Ky l j++l.drop (Ky l j).length
section
variable {l:List Tm} {j:Nat}
theorem EP(l:List Tm)(j:Nat): (Ky l j).length<=j/\(Ky l j).length<=l.length:=by
 have h:(Ky l j).length<=(l.take j).length:=T7 _ _;rw[Lk]at h;omega
theorem Hc(l:List Tm)(j:Nat): (CQ l j).length=l.length:=by
 have:=(EP l j).2;unfold CQ;rw[Lq,Lf];omega
theorem Vu(h:j<l.length): l.take (j+1)=l.take j++[Qb l j]:=by
 rw[Rr h,Qb,YM h]
theorem NZ(h:j<l.length)(a:(!((sg (Qb l j).c)==0))=true): Ky l (j+1)=Ky l j++[Qb l j]:=by
 unfold Ky;rw[Vu h,List.filter_append,U7 (show Qs _=true from a)];rfl
theorem Fy(h:j<l.length)(a:(!((sg (Qb l j).c)==0))=false): Ky l (j+1)=Ky l j:=by
 unfold Ky;rw[Vu h,List.filter_append,U6 (by rw[show Qs _=false from a];decide)];simp
theorem xM(h:j<l.length): (CQ l j).getD j DL=Qb l j:=by
 have a:=(EP l j).1;unfold CQ Qb;rw[List.getD,List.getD,c6 a,List.getElem?_drop];congr 2;omega
theorem tY(h:j<l.length)(a:(!((sg (Qb l j).c)==0))=true): (CQ l j).set (Ky l j).length (Qb l j)=CQ l (j+1):=by
 have b:=(EP l j).1;unfold CQ;rw[NZ h a,List.set_append_right _ _ (L8 _),U1,Lq,S8,Tv (show(Ky l j).length<l.length by omega),Tf];simp
theorem n4(h:j<l.length)(a:(!((sg (Qb l j).c)==0))=false): CQ l (j+1)=CQ l j:=by
 unfold CQ;rw[Fy h a]
end
theorem Fx{l:List Tm}: ∀ {i:Nat},i<=l.length->(∀j,j<i->((sg (Qb l j).c)==0)=false)->Ky l i=l.take i
 | 0,_,_=>rfl
 | i+1,a,h=>by
  rw[NZ x3 (by rw[h i x3];rfl),Fx x3 λj b=>h j x3,Vu x3]
theorem Wn(l:List Tm): Ky l l.length=l.filter Qs:=by unfold Ky;rw[List.take_length]
theorem iN{W:y9}{A:u5}{l:List Tm}{j:Nat}{f:Nat->a8}(h:RdK W A (CQ l j).length 4 f): RdK W A l.length 4 f:=by rwa [Hc]at h
theorem po(W:y9)(A:u5)(c:Nat){i:Nat}{l:List Tm}(k:l.length<=4000)(d:i<l.length)(hb:((sg (Qb l i).c)==0)=true)(e:∀j,j<i->((sg (Qb l j).c)==0)=false):
  AQ prog W [Qc 56 4 QG l A c] 211 #[.slice A l.length c,.func (.func 216) #[] #[]] (.int .i64 (i:Int)):=⟨λa w=>call211 a w,λb _ x S g=>by
 have h:=(km (c:=c) x3 b (Jj QW DL g)).2 b (l3 _ _);rwa [KS (λj=>(sg (Qb l j).c)==0) e d hb]at h⟩
theorem pp(W:y9)(A:u5)(c:Nat){l:List Tm}(g:l.length<=4000)(d:∀j,j<l.length->((sg (Qb l j).c)==0)=false):
  AQ prog W [Qc 56 4 QG l A c] 211 #[.slice A l.length c,.func (.func 216) #[] #[]] (.int .i64 (-1)):=⟨λa w=>call211 a w,λb _ x S e=>by
 have h:=(km (c:=c) x3 b (Jj QW DL e)).2 b (l3 _ _);rwa [Vk (λj=>(sg (Qb l j).c)==0) d]at h⟩
theorem xN(w0:y9)(A:u5)(c j:Nat)(l:List Tm)(b:0<l.length): GC prog w0 [Qc 56 4 QG (CQ l j) A c] (Instr.sliceAt 50 (.slice A l.length c) (some (.int .i64 (((Ky l j).length:Nat):Int))) none none) (.slice (Wf A c (Ky l j).length) (l.drop (Ky l j).length).length (c-(Ky l j).length)):=λW _ x S a=>by
 have h:=lH (l:=CQ l j) (k:=(Ky l j).length) (w0:=W) (Cz a) (Jj QW DL a) (by rw[Hc];exact b) (by rw[Hc];exact(EP l j).2) W (l3 _ _);rw[Hc]at h;unfold CQ at h;rwa [List.drop_left]at h
theorem xI(w0:y9)(A:u5)(c n:Nat)(l:List Tm)(h:l.length<=n): GC prog w0 [il 56 4 n QG l A c] (Instr.sliceAt 50 (.slice A n c) none (some (.int .i64 (l.length:Int))) none) (.slice A l.length c):=λW _ x S a=>by
 obtain⟨_,⟨g,rfl⟩,b⟩:=(show _/\_ from a)
 rw[J0 prog W g 0 n c 0 l.length none (some (.int .i64 (l.length:Int))) (Qu 50 _ rfl) rfl x4 (.inl ⟨rfl,rfl⟩) (.inr ⟨.i64,rfl⟩) (La _) x3,ite_self];rfl
theorem ro:∃z,(∀w,(zeroValue 56).run prog w=.ok z w)/\z.cells.size=4/\∀u,u∈z.cells.toList->u.oneCell'=true:=by
 obtain⟨z,h⟩:∃z,(prog.info? 56).bind (λi=>i.zero)=some z:=Option.isSome_iff_exists.1 (show((prog.info? 56).bind (λi=>i.zero)).isSome=true by kernel_rfl);have b:((prog.info? 56).bind (λi=>i.zero)).map (λz=>(z.cells.size==4)&&z.cells.toList.all (λu=>u.oneCell'))=some true:=x5;rw[h,Tj]at b;have a:=hW b;rw[Lu,Sv]at a;refine⟨z,λw=>?_,a.1,λu c=>Lc.1 a.2 u c⟩;cases e:prog.info? 56 with
 | none=>rw[e]at h;cases h
 | some i =>
  rw[e]at h;have d:i.zero=some z:=h;simp[zeroValue,typeInfo,e,d]
theorem iM(w0:y9)(A:u5)(c j ty:Nat)(l:List Tm)(n:0<l.length):
  ∀W,Below w0.heap.size w0 W->∀x S,(Qc 56 4 QG (CQ l j) A c).φ x S W->G2 prog W (λ_:Unit=>.tuple #[]) (λ_:Unit=>il 56 4 l.length QG (Ky l j) A c) x S (VG .clear #[50] ty [.slice (Wf A c (Ky l j).length) (l.drop (Ky l j).length).length (c-(Ky l j).length)]):=λW a x S b=>by
 obtain⟨z,d,f,i⟩:=ro;have o:=(EP l j).2;have h:=fY (P:=prog) (w0:=w0) (t:=50) (ty:=ty) (A:=A) (cp:=c) (l1:=Ky l j) (l2:=l.drop (Ky l j).length) (B:=Wf A c (Ky l j).length) (cq:=c-(Ky l j).length) QW x5 d f x4 i (by rw[Lf];omega) (λg e k m=>by
  rw[Lf]at k m;rw[e];simp[Wf,show c≠(Ky l j).length by omega]) W a x S b
 rwa [Lf,show(Ky l j).length+(l.length-(Ky l j).length)=l.length by omega,<- Lf]at h
theorem QT{k n:Nat}(h:decide ((k:Int)<(n:Int))=true): k<n:=y6 (L1 h)
theorem FM{k n:Nat}(h:decide ((k:Int)<(n:Int))=false): n<=k:=y6 (L7 h)
theorem yq{k:Nat}{l:List Tm}(h:decide ((k:Int)<(l.length:Int))=true): (Ky l k).length<l.length:=y7 ((EP l k).1) (QT h)
theorem t7{A:u5}{c:Nat}{l:List Tm}(b:l.length<=4000)(d:∀j,j<l.length->((sg (Qb l j).c)==0)=false)(W:y9): FxF prog W (Qc 56 4 QG l A c) 212 #[Ω A l.length c,.func (.func 216) #[] #[]] (λ_:Unit=>Ω A l.length c) (λ_:Unit=>Qc 56 4 QG l A c) (λ_=>False) :=
 Gb (β:=Unit) Qu QR (λa w=>call212 a w) func212 ntmps212 results212 _ rfl _ _ _ _ [.o 1 2 (.retr [0] (Θ (-1)))] (λF=>ai (pp W A c b d)<|(Zs (F:=F) (v:=Ω A l.length c) (val:=λ_:Unit=>Ω A l.length c) (R1:=Qc 56 4 QG l A c) (R:=λ_:Unit=>Qc 56 4 QG l A c) () rfl λ_ _ _ h=>h)) λF=>x5
abbrev HEs:z0:=.func (.func 216) #[] #[]
theorem tZ{A:u5}{c i:Nat}{l:List Tm}(B:l.length<=4000)(f:i<l.length)(g:((sg (Qb l i).c)==0)=true)(x:∀j,j<i->((sg (Qb l j).c)==0)=false)(W:y9): FxF prog W (Qc 56 4 QG l A c) 212 #[Ω A l.length c,.func (.func 216) #[] #[]] (λ_:Unit=>Ω A (l.filter Qs).length c) (λ_:Unit=>Qc 56 4 QG (l.filter Qs) A c) (λ_=>False) :=
 Gb (β:=Unit) Qu QR (λa w=>call212 a w) func212 ntmps212 results212 _ rfl _ _ _ _ [.o 1 2 (.retr [0] (Θ (i:Int))),.br false,.o 4 1 (.eq (iV ((i+1:Nat):Int))),.lop (λ(q1:Nat)=>(⟨42,[(0,lV A l.length c),(1,.val HEs),(4,lV none 0 0),(5,iV (((Ky l q1).length:Nat):Int)),(6,iV (q1:Int))],[],[some (Qc 56 4 QG (CQ l q1) A c),none]⟩:St)) (λ(q1:Nat)=>(q1<=l.length)) (λ(q1:Nat)=>(l.length-q1)) ((i+1):Nat) (λ(q1:Nat) (u:List Hp)=>q1+1) (λ(q1:Nat)=>[.both [.o 7 2 (.rd [0] (.pointer (some (Xi A (q1*4+0))))),.o 7 3 (.rd [0] (.agg #[Ψ ((Qb l q1).m),Ξ ((Qb l q1).c.b),Ψ ((Qb l q1).c.s),Θ ((Qb l q1).c.e)])),.o 8 2 (.ret (bV ((sg (Qb l q1).c)==0))),.both [.o 9 3 (.rd [0] (.pointer (some (Xi A (((Ky l q1).length)*4+0))))),.eff 9 4 0 (λ(p:Unit)=>undef) (λ(p:Unit)=>Qc 56 4 QG (CQ l (q1+1)) A c) (λ(p:Unit)=>[.o 10 1 (.eq (iV (((Ky l q1).length+1:Nat):Int))),.o 6 1 (.eq (iV ((q1+1:Nat):Int))),.nxt []])] [.o 6 1 (.eq (iV ((q1+1:Nat):Int))),.nxt []]] [.o 11 2 (.rd [0] (Ω (Wf A c (Ky l q1).length) (l.drop (Ky l q1).length).length (c-(Ky l q1).length))),.eff 11 3 0 (λ(p:Unit)=>.tuple #[]) (λ(p:Unit)=>il 56 4 l.length QG (Ky l q1) A c) (λ(p:Unit)=>[.o 12 2 (.rd [0] (Ω A (Ky l q1).length c))])]])] (λF=>Zb (po W A c B f g x) (show(((i:Int))==(-1))=false from R7.2 x3) (QQ i x3) (qV (Ω A l.length c)) (qV HEs) (qV (x01)) (show(i:Int)=(((Ky l (i+1)).length:Nat):Int)from by rw[(Fy (l:=l) f (by rw[g];rfl)).trans (Fx (l:=l) (Sf f) x),Lk,T4 (Sf f)]) (qI (((i+1):Nat):Int))<|X7 (Zo (Qc 56 4 QG l A c) (Qc 56 4 QG (CQ l (i+1)) A c) λ_ _ _ h=>(by have e:CQ l (i+1)=l:=(by unfold CQ;rw[(Fy (l:=l) f (by rw[g];rfl)).trans (Fx (l:=l) (Sf f) x),Lk,T4 (Sf f),List.take_append_drop]);rw[e];exact h)) (Yu F)<|ai (show i+1<=l.length from f) λ(q1:Nat) (z:(q1<=l.length))=>XA (decide ((q1:Int)<(l.length:Int))) (λd=>JH (JX (w0:=W) (e:=56) (k:=4) (c:=QG) (l:=CQ l q1) (A:=A) (cp:=c) QW DL (λq r=>YN c q1 (w0:=q) (iN r) (QT d))) (JX (w0:=W) (e:=56) (k:=4) (c:=QG) (l:=CQ l q1) (A:=A) (cp:=c) QW DL (λq r=>Zf q1 0 (w0:=q) (iN r) (QT d) x4 rfl (by rw[xM (QT d)]<;>rfl))) (Pr (Qb l q1) W)<|XA (!((sg (Qb l q1).c)==0)) (λhb=>ai (JX (w0:=W) (e:=56) (k:=4) (c:=QG) (l:=CQ l q1) (A:=A) (cp:=c) QW DL (λq r=>YN c ((Ky l q1).length) (w0:=q) (iN r) (yq d)))<|ai (OK prog W 56 4 c QG A 56 ((Ky l q1).length) 0 (CQ l q1) (CQ l (q1+1)) (.agg #[Ψ ((Qb l q1).m),Ξ ((Qb l q1).c.b),Ψ ((Qb l q1).c.s),Θ ((Qb l q1).c.e)]) (Qb l q1) QW DL (Qu 56 _ rfl) rfl rfl x4 (by rw[Hc];exact yq d) (Kk _) (tY (QT d) hb)) λ(p:Unit)=>Zb (show IntKind.i64.wrap ((((Ky l q1).length:Nat):Int)+1)=(((Ky l q1).length+1:Nat):Int)from QQ _ (y6 ((EP l q1).2))) (QQ q1 (y6 (QT d))) (qV (Ω A l.length c)) (qV HEs) (qV (x01)) (show(((Ky l q1).length+1:Nat):Int)=(((Ky l (q1+1)).length:Nat):Int)from by rw[NZ (QT d) hb,Lq];rfl) (qI (((q1+1):Nat):Int)) (Yu (Qc 56 4 QG (CQ l (q1+1)) A c))<|ai (Yu F)<|ai (show q1+1<=l.length from QT d) (show l.length-(q1+1)<l.length-q1 from y6 (QT d))) λhb=>Zb (QQ q1 (y6 (QT d))) (qV (Ω A l.length c)) (qV HEs) (qV (x01)) (show(((Ky l q1).length:Nat):Int)=(((Ky l (q1+1)).length:Nat):Int)from by rw[Fy (QT d) hb]) (qI (((q1+1):Nat):Int)) (Zo (Qc 56 4 QG (CQ l q1) A c) (Qc 56 4 QG (CQ l (q1+1)) A c) λ_ _ _ h=>(by rw[n4 (QT d) hb];exact h)) (Yu F)<|ai (show q1+1<=l.length from QT d) (show l.length-(q1+1)<l.length-q1 from y6 (QT d))) λd=>ai (xN W A c q1 l (Lw (La _) f))<|ai (iM W A c q1 0 l (Lw (La _) f)) λ(p:Unit)=>ai (xI W A c l.length (Ky l q1) (EP l q1).2)<|(Zs (F:=F) (v:=Ω A (Ky l q1).length c) (val:=λ_:Unit=>Ω A (l.filter Qs).length c) (R1:=il 56 4 l.length QG (Ky l q1) A c) (R:=λ_:Unit=>Qc 56 4 QG (l.filter Qs) A c) () (by rw[(show Ky l q1=l.filter Qs from by rw[show q1=l.length from Rb z (FM d),Wn])]) λ_ _ _ h=>(by have h:=h.1;rw[(show Ky l q1=l.filter Qs from by rw[show q1=l.length from Rb z (FM d),Wn])]at h;exact h))) λF=>x5
theorem sd(A:u5)(c:Nat)(l:List Tm)(f:l.length<=4000)(W:y9): FxF prog W (Qc 56 4 QG l A c) 212 #[.slice A l.length c,.func (.func 216) #[] #[]] (λ_:Unit=>.slice A (l.filter Qs).length c) (λ_:Unit=>Qc 56 4 QG (l.filter Qs) A c) (λ_=>False):=by
 by_cases h:∃i,i<l.length/\((sg (Qb l i).c)==0)=true
 ·obtain⟨i,⟨d,hb⟩,k⟩:∃i,(i<l.length/\((sg (Qb l i).c)==0)=true)/\∀j,j<i->¬(j<l.length/\((sg (Qb l j).c)==0)=true):=by
   obtain⟨i,d⟩:=h;induction i using Nat.strongRecOn with
   | _ i m =>
    by_cases b:∃j,j<i/\j<l.length/\((sg (Qb l j).c)==0)=true
    ·obtain⟨j,n,o⟩:=b;exact m j n o
    ·exact⟨i,d,λj a p=>b ⟨j,a,p⟩⟩
  exact tZ f d hb (λj a=>by simpa using λh=>k j a ⟨x3,h⟩) W
 ·have g:∀j,j<l.length->((sg (Qb l j).c)==0)=false:=λj a=>by simpa using λb=>h ⟨j,a,b⟩
  have q:=t7 (A:=A) (c:=c) f g W;have e:l.filter Qs=l:=by rw[<- Wn,Fx (L8 _) g,List.take_length]
  rw[e];exact q
def AL(l:List Tm)(k:Nat): List Tm:=(l.take k).map X5++l.drop k
theorem Wo(l:List Tm)(k:Nat): (AL l k).length=l.length:=by
 unfold AL;rw[Lq,Sk,Lk,Lf];omega
theorem bB{l:List Tm}{k:Nat}(h:k<l.length): (AL l k).getD k DL=Qb l k:=by
 unfold AL Qb;rw[List.getD,List.getD,c6 (by rw[Sk,Lk];omega),List.getElem?_drop,Sk,Lk];congr 2;omega
theorem jg{l:List Tm}{k:Nat}(h:k<l.length): (AL l k).set k (X5 (Qb l k))=AL l (k+1):=by
 have a:((l.take k).map X5).length=k:=by rw[Sk,Lk];omega
 unfold AL;rw[List.set_append_right _ _ (by rw[a];exact L8 _),a,U1,Tv h,Tf,Vu h,Th];simp
theorem jf(l:List Tm): AL l l.length=l.map X5:=by unfold AL;simp
theorem MJ{W:y9}{A:u5}{l:List Tm}{k:Nat}{f:Nat->a8}(h:RdK W A (AL l k).length 4 f): RdK W A l.length 4 f:=by rwa [Wo]at h
theorem CZ(l:List Tm): ((Yr l).filter Qs).length<=l.length:=L9 (T7 _ _) (VW _ _)
abbrev m9(l:List Tm)(A:u5)(c:Nat): Res:=Qk (Qc 56 4 QG l A c) anyR
theorem o9{l:List Tm}{A:u5}{c:Nat}{x:z0}{S:Nat->Prop}{w:y9}(h:(Qc 56 4 QG l A c).φ x S w): (m9 l A c).φ x S w:=(show ∃a d e,_ from⟨S,λ_=>False,.bool false,h,rfl,λ_ _ h=>h,λb=>⟨.inl,λh=>h.elim id False.elim⟩⟩)
theorem uN{l:List Tm}{A:u5}{c:Nat}{R:Res}{x:z0}{S:Nat->Prop}{w:y9}(h:(Qk R (Qc 56 4 QG l A c)).φ x S w): (m9 l A c).φ x S w:=by
 obtain⟨a,d,e,i,g,j,k⟩:=(show ∃a d e,_ from h)
 exact(show ∃a d e,_ from⟨d,a,e,AH (R.one _ _ _ i) g,(Qc 56 4 QG l A c).one _ _ _ g,λb hb f=>j b f hb,λb=>by rw[k];exact or_comm⟩)
theorem qL(n:Nat)(A:u5)(c:Nat)(l:List Tm)(g:¬ l.length<2)(i:l.length<=4000)(j:∀t,t∈l->fT n 0 t){W:y9}(k:Q0 W): NewIn prog W [Qc 56 4 QG l A c] 213 #[.slice A l.length c,ze,zi] (λy:Hp=>.slice y.1 (Yr l).length y.2) (λy:Hp=>Qc 56 4 QG (Yr l) y.1 y.2):=⟨λa w=>call213 a w,λf m x S b=>by
 have h:=IK (n:=n) l.length (A:=A) (c:=c) (l:=l) (L8 _) i (Cz b) (IB b).1 j f (Ql k m) (Jj QW DL b);refine Calls.mono (h.2 f (l3 _ _)) λe s o=>?_
 obtain⟨y,x,S,p,k1,q,r⟩:=o;rcases k1.2 with⟨d,_⟩|⟨_,d⟩
 ·exact absurd d g
 ·exact⟨y,_,S,p,d,q,r⟩⟩
theorem ik{l:List Tm}(h:decide ((l.length:Int)<2)=true): Xk l=l.filter Qs:=by
 have a:Yr l=l:=CH (y6 (L1 h));show(Yr l).filter Qs=_;rw[a]
theorem kj{x:Bool}{s:u4}{e:Int}(u:z0)(h:u∈(Value.agg #[.bool x,.string s,.int .i64 e]).cells.toList): u.oneCell'=true:=by
 simp only[Value.cells,Ll,Rf,or_false]at h;rcases h with rfl|rfl|rfl<;>rfl
abbrev HEt(l:List Tm)(q1:Nat):=nv (Qb (l.filter Qs) q1).c
abbrev HEu(l:List Tm):Int:=((l.filter Qs).length:Nat)
abbrev HEv:=some (52,[iV 0,lV none 0 0])
theorem nN{n:Nat}{vars:Int}{A:u5}{c:Nat}{l:List Tm}(x:l.length<=4000)(m:∀t,t∈l->fT n 0 t)(f:decide ((l.length:Int)<2)=true)(W:y9)(p:Q0 W): FxF prog W (Qc 56 4 QG l A c) 157 #[Θ vars,Ω A l.length c] (λy:Hp=>Value.tuple #[.agg #[Θ vars,Ω y.1 ((Xk l).map X5).length y.2],Θ 0]) (λy:Hp=>m9 ((Xk l).map X5) y.1 y.2) (λ_=>False) :=
 Gb (β:=Hp) Qu QR (λa w=>call157 a w) func157 ntmps157 results157 _ rfl _ _ _ _ [.o 1 1 (.ret (lV A l.length c)),.fx 1 2 0 (λ(q:Unit)=>Ω A (l.filter Qs).length c) (λ(q:Unit)=>Qc 56 4 QG (l.filter Qs) A c) (λ_=>False) (λ(q:Unit)=>[.br false,.lop (λ(q1:Nat)=>(⟨33,[(0,iV vars),(1,lV A (l.filter Qs).length c),(4,.ptr 0 0),(15,iV (HEu l)),(16,iV (q1:Int))],[none],[some (Qc 56 4 QG (AL (l.filter Qs) q1) A c),none]⟩:St)) (λ(q1:Nat)=>(q1<=(l.filter Qs).length)) (λ(q1:Nat)=>((l.filter Qs).length-q1)) (0:Nat) (λ(q1:Nat) (u:List Hp)=>q1+1) (λ(q1:Nat)=>[.both [.o 7 4 (.rd [0] (.pointer (some (Xi A (q1*4+0))))),.o 7 5 (.set (.pointer (some (Xi A (q1*4+1))))),.o 7 6 (.rd [0] (nA ((Qb (l.filter Qs) q1).c))),.o 7 7 (.ret (.agg [bV (neg (dm (HEt l q1))),sV (Qx (dm (HEt l q1))),iV (de (HEt l q1))])),.o 7 8 (.rd [0] (.pointer (some (Xi A (q1*4+0))))),.o 7 9 (.set (.pointer (some (Xi A (q1*4+1))))),.eff 7 10 0 (λ(r:Unit)=>undef) (λ(r:Unit)=>Qc 56 4 QG (AL (l.filter Qs) (q1+1)) A c) (λ(r:Unit)=>[.o 8 0 (.eq (iV ((q1+1:Nat):Int))),.nxt []])] []])])] (λF=>X7 (SM A c l f W) (sd A c l x W)<|ai (λ(q:Unit)=>Zb (show decide ((((l.filter Qs).length:Nat):Int)>4096)=false from Lh (y6 (T7 Qs l))) (qI vars) (qV (Ω A (l.filter Qs).length c)) (qI (HEu l)) (qI ((0:Nat):Int)) (qk HEv) (Zo (Qc 56 4 QG (l.filter Qs) A c) (Qc 56 4 QG (AL (l.filter Qs) 0) A c) λ_ _ _ h=>(by exact h)) (Yu F)<|ai (show 0<=(l.filter Qs).length from La _) λ(q1:Nat) (z:(q1<=(l.filter Qs).length))=>XA (decide ((q1:Int)<(((l.filter Qs).length:Nat):Int))) (λd=>Gz (JX (w0:=W) (e:=56) (k:=4) (c:=QG) (l:=AL (l.filter Qs) q1) (A:=A) (cp:=c) QW DL (λg j=>YN c q1 (w0:=g) (MJ j) (QT d))) (Bw W A 4 q1 0) (JX (w0:=W) (e:=56) (k:=4) (c:=QG) (l:=AL (l.filter Qs) q1) (A:=A) (cp:=c) QW DL (λg j=>Db q1 1 (w0:=g) (MJ j) (QT d) x4 rfl (by rw[bB (QT d)]<;>rfl))) (rt p call52 λW p=>JS (Qb (l.filter Qs) q1).c.s (Qb (l.filter Qs) q1).c.b (Qb (l.filter Qs) q1).c.e W (by have:=((show fT n l.length (Qb (l.filter Qs) q1)from(m _ (Sd.1 (Zh (QT d))).1).up (La _)).2.ok x3).sz;omega) (by have:=((show fT n l.length (Qb (l.filter Qs) q1)from(m _ (Sd.1 (Zh (QT d))).1).up (La _)).2.ok x3).lo;omega) (by have:=((show fT n l.length (Qb (l.filter Qs) q1)from(m _ (Sd.1 (Zh (QT d))).1).up (La _)).2.ok x3).hi;omega) p) (JX (w0:=W) (e:=56) (k:=4) (c:=QG) (l:=AL (l.filter Qs) q1) (A:=A) (cp:=c) QW DL (λg j=>YN c q1 (w0:=g) (MJ j) (QT d))) (Bw W A 4 q1 0)<|ai (OK prog W 56 4 c QG A 32 q1 1 (AL (l.filter Qs) q1) (AL (l.filter Qs) (q1+1)) (.agg #[Ξ (neg (dm (HEt l q1))),Ψ (Qx (dm (HEt l q1))),Θ (de (HEt l q1))]) (X5 (Qb (l.filter Qs) q1)) QW DL (Qu 32 _ rfl) (by rw[bB (QT d)]<;>rfl) rfl x4 (by rw[Wo];exact QT d) kj (jg (QT d))) λ(r:Unit)=>Zb (QQ q1 (y7 (QT d) (T7 Qs l))) (qI vars) (qV (Ω A (l.filter Qs).length c)) (qI (HEu l)) (qI (((q1+1):Nat):Int)) (qk HEv) (Yu (Qc 56 4 QG (AL (l.filter Qs) (q1+1)) A c)) (Yu F)<|ai (show q1+1<=(l.filter Qs).length from QT d) (show(l.filter Qs).length-(q1+1)<(l.filter Qs).length-q1 from y6 (QT d))) λd=>(Zs (F:=F) (v:=.tuple #[.agg #[Θ vars,Ω A (l.filter Qs).length c],Θ 0]) (val:=λy:Hp=>Value.tuple #[.agg #[Θ vars,Ω y.1 ((Xk l).map X5).length y.2],Θ 0]) (R1:=Qc 56 4 QG (AL (l.filter Qs) q1) A c) (R:=λy:Hp=>m9 ((Xk l).map X5) y.1 y.2) ((A,c):Hp) (by rw[<- (show(l.filter Qs).map X5=((Xk l).map X5)from by rw[ik f]),Sk]) λ_ _ _ h=>by have h:=o9 h;rw[(show q1=(l.filter Qs).length from Rb z (FM d)),jf,(show(l.filter Qs).map X5=((Xk l).map X5)from by rw[ik f])]at h;exact h)) (X9 F (λ_=>False) (λ_=>False) λ_ h=>h)) λF=>x5
theorem nO{n:Nat}{vars:Int}{A:u5}{c:Nat}{l:List Tm}(x:l.length<=4000)(m:∀t,t∈l->fT n 0 t)(z:¬ l.length<2)(W:y9)(p:Q0 W): FxF prog W (Qc 56 4 QG l A c) 157 #[Θ vars,Ω A l.length c] (λy:Hp=>Value.tuple #[.agg #[Θ vars,Ω y.1 ((Xk l).map X5).length y.2],Θ 0]) (λy:Hp=>m9 ((Xk l).map X5) y.1 y.2) (λ_=>False) :=
 Gb (β:=Hp) Qu QR (λa w=>call157 a w) func157 ntmps157 results157 _ rfl _ _ _ _ [.mk 1 1 [0] (λ(d:Hp)=>Ω d.1 (Yr l).length d.2) (λ(d:Hp)=>Qc 56 4 QG (Yr l) d.1 d.2) (λ(d:Hp)=>[.fx 1 2 2 (λ(q:Unit)=>Ω d.1 ((Yr l).filter Qs).length d.2) (λ(q:Unit)=>Qc 56 4 QG ((Yr l).filter Qs) d.1 d.2) (λ_=>False) (λ(q:Unit)=>[.br false,.lop (λ(q1:Nat)=>(⟨33,[(0,iV vars),(1,lV d.1 ((Yr l).filter Qs).length d.2),(4,.ptr 0 0),(15,iV ((((Yr l).filter Qs).length:Nat):Int)),(16,iV (q1:Int))],[none],[none,none,some (Qc 56 4 QG (AL ((Yr l).filter Qs) q1) d.1 d.2)]⟩:St)) (λ(q1:Nat)=>(q1<=((Yr l).filter Qs).length)) (λ(q1:Nat)=>(((Yr l).filter Qs).length-q1)) (0:Nat) (λ(q1:Nat) (u:List Hp)=>q1+1) (λ(q1:Nat)=>[.both [.o 7 4 (.rd [2] (.pointer (some (Xi d.1 (q1*4+0))))),.o 7 5 (.set (.pointer (some (Xi d.1 (q1*4+1))))),.o 7 6 (.rd [2] (nA ((Qb ((Yr l).filter Qs) q1).c))),.o 7 7 (.ret (.agg [bV (neg (dm (nv (Qb ((Yr l).filter Qs) q1).c))),sV (Qx (dm (nv (Qb ((Yr l).filter Qs) q1).c))),iV (de (nv (Qb ((Yr l).filter Qs) q1).c))])),.o 7 8 (.rd [2] (.pointer (some (Xi d.1 (q1*4+0))))),.o 7 9 (.set (.pointer (some (Xi d.1 (q1*4+1))))),.eff 7 10 2 (λ(r:Unit)=>undef) (λ(r:Unit)=>Qc 56 4 QG (AL ((Yr l).filter Qs) (q1+1)) d.1 d.2) (λ(r:Unit)=>[.o 8 0 (.eq (iV ((q1+1:Nat):Int))),.nxt []])] [.join 9 4 0 2]])])])] (λF=>ai (qL n A c l z x m p) λ(d:Hp)=>ai (sd d.1 d.2 (Yr l) (L9 (VW _ _) x) W)<|ai (λ(q:Unit)=>Zb (show decide (((((Yr l).filter Qs).length:Nat):Int)>4096)=false from Lh (y6 (CZ l))) (qI vars) (qV (Ω d.1 ((Yr l).filter Qs).length d.2)) (qI ((((Yr l).filter Qs).length:Nat):Int)) (qI ((0:Nat):Int)) (qk (some (52,[iV 0,lV none 0 0]))) (Yu (Qc 56 4 QG l A c)) (Yu F)<|ai (Zo (Qc 56 4 QG ((Yr l).filter Qs) d.1 d.2) (Qc 56 4 QG (AL ((Yr l).filter Qs) 0) d.1 d.2) λ_ _ _ h=>(by exact h))<|ai (show 0<=((Yr l).filter Qs).length from La _) λ(q1:Nat) (B:(q1<=((Yr l).filter Qs).length))=>XA (decide ((q1:Int)<((((Yr l).filter Qs).length:Nat):Int))) (λf=>Gz (JX (w0:=W) (e:=56) (k:=4) (c:=QG) (l:=AL ((Yr l).filter Qs) q1) (A:=d.1) (cp:=d.2) QW DL (λg j=>YN d.2 q1 (w0:=g) (MJ j) (QT f))) (Bw W d.1 4 q1 0) (JX (w0:=W) (e:=56) (k:=4) (c:=QG) (l:=AL ((Yr l).filter Qs) q1) (A:=d.1) (cp:=d.2) QW DL (λg j=>Db q1 1 (w0:=g) (MJ j) (QT f) x4 rfl (by rw[bB (QT f)]<;>rfl))) (rt p call52 λW p=>JS (Qb ((Yr l).filter Qs) q1).c.s (Qb ((Yr l).filter Qs) q1).c.b (Qb ((Yr l).filter Qs) q1).c.e W (by have:=((show fT n l.length (Qb ((Yr l).filter Qs) q1)from Bp m _ (Zh (QT f))).2.ok x3).sz;omega) (by have:=((show fT n l.length (Qb ((Yr l).filter Qs) q1)from Bp m _ (Zh (QT f))).2.ok x3).lo;omega) (by have:=((show fT n l.length (Qb ((Yr l).filter Qs) q1)from Bp m _ (Zh (QT f))).2.ok x3).hi;omega) p) (JX (w0:=W) (e:=56) (k:=4) (c:=QG) (l:=AL ((Yr l).filter Qs) q1) (A:=d.1) (cp:=d.2) QW DL (λg j=>YN d.2 q1 (w0:=g) (MJ j) (QT f))) (Bw W d.1 4 q1 0)<|ai (OK prog W 56 4 d.2 QG d.1 32 q1 1 (AL ((Yr l).filter Qs) q1) (AL ((Yr l).filter Qs) (q1+1)) (.agg #[Ξ (neg (dm (nv (Qb ((Yr l).filter Qs) q1).c))),Ψ (Qx (dm (nv (Qb ((Yr l).filter Qs) q1).c))),Θ (de (nv (Qb ((Yr l).filter Qs) q1).c))]) (X5 (Qb ((Yr l).filter Qs) q1)) QW DL (Qu 32 _ rfl) (by rw[bB (QT f)]<;>rfl) rfl x4 (by rw[Wo];exact QT f) kj (jg (QT f))) λ(r:Unit)=>Zb (QQ q1 (y7 (QT f) (CZ l))) (qI vars) (qV (Ω d.1 ((Yr l).filter Qs).length d.2)) (qI ((((Yr l).filter Qs).length:Nat):Int)) (qI (((q1+1):Nat):Int)) (qk (some (52,[iV 0,lV none 0 0]))) (Yu (Qc 56 4 QG l A c)) (Yu F)<|ai (Yu (Qc 56 4 QG (AL ((Yr l).filter Qs) (q1+1)) d.1 d.2))<|ai (show q1+1<=((Yr l).filter Qs).length from QT f) (show((Yr l).filter Qs).length-(q1+1)<((Yr l).filter Qs).length-q1 from y6 (QT f))) λf=>(Zs (F:=F) (v:=.tuple #[.agg #[Θ vars,Ω d.1 ((Yr l).filter Qs).length d.2],Θ 0]) (val:=λy:Hp=>Value.tuple #[.agg #[Θ vars,Ω y.1 ((Xk l).map X5).length y.2],Θ 0]) (R1:=Qk (Qc 56 4 QG l A c) (Qc 56 4 QG (AL ((Yr l).filter Qs) q1) d.1 d.2)) (R:=λy:Hp=>m9 ((Xk l).map X5) y.1 y.2) ((d.1,d.2):Hp) (by rw[<- (show((Yr l).filter Qs).map X5=((Xk l).map X5)from rfl),Sk]) λ_ _ _ h=>by have h:=uN h;rw[(show q1=((Yr l).filter Qs).length from Rb B (FM f)),jf,(show((Yr l).filter Qs).map X5=((Xk l).map X5)from rfl)]at h;exact h)) (X9 F (λ_=>False) (λ_=>False) λ_ h=>h)) λF=>x5
theorem gU(l:List Tm)(f:Tm->Bool): (Ye l.length λj=>f (Qb l j))=l.any f:=by
 rw[Bool.eq_iff_iff,anyB_iff,Uj];constructor
 ·rintro⟨j,a,h⟩;exact⟨_,Zh a,h⟩
 ·rintro⟨t,b,h⟩;obtain⟨j,a,rfl⟩:=List.getElem_of_mem b;exact⟨j,a,by unfold Qb;rw[YM a];exact h⟩
section
variable {vars:Int} {l:List Tm}
theorem Wk:(decide (0<=vars/\vars<=12))=(decide (0<=vars)&&decide (vars<=12)):=by rw[Bool.eq_iff_iff];simp
theorem sw(h:(!decide (0<=vars/\vars<=12))=true): Xa vars l=(di,1):=by
 unfold Xa;rw[<- Wk,h];rfl
theorem sx(h:(!decide (0<=vars/\vars<=12))=false)(a:(Ye l.length λj=>!Jq (Qb l j).m vars)=true): Xa vars l=(di,1):=by
 unfold Xa;rw[<- Wk,h,<- gU l λt=>!Jq t.m vars,a];rfl
theorem cg(h:(!decide (0<=vars/\vars<=12))=false)(a:(Ye l.length λj=>!Jq (Qb l j).m vars)=false)(b:l.length<=4000): Xa vars l=(⟨vars,(Xk l).map X5⟩,0):=by
 have c:(Xk l).length<=l.length:=CZ l;unfold Xa;rw[<- Wk,h,<- gU l λt=>!Jq t.m vars,a,show decide ((l.length:Int)>65536)=false from Lh x3,show decide (((Xk l).length:Int)>4096)=false from Lh x3];rfl
end
theorem j4(l:List Tm)(A:u5)(c:Nat)(x:z0)(S:Nat->Prop)(w:y9)(h:(m9 l A c).φ x S w): ∃a d,(Qc 56 4 QG l A c).φ x a w/\anyR.φ (.bool false) d w/\(∀b,a b->¬ d b)/\∀b,a b\/d b->S b:=by
 obtain⟨a,d,e,f,j,g,i⟩:=(show ∃a d e,_ from h)
 exact⟨a,d,f,rfl,g,λb hb=>(i b).2 hb⟩
theorem aX(n:Nat)(vars:Int)(A:u5)(c:Nat)(l:List Tm)(a:l.length<=4000)(b:∀t,t∈l->fT n 0 t)(W:y9)(d:Q0 W): FxF prog W (Qc 56 4 QG l A c) 157 #[.int .i64 vars,.slice A l.length c] (λy:Hp=>Value.tuple #[.agg #[.int .i64 vars,.slice y.1 ((Xk l).map X5).length y.2],.int .i64 0]) (λy:Hp=>m9 ((Xk l).map X5) y.1 y.2) (λ_=>False):=by
 by_cases h:l.length<2
 ·exact nN a b (Lz x3) W d
 ·exact nO a b h W d
abbrev HEw(l:List Tm):=λ(b:Hp)=>([.pur 4,.pur 5,.spl 5 6 0 (Qc 56 4 QG ((Xk l).map X5) b.1 b.2) anyR]:List Dir)
abbrev HEx(vars:Int)(l:List Tm):=λ(b:Hp)=>(.tuple #[.agg #[.int .i64 vars,.slice b.1 ((Xk l).map X5).length b.2],.int .i64 0]:z0)
theorem uI(n:Nat)(vars:Int){A:u5}{c:Nat}{l:List Tm}(i:l.length<=4000)(v:n<=1000)(k:A=none->l.length=0/\c=0)(r:∀t,t∈l->fT n 0 t)(w:y9)(q:Q0 w)(ha:RdK w A l.length 4 (λj=>QG (Qb l j))): NewIn prog w [] 115 #[Θ vars,Ω A l.length c] (λ(y:Hp)=>Value.tuple #[.agg #[Θ (Xa vars l).1.vars,Ω y.1 (Xa vars l).1.ts.length y.2],Θ (Xa vars l).2]) (λ(y:Hp)=>Qc 56 4 QG ((Xa vars l).1.ts) y.1 y.2) :=
 pf (β:=Hp) Qu QR (λa w=>call115 a w) func115 ntmps115 results115 _ rfl 0 _ _ [.o 1 1 (.ret (bV (decide (0<=vars/\vars<=12)))),.gb 1 4 [.o 1 6 (.ret (bV (Ye l.length λj=>!(Jq (Qb l j).m vars)))),.both [.nil 2 1 56 4 QG] [.br false,.ord,.pur 1,.both [.o 5 2 (.nw (.han 0) [] (λ(y:Hp)=>Ω y.1 l.length y.2) (λ(y:Hp)=>Qc 56 4 QG l y.1 y.2)),.opn 5 3 0 (λ(d:Hp)=>Ω d.1 l.length d.2) (λ(d:Hp)=>Qc 56 4 QG l d.1 d.2) (λ(d:Hp)=>[.fx 5 3 0 (HEx vars l) (λ(b:Hp)=>m9 ((Xk l).map X5) b.1 b.2) (λ_=>False) (HEw l)])] [.o 5 2 (.nw (.han 0) [] (λ(y:Hp)=>Ω y.1 l.length y.2) (λ(y:Hp)=>Qc 56 4 QG l y.1 y.2)),.opn 5 3 0 (λ(d:Hp)=>Ω d.1 l.length d.2) (λ(d:Hp)=>Qc 56 4 QG l d.1 d.2) (λ(d:Hp)=>[.fx 5 3 0 (HEx vars l) (λ(b:Hp)=>m9 ((Xk l).map X5) b.1 b.2) (λ_=>False) (HEw l)])]]] [.nil 2 1 56 4 QG]] (λW u=>have s:=ha.up u (λ_=>rfl);(λ(q:Q0 W)=>ai (sn vars W)<|ZG (!(decide (0<=vars/\vars<=12))) false (λe=>ai (wZ call155 λV z g p=>pj (vars:=vars) (A:=A) (c:=c) (l:=l) x3 (λt B=>y6 ((r t B).1)) V p (s.below (λ_=>rfl) z))<|XA (Ye l.length λj=>!(Jq (Qb l j).m vars)) (λf=>(show ∃y:Hp,(.tuple #[.agg #[Θ 0,x01],Θ 1]:z0)=(λ(y:Hp)=>Value.tuple #[.agg #[Θ (Xa vars l).1.vars,Ω y.1 (Xa vars l).1.ts.length y.2],Θ (Xa vars l).2]) y/\∀(x:z0) (S:Nat->Prop) (w:y9),(Qc 56 4 QG ([]:List Tm) none 0).φ x S w->((λ(y:Hp)=>Qc 56 4 QG ((Xa vars l).1.ts) y.1 y.2) y).φ x S w from⟨((none,0):Hp),by rw[(sx e f)]<;>rfl,λx S w h=>by rw[(sx e f)];exact h⟩)) λf=>ai (show decide ((l.length:Int)>65536)=false from Lh x3)<|(k0 (X7 (Ps x3 W (show Rw W 4 QG DL l A c from⟨s,k⟩)) (show ∀y:Hp,(Ω y.1 l.length y.2:z0).oneCell'=true from λ_=>rfl)<|ai (show vH (Mi (λ(y:Hp)=>Ω y.1 l.length y.2) (λ(y:Hp)=>Qc 56 4 QG l y.1 y.2)) (λ(y:Hp)=>Ω y.1 l.length y.2) (λ(y:Hp)=>Qc 56 4 QG l y.1 y.2)from IT λy x C S w p h=>AH p h) λ(d:Hp)=>ai (aX n vars d.1 d.2 l i r W q)<|ai (λ(b:Hp)=>ai (j4 ((Xk l).map X5) b.1 b.2)<|(show ∃y:Hp,(.tuple #[.agg #[Θ vars,Ω b.1 ((Xk l).map X5).length b.2],Θ 0]:z0)=(λ(y:Hp)=>Value.tuple #[.agg #[Θ (Xa vars l).1.vars,Ω y.1 (Xa vars l).1.ts.length y.2],Θ (Xa vars l).2]) y/\∀(x:z0) (S:Nat->Prop) (w:y9),(Qc 56 4 QG ((Xk l).map X5) b.1 b.2).φ x S w->((λ(y:Hp)=>Qc 56 4 QG ((Xa vars l).1.ts) y.1 y.2) y).φ x S w from⟨b,by rw[(cg e f i)]<;>rfl,λx S w h=>by rw[(cg e f i)];exact h⟩)) (λ(_:z0) (h:False)=>h)) (X7 (Ps x3 W (show Rw W 4 QG DL l A c from⟨s,k⟩)) (show ∀y:Hp,(Ω y.1 l.length y.2:z0).oneCell'=true from λ_=>rfl)<|ai (show vH (Mi (λ(y:Hp)=>Ω y.1 l.length y.2) (λ(y:Hp)=>Qc 56 4 QG l y.1 y.2)) (λ(y:Hp)=>Ω y.1 l.length y.2) (λ(y:Hp)=>Qc 56 4 QG l y.1 y.2)from IT λy x C S w p h=>AH p h) λ(d:Hp)=>ai (aX n vars d.1 d.2 l i r W q)<|ai (λ(b:Hp)=>ai (j4 ((Xk l).map X5) b.1 b.2)<|(show ∃y:Hp,(.tuple #[.agg #[Θ vars,Ω b.1 ((Xk l).map X5).length b.2],Θ 0]:z0)=(λ(y:Hp)=>Value.tuple #[.agg #[Θ (Xa vars l).1.vars,Ω y.1 (Xa vars l).1.ts.length y.2],Θ (Xa vars l).2]) y/\∀(x:z0) (S:Nat->Prop) (w:y9),(Qc 56 4 QG ((Xk l).map X5) b.1 b.2).φ x S w->((λ(y:Hp)=>Qc 56 4 QG ((Xa vars l).1.ts) y.1 y.2) y).φ x S w from⟨b,by rw[(cg e f i)]<;>rfl,λx S w h=>by rw[(cg e f i)];exact h⟩)) (λ(_:z0) (h:False)=>h)))) λe=>(show ∃y:Hp,(.tuple #[.agg #[Θ 0,x01],Θ 1]:z0)=(λ(y:Hp)=>Value.tuple #[.agg #[Θ (Xa vars l).1.vars,Ω y.1 (Xa vars l).1.ts.length y.2],Θ (Xa vars l).2]) y/\∀(x:z0) (S:Nat->Prop) (w:y9),(Qc 56 4 QG ([]:List Tm) none 0).φ x S w->((λ(y:Hp)=>Qc 56 4 QG ((Xa vars l).1.ts) y.1 y.2) y).φ x S w from⟨((none,0):Hp),by rw[(sw (l:=l) e)]<;>rfl,λx S w h=>by rw[(sw (l:=l) e)];exact h⟩)) (Ql q u)) λW=>x5
theorem uH(n:Nat)(vars:Int)(A:u5)(c:Nat)(l:List Tm)(f:l.length<=4000)(b:n<=1000)(g:∀t,t∈l->fT n 0 t)(W:y9)(h:Q0 W): NewIn prog W [Qc 56 4 QG l A c] 115 #[.int .i64 vars,.slice A l.length c] (λ(y:Hp)=>Value.tuple #[.agg #[.int .i64 (Xa vars l).1.vars,.slice y.1 (Xa vars l).1.ts.length y.2],.int .i64 (Xa vars l).2]) (λ(y:Hp)=>Qc 56 4 QG (Xa vars l).1.ts y.1 y.2):=⟨λa w=>call115 a w,λd i x S e =>
 (uI n vars f b (IB e).1 g d (Ql h i) (Jj QW DL e)).2 d (l3 _ _)⟩
