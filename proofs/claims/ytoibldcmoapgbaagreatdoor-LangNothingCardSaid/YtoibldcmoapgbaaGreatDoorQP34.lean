/- Laws beneath the statement. -/
import Derived.Test.YtoibldcmoapgbaaGreatDoorQP33
namespace Go.Proofs.YtoibldcmoapgbaaGreatDoor
open Tryz
set_option maxHeartbeats 4000000
set_option maxRecDepth 100000
open Go Go.RowKit
variable{g i k b:Nat}{v:Value}{S:Nat->Prop}{rs:Array ResultVar}{T:TypeId}
theorem qo(p:Addr)(w:World): CallsD prog 39 #[.pointer (some p)] .returning w λe b c=>e=.returned (.tuple #[])/\b=.returning/\c=w:=by
 have a:∀w,(binOp .neq 20 .nilIface .nilIface).run prog w=.ok (.bool false) w:=λ_=>x5
 refine callsD_of_wpS func39 rfl λd cs hu=>?_
 apply wpS_seq;apply wpS_region;simp[wpOpsS,go_sem,recoverD,hu,ntmps39,Exit.thenS];apply wpS_seq;apply wpS_region;simp[wpOpsS,go_sem,a,Exit.thenS];refine wpS_cond (t:=false) (by simp[Act.eval,Array.replicate]) ?_
 simp only[Tp,if_false];refine wpS_of_wp (wp_skip ?_);cases d;simp_all [bodyPostS,results,results39]
theorem lf(p:Addr)(x z:Int)(w:World)(c:w.cell? p=some (.int .i64 x))(d:w.frozen? p=false):
  CallsD prog 39 #[.pointer (some p)] (.panicking [{ v:=zn z,recovered:=false }]) w λe f g=>e=.returned (.tuple #[])/\f=.panicking [{ v:=zn z,recovered:=true }]/\g=w.setCell p (.int .i64 z):=by
 have a:∀w,(binOp .neq 20 (zn z) .nilIface).run prog w=.ok (.bool true) w:=λ_=>x5
 have b:∀w,(Instr.typeAssert (zn z) 20 103 true).run prog w=.ok (.tuple #[.int .i64 z,.bool true]) w:=λ_=>x5
 refine callsD_of_wpS func39 rfl λi cs hu=>?_
 apply wpS_seq;apply wpS_region;simp[wpOpsS,go_sem,recoverD,hu,ntmps39,Exit.thenS];apply wpS_seq;apply wpS_region;simp[wpOpsS,go_sem,a,Exit.thenS];refine wpS_cond (t:=true) (by simp[Act.eval,Act.put,Array.replicate]) ?_
 simp only[if_true];apply wpS_seq;apply wpS_region;simp[wpOpsS,go_sem,b,Exit.thenS];apply wpS_seq;apply wpS_seq;apply wpS_region;simp[wpOpsS,go_sem,Exit.thenS];refine wpS_cond (t:=false) (by simp[Act.eval,Act.put,Array.replicate]) ?_
 simp only[Tp,if_false];refine wpS_of_wp (wp_skip ?_);simp only[Exit.thenS];apply wpS_region;simp[wpOpsS,go_sem,c,d,bodyPostS,results,results39]
abbrev m7(s:χ)(M:Res): Type:={y:PrY // y.Ok s M} ⊕ {z:Int // Q5 s.fd=.error z}
def vz{s:χ}{M:Res}: m7 s M->Int
 | .inl _=>-1
 | .inr z=>z.1
def wW{s:χ}{M:Res}(g:Nat): m7 s M->Res
 | .inl y=>Qh g 69 (χ.cs y.1.t (PC.l ⟨y.1.pv.δ,y.1.pv.vars,y.1.vb,y.1.vs,y.1.vp,y.1.vr,y.1.pv.ν,y.1.pv.ε,y.1.pv.ζ,y.1.vc⟩ y.1.m)) y.1.M'
 | .inr _=>anyR
theorem vB{M:Res}{s:χ}(D:s.In M)(w0:World)(E:Q0 w0): FxF prog w0 (Qh g 69 (χ.cs s (PC.l (PC.P 0 0 (.slice none 0 0) (.slice none 0 0) (.slice none 0 0) (.slice none 0 0)) false)) M) 16 #[.pointer (some ⟨g,0,none⟩)] (λy:m7 s M=>.int .i64 (vz y)) (λy=>wW g y) (λ_=>False):=by
 refine⟨λa w=>call16 a w,λw r x S hS B=>?_⟩;have t:∀(fn:Fn) (first cap:Array Value) (w:World),(Instr.makeFunc fn first cap).run prog w=.ok (.func fn first cap) w:=λ_ _ _ _=>rfl
 go_enter_defers func16,ntmps16
 refine wp_seq (wp_region_list ?_);simp[wpList,Oper.wp,Oper.upon,go_sem,Exit.then];left;refine wp_seq (wp_region_list ?_);simp[wpList,Oper.wp,Oper.upon,go_sem,t,Exit.then];left;left;refine wp_seq (wp_region_list ?_);simp[wpList,Oper.wp,Oper.upon,go_sem,Exit.then];left;left;have C:Bx (w.alloc (.cells #[.int .i64 0] 3)) w.heap.size 3 #[.int .i64 0]:=Bx.new w _ _;have c:(w.alloc (.cells #[.int .i64 0] 3)).heap.size=w.heap.size+1:=World.size_alloc _ _;have u:=(Qh g 69 (χ.cs s (PC.l (PC.P 0 0 (.slice none 0 0) (.slice none 0 0) (.slice none 0 0) (.slice none 0 0)) false)) M).loc x S w (w.alloc (.cells #[.int .i64 0] 3)) (λb i=>Tz w _ b (hS b i).2) B;refine((fM D w0 E).2 _ (r.alloc r.size _) x S (λb i=>⟨(hS b i).1,by rw[c];have:=(hS b i).2;omega⟩) u).mono ?_
 have m:¬ S w.heap.size:=λh=>absurd (hS _ h).2 (Sx _)
 have trm:∀d v,Trm w0 S (w.alloc (.cells #[.int .i64 0] 3)) d->Trm w0 S w (d.setCell ⟨w.heap.size,0,none⟩ v):=λd v j=>by
  refine⟨j.low.setCell r.size _,λk F G=>?_⟩;rw[S5 d ⟨w.heap.size,0,none⟩ v k (by show k≠w.heap.size;omega),j.block k (by rw[c];omega) G,Tz w _ k F]
 rintro e d (⟨y,H,rfl,j,I,n⟩|⟨v,⟨z,J,rfl⟩,rfl,j⟩)
 ·have o:Bx d w.heap.size 3 #[.int .i64 0]:=(j.block _ (by rw[c];omega) m).trans C;have K:=o.cel 0;have L:=o.free 0;have p:Bx (d.setCell ⟨w.heap.size,0,none⟩ (.int .i64 (-1))) w.heap.size 3 #[.int .i64 (-1)]:=o.set 0 _;have q:=p.cel 0;refine wp_seq (wp_region_list ?_);simp[wpList,Oper.wp,Oper.upon,go_sem,Exit.then,K,L];left;refine wp_ret ?_
  simp only[bodyPostD];refine leaves_cons (f:=39) (args:=#[.pointer (some ⟨w.heap.size,0,none⟩)]) x6 (by simp[go_sem]) ?_
  refine(qo ⟨w.heap.size,0,none⟩ _).mono ?_
  rintro e N A ⟨rfl,rfl,rfl⟩;simp[Leaves,settle,results,results16,go_sem,q];refine .inl ⟨.inl y,H,rfl,trm _ _ j,?_,λb i=>?_⟩
  ·exact(wW g (.inl y)).loc _ _ _ _ (λb i=>S5 d ⟨w.heap.size,0,none⟩ _ b λe=>(n b i).1.elim (λh=>m ((show b=w.heap.size from e)▸h)) λh=>by rw[c]at h;have O:b=w.heap.size:=e;omega) I
  ·refine⟨(n b i).1.imp id λh=>(by rw[c]at h;omega),?_⟩;have:=(n b i).2;simpa [World.setCell]using this
 ·have o:Bx d w.heap.size 3 #[.int .i64 0]:=(j.block _ (by rw[c];omega) m).trans C;have p:Bx (d.setCell ⟨w.heap.size,0,none⟩ (.int .i64 z)) w.heap.size 3 #[.int .i64 z]:=o.set 0 _;have q:=p.cel 0;simp only[bodyPostD];refine leaves_cons (f:=39) (args:=#[.pointer (some ⟨w.heap.size,0,none⟩)]) x6 (by simp[go_sem]) ?_
  refine(lf ⟨w.heap.size,0,none⟩ 0 z _ (o.cel 0) (o.free 0)).mono ?_
  rintro e N A ⟨rfl,rfl,rfl⟩;simp[Leaves,settle,results,results16,go_sem,q];exact .inl ⟨.inr ⟨z,J⟩,λ_=>False,rfl,trm _ _ j,(Qh g 69 _ M).one _ _ _ B,λ_ h=>h.elim⟩
structure LnY where
 pre:List (List UInt8)
 t:ByteArray
 A:Option Addr
 c:Nat
def LnY.n(y:LnY): Nat:=(Qj y.pre 0).length
def LnY.at(y:LnY): Int:=((y.pre.map λl=>l.length+1).sum:Nat)
def nlB:u4:=⟨#[10]⟩
def ZT(y:LnY): List (Option (u6×List SV)):=[some (61,[lV y.A y.n y.c]),some (3,[iV y.at]),some (9,[sV y.t]),some (9,[sV nlB]),some (3,[iV 0])]
def KT(L:List Ln): LP:=wR 102 2 V2 (λ_=>[]) (λj=>(Xj L j).l) λj=>[.int .i64 (Xj L j).e]
def ZU(L:List Ln)(y:LnY): List (Option Res):=[some (Qt 65 2 y.n (KT L) y.A y.c)]
section
variable {s:List UInt8} {y:LnY} {x:List UInt8} {r:List (List UInt8)} (h:Qg s=y.pre++x::r)
include h
theorem Vl:0<=y.at/\y.at+(x.length:Int)<=s.length:=by
 have a:=EB s;rw[h,Th,T9,List.sum_append,List.sum_cons]at a;unfold LnY.at
 omega
theorem oN:Qj (Qg s) 0=Qj y.pre 0++Qj (x::r) y.at:=by
 rw[h,BI,Int.zero_add];rfl
theorem bS(a:Kb (Y5 x y.at)=true): Xj (Qj (Qg s) 0) y.n=⟨Y5 x y.at,y.at+(x.length:Int)⟩:=by
 rw[oN h,Qj,a];unfold Xj LnY.n;rw[cond_true,List.getD_eq_getElem?_getD,c6 (L8 _),U1];rfl
end
theorem MS(y:LnY)(x:List UInt8)(t:u4)(A:u5)(c:Nat): LnY.n ⟨y.pre++[x],t,A,c⟩=bif Kb (Y5 x y.at)then y.n+1 else y.n:=by
 unfold LnY.n;rw[BI,Int.zero_add,show((((y.pre.map λl=>l.length+1).sum:Nat)):Int)=y.at from rfl];unfold Qj;cases Kb (Y5 x y.at)<;>simp[Qj]
theorem Wz(y:LnY)(x:List UInt8)(t:u4)(A:u5)(c:Nat): LnY.at ⟨y.pre++[x],t,A,c⟩=y.at+((x.length:Int)+1):=by
 unfold LnY.at
 simp
theorem Oc{l:List Tk}(a:decide ((l.length:Int)>0)=true)(b:((bt (Qf l 0).s 0:Int) != 35)=true): Kb l=true:=by unfold Kb;rw[a,b];rfl
theorem jC{l:List Tk}(a:decide ((l.length:Int)>0)=true)(b:((bt (Qf l 0).s 0:Int) != 35)=false): Kb l=false:=by unfold Kb;rw[a,b];rfl
theorem jB{l:List Tk}(a:decide ((l.length:Int)>0)=false): Kb l=false:=by unfold Kb;rw[a];rfl
theorem rj{x:List UInt8}{a:Int}(b:decide (((Y5 x a).length:Int)>0)=true): 0<(Qf (Y5 x a) 0).s.size:=by
 have c:=L1 b;exact(toks_ok.2 _ (mo x3)).1
theorem yh{s x:List UInt8}(y:LnY)(R:Res)(W:y9): Xu prog tt (JI prog tt W) (5,2) W (sJ (Kq 3 f15)) ((mS ZT (ZU (Qj (Qg s) 0)) 39 [(3,.ptr 0 0),(4,.ptr 1 0)] R y).push (some 9) (sV (⟨x.toArray⟩:u4))) [] (λe σ _=>ZO e (XT σ (mS ZT (ZU (Qj (Qg s) 0)) 39 [(3,.ptr 0 0),(4,.ptr 1 0),(5,sV (⟨x.toArray⟩:u4))] R y) True)) :=
 Xs (Zb (qS (⟨x.toArray⟩:u4)) (qk (some (61,[lV y.A y.n y.c]))) (qk (some (3,[iV y.at]))) (qk (some (9,[sV y.t]))) (qk (some (9,[sV nlB]))) (qk (some (3,[iV 0]))) (Yu (Qt 65 2 y.n (KT (Qj (Qg s) 0)) y.A y.c)) (Yu R)<|trivial) x5
theorem oO{s:List UInt8}{y:LnY}{x:List UInt8}{r:List (List UInt8)}(h:Qg s=y.pre++x::r): y.n<=s.length:=by
 have c:=(Id y.pre 0 (n:=s.length) λl b=>(CF s).2 l (by rw[h];simp[b])).1;have a:=(CF s).1;rw[h]at a;simp at a;unfold LnY.n;omega
theorem vJ:RowT prog 61 61 65 2 32:=⟨x5,⟨65,x5⟩,x5,x4,x4⟩
theorem yi{s x:List UInt8}{r:List (List UInt8)}(I:s.length<=65536)(y:LnY)(h:Qg s=y.pre++x::r)(R:Res)(W:y9): Xu prog tt (JI prog tt W) (5,2) W (sK (Kq 3 f15)) (mS ZT (ZU (Qj (Qg s) 0)) 39 [(3,.ptr 0 0),(4,.ptr 1 0),(5,sV (⟨x.toArray⟩:u4))] R y) [.mk 5 2 [] (λ(d:Hp)=>Ω d.1 (Y5 x y.at).length d.2) (λ(d:Hp)=>Qc 102 2 V2 (Y5 x y.at) d.1 d.2) (λ(d:Hp)=>[.gb 6 4 [.o 6 5 (.rd [2] (.pointer (some (Xi d.1 (0*2+0))))),.o 6 6 (.set (.pointer (some (Xi d.1 (0*2+0))))),.o 6 7 (.rd [2] (Ψ (((List.getD (Y5 x y.at) 0 zv)).s))),.o 6 8 (.set (.int .u8 (bt (Qf (Y5 x y.at) 0).s 0:Int))),.both [.o 7 5 (.eq (iV (y.at+(x.length:Int)))),.join 7 8 0 2,.eff 7 8 0 (λ(f:Hp)=>Ω f.1 (y.n+1) f.2) (λ(f:Hp)=>Qt 65 2 (y.n+1) (KT (Qj (Qg s) 0)) f.1 f.2) (λ(f:Hp)=>[.o 8 3 (.eq (iV ((x.length:Int)+1))),.o 8 4 (.eq (iV (LnY.at (⟨y.pre++[x],y.t,none,0⟩:LnY))))])] [.o 8 3 (.eq (iV ((x.length:Int)+1))),.o 8 4 (.eq (iV (LnY.at (⟨y.pre++[x],y.t,none,0⟩:LnY))))]] [.o 8 3 (.eq (iV ((x.length:Int)+1))),.o 8 4 (.eq (iV (LnY.at (⟨y.pre++[x],y.t,none,0⟩:LnY))))]])] (λe σ _=>ZO e (∃b,(b.pre=y.pre++[x]/\b.t=y.t)/\XT σ (mS ZT (ZU (Qj (Qg s) 0)) 39 [(3,.ptr 0 0),(4,.ptr 1 0)] R b) True)) :=
 let C:OB:=some (3,[iV (LnY.at (⟨y.pre++[x],y.t,none,0⟩:LnY))]);let Z1:OB:=some (9,[sV y.t]);let Z2:OB:=some (9,[sV nlB]);let B:OB:=some (3,[iV 0]);let F:OB:=some (61,[lV y.A y.n y.c]);Xs (ai (mv (s:=(⟨x.toArray⟩:u4)) (a:=y.at) (show x.length<=65536 by have:=Vl h;omega) (y6 (Vl h)) W) λ(d:Hp)=>ZG (decide (((((Y5 x y.at)).length:Nat):Int)>0)) true (λv=>Km (JX (w0:=W) (e:=102) (k:=2) (c:=V2) (l:=(Y5 x y.at)) (A:=d.1) (cp:=d.2) B4 zv (λD E=>YO D d.2 0 E (show 0<(Y5 x y.at).length by have:=L1 v;omega))) (Dy W d.1 2 0 0) (JX (w0:=W) (e:=102) (k:=2) (c:=V2) (l:=(Y5 x y.at)) (A:=d.1) (cp:=d.2) B4 zv (λD E=>BG D 0 0 E (show 0<(Y5 x y.at).length by have:=L1 v;omega) x4 rfl)) (UJ W (Qf (Y5 x y.at) 0).s 0 (rj v))<|XA ((bt (Qf (Y5 x y.at) 0).s 0:Int) != 35) (λq=>ai (show IntKind.i64.wrap (y.at+(x.length:Int))=y.at+(x.length:Int)from Lg _ (y6 (Vl h)))<|ai (PT (w0:=W) (ty:=61) (bt:=65) (c:=V2) (pre:=λ_=>[]) (ls:=λj=>(Xj (Qj (Qg s) 0) j).l) (post:=λj=>[Θ (Xj (Qj (Qg s) 0) j).e]) (A:=y.A) (cp:=y.c) (n:=y.n) (n':=y.n+1) (A2:=d.1) (cq:=d.2) (e2:=102) (k:=2) (cp2:=1) (cs:=[Ω d.1 ((Y5 x y.at)).length d.2,Θ (y.at+(x.length:Int))]) (R3:=Qc 102 2 V2 (Y5 x y.at) d.1 d.2) (λx S w G=>(by show(E8 _ 2 V2 (Xj (Qj (Qg s) 0) y.n).l _ _).φ x S w;rw[(bS h (Oc v q))];exact .inl G)) vJ (λ_ h=>nomatch h) (by intro u H;rw[Re.1 H];rfl) rfl (y6 (oO h)) (by show _=Ω _ (Xj (Qj (Qg s) 0) y.n).l.length _::[Θ (Xj (Qj (Qg s) 0) y.n).e];rw[(bS h (Oc v q))]) rfl) λ(f:Hp)=>X7 (show IntKind.i64.wrap ((x.length:Int)+1)=(x.length:Int)+1 from Lg _ (y6 (Vl h))) (show IntKind.i64.wrap (y.at+((x.length:Int)+1))=LnY.at (⟨y.pre++[x],y.t,none,0⟩:LnY)from(Lg _ (y6 (Vl h))).trans (Wz ..).symm)<|(show ∃b:LnY,(b.pre=y.pre++[x]/\b.t=y.t)/\((some (61,[lV f.1 (y.n+1) f.2]):OB)=some (61,[lV b.A b.n b.c]))/\((C:OB)=some (3,[iV b.at]))/\((Z1:OB)=some (9,[sV b.t]))/\((Z2:OB)=Z2)/\((B:OB)=B)/\(∀(g:z0) (m:Nat->Prop) (p:y9),(Qt 65 2 (y.n+1) (KT (Qj (Qg s) 0)) f.1 f.2).φ g m p->(Qt 65 2 b.n (KT (Qj (Qg s) 0)) b.A b.c).φ g m p)/\(∀(g:z0) (m:Nat->Prop) (p:y9),R.φ g m p->R.φ g m p)/\True from⟨(⟨y.pre++[x],y.t,f.1,f.2⟩:LnY),⟨rfl,rfl⟩,by rw[(show LnY.n (⟨y.pre++[x],y.t,f.1,f.2⟩:LnY)=y.n+1 from(MS ..).trans (by rw[(Oc v q)]<;>rfl))],rfl,rfl,rfl,rfl,λ_ _ _ z=>by rw[(show LnY.n (⟨y.pre++[x],y.t,f.1,f.2⟩:LnY)=y.n+1 from(MS ..).trans (by rw[(Oc v q)]<;>rfl))];exact z,λ_ _ _ z=>z,trivial⟩)) λq=>X7 (show IntKind.i64.wrap ((x.length:Int)+1)=(x.length:Int)+1 from Lg _ (y6 (Vl h))) (show IntKind.i64.wrap (y.at+((x.length:Int)+1))=LnY.at (⟨y.pre++[x],y.t,none,0⟩:LnY)from(Lg _ (y6 (Vl h))).trans (Wz ..).symm)<|(show ∃b:LnY,(b.pre=y.pre++[x]/\b.t=y.t)/\((F:OB)=some (61,[lV b.A b.n b.c]))/\((C:OB)=some (3,[iV b.at]))/\((Z1:OB)=some (9,[sV b.t]))/\((Z2:OB)=Z2)/\((B:OB)=B)/\(∀(g:z0) (m:Nat->Prop) (p:y9),(Qt 65 2 y.n (KT (Qj (Qg s) 0)) y.A y.c).φ g m p->(Qt 65 2 b.n (KT (Qj (Qg s) 0)) b.A b.c).φ g m p)/\(∀(g:z0) (m:Nat->Prop) (p:y9),R.φ g m p->R.φ g m p)/\True from⟨(⟨y.pre++[x],y.t,y.A,y.c⟩:LnY),⟨rfl,rfl⟩,by rw[(show LnY.n (⟨y.pre++[x],y.t,y.A,y.c⟩:LnY)=y.n from(MS ..).trans (by rw[(jC v q)]<;>rfl))],rfl,rfl,rfl,rfl,λ_ _ _ z=>by rw[(show LnY.n (⟨y.pre++[x],y.t,y.A,y.c⟩:LnY)=y.n from(MS ..).trans (by rw[(jC v q)]<;>rfl))];exact z,λ_ _ _ z=>z,trivial⟩)) λv=>X7 (show IntKind.i64.wrap ((x.length:Int)+1)=(x.length:Int)+1 from Lg _ (y6 (Vl h))) (show IntKind.i64.wrap (y.at+((x.length:Int)+1))=LnY.at (⟨y.pre++[x],y.t,none,0⟩:LnY)from(Lg _ (y6 (Vl h))).trans (Wz ..).symm)<|(show ∃b:LnY,(b.pre=y.pre++[x]/\b.t=y.t)/\((F:OB)=some (61,[lV b.A b.n b.c]))/\((C:OB)=some (3,[iV b.at]))/\((Z1:OB)=some (9,[sV b.t]))/\((Z2:OB)=Z2)/\((B:OB)=B)/\(∀(g:z0) (m:Nat->Prop) (p:y9),(Qt 65 2 y.n (KT (Qj (Qg s) 0)) y.A y.c).φ g m p->(Qt 65 2 b.n (KT (Qj (Qg s) 0)) b.A b.c).φ g m p)/\(∀(g:z0) (m:Nat->Prop) (p:y9),R.φ g m p->R.φ g m p)/\True from⟨(⟨y.pre++[x],y.t,y.A,y.c⟩:LnY),⟨rfl,rfl⟩,by rw[(show LnY.n (⟨y.pre++[x],y.t,y.A,y.c⟩:LnY)=y.n from(MS ..).trans (by rw[(jB v)]<;>rfl))],rfl,rfl,rfl,rfl,λ_ _ _ z=>by rw[(show LnY.n (⟨y.pre++[x],y.t,y.A,y.c⟩:LnY)=y.n from(MS ..).trans (by rw[(jB v)]<;>rfl))];exact z,λ_ _ _ z=>z,trivial⟩)) x5
theorem Qao{s:List UInt8}{l:Nat}(y:LnY)(R:Res)(W:y9): Xu prog tt (JI prog tt W) (5,2) W (Zj (QO f105)) (mS ZT (ZU (Qj (Qg s) 0)) 52 [(0,.val (.func (.yield l) #[] #[])),(1,.ptr 3 0),(2,.ptr 2 0),(3,.ptr 4 0)] R y) [.br false] (λe σ _=>ZO e (XT σ (mS ZT (ZU (Qj (Qg s) 0)) 52 [(0,.val (.func (.yield l) #[] #[])),(1,.ptr 3 0),(2,.ptr 2 0),(3,.ptr 4 0)] R y) True)) :=
 Xs (Zb (show((nlB.size:Int)==0)=false from rfl) (qV (.func (.yield l) #[] #[])) (qk (some (61,[lV y.A y.n y.c]))) (qk (some (3,[iV y.at]))) (qk (some (9,[sV y.t]))) (qk (some (9,[sV nlB]))) (qk (some (3,[iV 0]))) (Yu (Qt 65 2 y.n (KT (Qj (Qg s) 0)) y.A y.c))<|ai (Yu R)<|trivial) x5
theorem Qar{t:u4}{v:Int}(a:Lib.indexByte t.data.toList 10=v)(W:y9): RetAt prog W 107 #[.string t,.string nlB] (.int .i64 v):=O3 W λW=>(Tryz.strings_Index_one t 10 W).mono λ_ _ h=>⟨a▸h.1,h.2▸l3 _ _⟩
theorem x8{s:List UInt8}{l:Nat}(y:LnY)(R:Res){v:Int}(a:Lib.indexByte y.t.data.toList 10=v)(W:y9): Xu prog tt (JI prog tt W) (5,2) W (Zj (Av (TZ (Av (Zj (QA (QO f105))))))) (mS ZT (ZU (Qj (Qg s) 0)) 52 [(0,.val (.func (.yield l) #[] #[])),(1,.ptr 3 0),(2,.ptr 2 0),(3,.ptr 4 0)] R y) [.o 5 2 (.ret (iV v))] (λe σ _=>ZO e (XT σ (mS ZT (ZU (Qj (Qg s) 0)) 52 [(0,.val (.func (.yield l) #[] #[])),(1,.ptr 3 0),(2,.ptr 2 0),(3,.ptr 4 0),(7,iV v)] R y) True)) :=
 Xs (Zb (Qar a W) (qV (.func (.yield l) #[] #[])) (qI v) (qk (some (61,[lV y.A y.n y.c]))) (qk (some (3,[iV y.at]))) (qk (some (9,[sV y.t]))) (qk (some (9,[sV nlB]))) (qk (some (3,[iV 0])))<|X7 (Yu (Qt 65 2 y.n (KT (Qj (Qg s) 0)) y.A y.c)) (Yu R)<|trivial) x5
theorem ya{s:List UInt8}{l:Nat}(y:LnY)(R:Res)(W:y9): Xu prog tt (JI prog tt W) (5,2) W (Zj (QA (Av (TZ (Av (Zj (QA (QO f105)))))))) (mS ZT (ZU (Qj (Qg s) 0)) 52 [(0,.val (.func (.yield l) #[] #[])),(1,.ptr 3 0),(2,.ptr 2 0),(3,.ptr 4 0),(7,iV (i:Int))] R y) [.br false] (λe σ _=>ZO e (XT σ (mS ZT (ZU (Qj (Qg s) 0)) 52 [(0,.val (.func (.yield l) #[] #[])),(1,.ptr 3 0),(2,.ptr 2 0),(3,.ptr 4 0),(7,iV (i:Int))] R y) True)) :=
 Xs (Zb (show decide ((i:Int)<0)=false from Lh x3) (qV (.func (.yield l) #[] #[])) (qI (i:Int)) (qk (some (61,[lV y.A y.n y.c]))) (qk (some (3,[iV y.at]))) (qk (some (9,[sV y.t]))) (qk (some (9,[sV nlB]))) (qk (some (3,[iV 0])))<|X7 (Yu (Qt 65 2 y.n (KT (Qj (Qg s) 0)) y.A y.c)) (Yu R)<|trivial) x5
theorem x9{s:List UInt8}{l:Nat}(y:LnY)(R:Res)(W:y9): Xu prog tt (JI prog tt W) (5,2) W (Zj (QA (Av (TZ (Av (Zj (QA (QO f105)))))))) (mS ZT (ZU (Qj (Qg s) 0)) 52 [(0,.val (.func (.yield l) #[] #[])),(1,.ptr 3 0),(2,.ptr 2 0),(3,.ptr 4 0),(7,iV (-1))] R y) [] (λe σ _=>match e with | .exit k=>k=2/\XT σ (mS ZT (ZU (Qj (Qg s) 0)) 52 [(0,.val (.func (.yield l) #[] #[])),(1,.ptr 3 0),(2,.ptr 2 0),(3,.ptr 4 0)] R y) True|_=>False) :=
 Xs (Zb (show((2:Nat)=2)from rfl) (qV (.func (.yield l) #[] #[])) (qk (some (61,[lV y.A y.n y.c]))) (qk (some (3,[iV y.at]))) (qk (some (9,[sV y.t]))) (qk (some (9,[sV nlB]))) (qk (some (3,[iV 0]))) (Yu (Qt 65 2 y.n (KT (Qj (Qg s) 0)) y.A y.c))<|ai (Yu R)<|trivial) x5
theorem Qap{s:List UInt8}{l:Nat}(y:LnY)(R:Res)(a:i<=y.t.size)(b:y.t.size<=65536)(W:y9): Xu prog tt (JI prog tt W) (5,2) W (Zj (QA (QA (Av (TZ (Av (Zj (QA (QO f105))))))))) (mS ZT (ZU (Qj (Qg s) 0)) 52 [(0,.val (.func (.yield l) #[] #[])),(1,.ptr 3 0),(2,.ptr 2 0),(3,.ptr 4 0),(7,iV (i:Int))] R y) [.o 7 3 (.eq (iV (i:Int))),.o 7 4 (.set (Ψ (⟨(y.t.data.toList.take i).toArray⟩:u4)))] (λe σ _=>ZO e (XT σ (mS ZT (ZU (Qj (Qg s) 0)) 52 [(0,.val (.func (.yield l) #[] #[])),(1,.ptr 3 0),(2,.ptr 2 0),(3,.ptr 4 0),(7,iV (i:Int)),(8,sV (⟨(y.t.data.toList.take i).toArray⟩:u4))] R y) True)) :=
 Xs (Zb (show IntKind.i64.wrap ((i:Int)+0)=(i:Int)from(by rw[Int.add_zero];exact Lg _ x3)) (CI W y.t i a) (qV (.func (.yield l) #[] #[])) (qI (i:Int)) (qS (⟨(y.t.data.toList.take i).toArray⟩:u4)) (qk (some (61,[lV y.A y.n y.c]))) (qk (some (3,[iV y.at]))) (qk (some (9,[sV y.t])))<|Km (qk (some (9,[sV nlB]))) (qk (some (3,[iV 0]))) (Yu (Qt 65 2 y.n (KT (Qj (Qg s) 0)) y.A y.c)) (Yu R)<|trivial) x5
theorem uu{s:List UInt8}{l:Nat}(y:LnY)(R:Res)(W:y9): JU prog tt (JI prog tt W) W (aa (Zj (Zj (QA (QA (QA (Av (TZ (Av (Zj (QA (QO f105)))))))))))) (Vc (Zj (Zj (QA (QA (QA (Av (TZ (Av (Zj (QA (QO f105)))))))))))) ((Vc (Zj (Zj (QA (QA (QA (Av (TZ (Av (Zj (QA (QO f105)))))))))))).toList.take 2) 0 (mS ZT (ZU (Qj (Qg s) 0)) 52 [(0,.val (.func (.yield l) #[] #[])),(1,.ptr 3 0),(2,.ptr 2 0),(3,.ptr 4 0),(7,iV (i:Int)),(8,sV (⟨(y.t.data.toList.take i).toArray⟩:u4))] R y) [] (λσ _=>v1 σ (.tmp 39) λa=>vL σ [.tmp 40] λb=>a=.func (.yield l) #[] #[]/\b=[Ψ (⟨(y.t.data.toList.take i).toArray⟩:u4)]/\XT σ (mS ZT (ZU (Qj (Qg s) 0)) 52 [(0,.val (.func (.yield l) #[] #[])),(1,.ptr 3 0),(2,.ptr 2 0),(3,.ptr 4 0),(7,iV (i:Int))] R y) True) :=
 Xs (Zb (qV (.func (.yield l) #[] #[])) (show(([Ψ (⟨(y.t.data.toList.take i).toArray⟩:u4)]:a8)=[Ψ (⟨(y.t.data.toList.take i).toArray⟩:u4)])from rfl) (qV (.func (.yield l) #[] #[])) (qI (i:Int)) (qk (some (61,[lV y.A y.n y.c]))) (qk (some (3,[iV y.at]))) (qk (some (9,[sV y.t]))) (qk (some (9,[sV nlB])))<|JH (qk (some (3,[iV 0]))) (Yu (Qt 65 2 y.n (KT (Qj (Qg s) 0)) y.A y.c)) (Yu R)<|trivial) x5
theorem yb{s:List UInt8}{l:Nat}(y:LnY)(R:Res)(W:y9): JU prog tt (JI prog tt W) W (aa (Zj (Zj (QA (QA (QA (Av (TZ (Av (Zj (QA (QO f105)))))))))))) (Vc (Zj (Zj (QA (QA (QA (Av (TZ (Av (Zj (QA (QO f105)))))))))))) ((Vc (Zj (Zj (QA (QA (QA (Av (TZ (Av (Zj (QA (QO f105)))))))))))).toList.drop 3) 3 ((mS ZT (ZU (Qj (Qg s) 0)) 52 [(0,.val (.func (.yield l) #[] #[])),(1,.ptr 3 0),(2,.ptr 2 0),(3,.ptr 4 0),(7,iV (i:Int))] R y).push (some 41) (bV true)) [] (λσ _=>XT σ (mS ZT (ZU (Qj (Qg s) 0)) 52 [(0,.val (.func (.yield l) #[] #[])),(1,.ptr 3 0),(2,.ptr 2 0),(3,.ptr 4 0),(7,iV (i:Int)),(42,bV false)] R y) True) :=
 Xs (Zb (qV (.func (.yield l) #[] #[])) (qI (i:Int)) (qB false) (qk (some (61,[lV y.A y.n y.c]))) (qk (some (3,[iV y.at]))) (qk (some (9,[sV y.t]))) (qk (some (9,[sV nlB]))) (qk (some (3,[iV 0])))<|X7 (Yu (Qt 65 2 y.n (KT (Qj (Qg s) 0)) y.A y.c)) (Yu R)<|trivial) x5
theorem Qaq{s:List UInt8}{l:Nat}(y:LnY)(R:Res)(a:i+1<=y.t.size)(d:y.t.size<=65536)(W:y9): Xu prog tt (JI prog tt W) (5,2) W (QA (QA (QA (QA (Av (TZ (Av (Zj (QA (QO f105)))))))))) (mS ZT (ZU (Qj (Qg s) 0)) 52 [(0,.val (.func (.yield l) #[] #[])),(1,.ptr 3 0),(2,.ptr 2 0),(3,.ptr 4 0),(7,iV (i:Int)),(42,bV false)] R y) [.o 9 4 (.eq (iV ((i+1:Nat):Int))),.o 9 5 (.set (Ψ (⟨(y.t.data.toList.drop (i+1)).toArray⟩:u4)))] (λe σ _=>ZO e (XT σ (mS ZT (ZU (Qj (Qg s) 0)) 52 [(0,.val (.func (.yield l) #[] #[])),(1,.ptr 3 0),(2,.ptr 2 0),(3,.ptr 4 0)] R ⟨y.pre,(⟨(y.t.data.toList.drop (i+1)).toArray⟩:u4),y.A,y.c⟩) True)) :=
 Xs (Zb (show IntKind.i64.wrap ((i:Int)+(nlB.size:Int))=((i+1:Nat):Int)from(by have b:(nlB.size:Int)=1:=rfl;rw[b];exact(Lg _ x3).trans x3)) (SW W y.t (i+1) a) (qV (.func (.yield l) #[] #[])) (qk (some (61,[lV y.A y.n y.c]))) (qk (some (3,[iV y.at]))) (qk (some (9,[sV (⟨(y.t.data.toList.drop (i+1)).toArray⟩:u4)]))) (qk (some (9,[sV nlB]))) (qk (some (3,[iV 0])))<|X7 (Yu (Qt 65 2 y.n (KT (Qj (Qg s) 0)) y.A y.c)) (Yu R)<|trivial) x5
theorem uw{s:List UInt8}{l:Nat}(y:LnY)(R:Res)(W:y9): JU prog tt (JI prog tt W) W (aa (QA (QA (QO f105)))) (Vc (QA (QA (QO f105)))) ((Vc (QA (QA (QO f105)))).toList.take 2) 0 (mS ZT (ZU (Qj (Qg s) 0)) 52 [(0,.val (.func (.yield l) #[] #[])),(1,.ptr 3 0),(2,.ptr 2 0),(3,.ptr 4 0)] R y) [] (λσ _=>v1 σ (.tmp 49) λa=>vL σ [.tmp 50] λb=>a=.func (.yield l) #[] #[]/\b=[Ψ y.t]/\XT σ (mS ZT (ZU (Qj (Qg s) 0)) 52 [(0,.val (.func (.yield l) #[] #[])),(1,.ptr 3 0),(2,.ptr 2 0),(3,.ptr 4 0)] R y) True) :=
 Xs (Zb (qV (.func (.yield l) #[] #[])) (show(([Ψ y.t]:a8)=[Ψ y.t])from rfl) (qV (.func (.yield l) #[] #[])) (qk (some (61,[lV y.A y.n y.c]))) (qk (some (3,[iV y.at]))) (qk (some (9,[sV y.t]))) (qk (some (9,[sV nlB]))) (qk (some (3,[iV 0])))<|X7 (Yu (Qt 65 2 y.n (KT (Qj (Qg s) 0)) y.A y.c)) (Yu R)<|trivial) x5
theorem ux{s:List UInt8}{l:Nat}(y:LnY)(R:Res)(W:y9): JU prog tt (JI prog tt W) W (aa (QA (QA (QO f105)))) (Vc (QA (QA (QO f105)))) ((Vc (QA (QA (QO f105)))).toList.drop 3) 3 ((mS ZT (ZU (Qj (Qg s) 0)) 52 [(0,.val (.func (.yield l) #[] #[])),(1,.ptr 3 0),(2,.ptr 2 0),(3,.ptr 4 0)] R y).push (some 51) (bV true)) [] (λσ _=>XT σ (mS ZT (ZU (Qj (Qg s) 0)) 52 [(0,.val (.func (.yield l) #[] #[])),(1,.ptr 3 0),(2,.ptr 2 0),(3,.ptr 4 0)] R y) True) :=
 Xs (Zb (qV (.func (.yield l) #[] #[])) (qk (some (61,[lV y.A y.n y.c]))) (qk (some (3,[iV y.at]))) (qk (some (9,[sV y.t]))) (qk (some (9,[sV nlB]))) (qk (some (3,[iV 0]))) (Yu (Qt 65 2 y.n (KT (Qj (Qg s) 0)) y.A y.c)) (Yu R)<|trivial) x5
theorem JF(L:List Ln)(y:LnY): (ZT y).length=5/\(ZU L y).length=1:=⟨rfl,rfl⟩
theorem jy(t:u4): (Lib.indexByte t.data.toList 10=-1/\Qg t.data.toList=[t.data.toList])\/∃i:Nat,Lib.indexByte t.data.toList 10=(i:Int)/\i+1<=t.size/\Qg t.data.toList=t.data.toList.take i::Qg (t.data.toList.drop (i+1)):=by
 rcases bJ t.data.toList 10 with⟨a,b⟩|⟨i,a,b,c⟩
 ·exact .inl ⟨a,IM b⟩
 ·exact .inr ⟨i,a,(sT.1 c).1,Nq b c⟩
noncomputable def spB:Code:=QO f105
noncomputable def spG:Code:=Av (TZ (Av (Zj (QA spB))))
abbrev yB(c:Code)(i:Nat): Oper:=((Vc c).toList.drop i).headD default
theorem QaQ:spB=.seq (Zj spB) (.seq (.block 2 (.loop (.block 3 spG))) (.region (aa (QA (QA spB))) (Vc (QA (QA spB))) false)):=x5
theorem QaR:spG=.seq (Zj spG) (.seq (Zj (QA spG)) (.seq (Zj (QA (QA spG))) (.seq (.seq (.region (aa (Zj (Zj (QA (QA (QA spG)))))) (Vc (Zj (Zj (QA (QA (QA spG)))))) false) (.cond (.tmp 42) .ret .skip)) (QA (QA (QA (QA spG))))))):=x5
abbrev oM(s:List UInt8)(w0:y9)(R:Res)(r1:Env)(y:LnY)(W:y9): Prop:=MemJ w0 ZT (ZU (Qj (Qg s) 0)) (5,2) R r1 y W
theorem lN{s:List UInt8}(hs:s.length<=65536){w0:y9}{l:Nat}{R:Res}{r1:Env}{W:y9}{J:u4}(ht:J.data.toList=s)(h0:Aa w0 (mS ZT (ZU (Qj (Qg s) 0)) 0 [] R ⟨[],J,none,0⟩) r1 W)(hY:∀(y:LnY) (x:List UInt8) (U:y9),oM s w0 R r1 y U->(∃r,Qg s=y.pre++x::r)->YieldAt Fence.wide 7 prog l #[.string ⟨x.toArray⟩] U λe L=>e=.returned (.bool true)/\∃b:LnY,(b.pre=y.pre++[x]/\b.t=y.t)/\oM s w0 R r1 b L):
  CallsIn Fence.wide 8 prog 105 (QJ r1 [.val (.func (.yield l) #[] #[]),.ptr 3 0,.ptr 2 0,.ptr 4 0]).toArray W λe L=>(∃v,e=.returned v)/\∃y:LnY,y.pre=Qg s/\oM s w0 R r1 y L:=by
 refine callsIn_of_wp (fn:=f105) (c:=spB) x5 x5 trivial ?_
 have K:Sat w0 (mS ZT (ZU (Qj (Qg s) 0)) 52 [(0,.val (.func (.yield l) #[] #[])),(1,.ptr 3 0),(2,.ptr 2 0),(3,.ptr 4 0)] R ⟨[],J,none,0⟩) r1 _ W:=ah (mS ZT (ZU (Qj (Qg s) 0)) 0 [] R ⟨[],J,none,0⟩) 52 ([.val (.func (.yield l) #[] #[]),.ptr 3 0,.ptr 2 0,.ptr 4 0]) (show 4<=52 by decide) rfl h0;rw[show(f105).ntmps=52 from x5];revert K;generalize ({ tmps:=(QJ r1 [.val (.func (.yield l) #[] #[]),.ptr 3 0,.ptr 2 0,.ptr 4 0]).toArray++Array.replicate (52-(QJ r1 [.val (.func (.yield l) #[] #[]),.ptr 3 0,.ptr 2 0,.ptr 4 0]).toArray.size) undef,defers:=[] }:Act)=a0;intro K;have g:G3 (bodyPost prog f105 λe L=>(∃v,e=.returned v)/\∃y:LnY,y.pre=Qg s/\oM s w0 R r1 y L):=λ_ _ _ _ _ hq=>⟨hq.1,hq.2⟩
 revert g;generalize hQ:bodyPost prog f105 _=Q;intro g;rw[QaQ];refine wpIn_seq (wpIn_wide.2 (Ja (Jv QR) Qu QR (p:=λe σ=>ZO e _) (Qao _ R w0) (DC (JF _)) K (λd v c a w h=>g d v c a w h) λe σ1 r2 a1 U V Y Z=>?_));cases e with
 | exit i=>exact False.elim V
 | ret=>exact False.elim V
 | normal =>
  have ad:=(QV w0 (show XT σ1 _ True from V)).2 _ _ _ Y;show(Code.seq _ _).wpIn _ _ _ _ _ _;refine wpIn_seq (wpIn_block (Gy (λ(y:LnY) a w=>(∃r,Sat w0 (mS ZT (ZU (Qj (Qg s) 0)) 52 [(0,.val (.func (.yield l) #[] #[])),(1,.ptr 3 0),(2,.ptr 2 0),(3,.ptr 4 0)] R y) r a w/\AgN (5,2) r1 r)/\Qg s=y.pre++Qg y.t.data.toList/\y.t.size<=65536) (λy=>y.t.size) (λy a w M=>?_) ⟨[],J,none,0⟩ ⟨⟨r2,ad,Z⟩,by rw[ht];rfl,by show J.size<=65536;have:=Ly List.length ht;simp at this;omega⟩));obtain⟨⟨r,K,hg⟩,u,O⟩:=M;refine wpIn_block ?_
  rw[QaR];rcases jy y.t with⟨h1,P⟩|⟨i,h1,P,h3⟩
  ·refine wpIn_seq (wpIn_wide.2 (Ja (Jv QR) Qu QR (p:=λe σ=>ZO e _) (x8 y R h1 w0) (DC (JF _)) K (λd v c a w h=>g d v c a w h) λe σ3 r3 a3 W3 j B C=>?_));cases e with
   | exit i=>exact False.elim j
   | ret=>exact False.elim j
   | normal =>
    have D:=(QV w0 (show XT σ3 _ True from j)).2 _ _ _ B;refine wpIn_seq (wpIn_wide.2 (Ja (Jv QR) Qu QR (p:=λe σ=>match e with | .exit k=>k=2/\XT σ _ True|_=>False) (x9 y R w0) (DC (JF _)) D (λd v c a w h=>g d v c a w h) λe σ5 r5 a5 W5 m E F=>?_));cases e with
    | normal=>exact False.elim m
    | ret=>exact False.elim m
    | exit k =>
     obtain⟨rfl,ae⟩:=(show k=2/\XT σ5 _ True from m)
     have G:=(QV w0 ae).2 _ _ _ E;show(Code.region _ _ false).wpIn Fence.wide 8 prog Q a5 W5;refine m5 Qu QR (JF _) (ci:=2) (dst:=51) (o:=yB (QA (QA spB)) 2) (f:=.tmp 49) (args:=[.tmp 50]) (l:=l) (n:=52) x5 x5 x5 rfl x5 (x:=.string ⟨y.t.data.toList.toArray⟩) (N:=λb=>b.pre=y.pre++[y.t.data.toList]/\b.t=y.t) (X:=λb σ=>XT σ _ True) (uw y R w0) (λb _=>⟨[],ux b R w0⟩) G (DC (JF _)) (hg.trans (C.trans F)) (λW6 M=>hY y y.t.data.toList W6 M ⟨[],by rw[u,P]⟩) λb σ r a w S q z H=>?_
     rw[<- hQ];exact⟨z.defers,_,results_none x5 _ _ _,⟨_,rfl⟩,b,by rw[S.1,u,P],r,((QV w0 q).2 _ _ _ z).mem,H⟩
  ·refine wpIn_seq (wpIn_wide.2 (Ja (Jv QR) Qu QR (p:=λe σ=>ZO e _) (x8 y R h1 w0) (DC (JF _)) K (λd v c a w h=>g d v c a w h) λe σ3 r3 a3 W3 j B C=>?_));cases e with
   | exit i=>exact False.elim j
   | ret=>exact False.elim j
   | normal =>
    have D:=(QV w0 (show XT σ3 _ True from j)).2 _ _ _ B;refine wpIn_seq (wpIn_wide.2 (Ja (Jv QR) Qu QR (p:=λe σ=>ZO e _) (ya y R w0) (DC (JF _)) D (λd v c a w h=>g d v c a w h) λe σ5 r5 a5 W5 m E F=>?_));cases e with
    | exit i=>exact False.elim m
    | ret=>exact False.elim m
    | normal =>
     have G:=(QV w0 (show XT σ5 _ True from m)).2 _ _ _ E;refine wpIn_seq (wpIn_wide.2 (Ja (Jv QR) Qu QR (p:=λe σ=>ZO e _) (Qap y R (Nat.le_of_succ_le P) O w0) (DC (JF _)) G (λd v c a w h=>g d v c a w h) λe σ7 r7 a7 W7 q z H=>?_));cases e with
     | exit i=>exact False.elim q
     | ret=>exact False.elim q
     | normal =>
      have ag:=(QV w0 (show XT σ7 _ True from q)).2 _ _ _ z;refine wpIn_seq (wpIn_seq (m5 Qu QR (JF _) (ci:=2) (dst:=41) (o:=yB (Zj (Zj (QA (QA (QA spG))))) 2) (f:=.tmp 39) (args:=[.tmp 40]) (l:=l) (n:=52) x5 x5 x5 rfl x5 (x:=.string ⟨(y.t.data.toList.take i).toArray⟩) (N:=λb=>b.pre=y.pre++[y.t.data.toList.take i]/\b.t=y.t) (X:=λb σ=>XT σ _ True) (uu y R w0) (λb _=>⟨[],yb b R w0⟩) ag (DC (JF _)) (hg.trans (C.trans (F.trans H))) (λW8 M=>hY y _ W8 M ⟨_,by rw[u,h3]⟩) λb σ9 r9 a9 W9 S al ao aw=>?_));have T:=(QV w0 al).2 _ _ _ ao;refine wpIn_cond_false (T.see.ts 42 _ rfl).1 (wpIn_skip ?_);show(QA (QA (QA (QA spG)))).wpIn Fence.wide 8 prog _ a9 W9;have e9:(b.t.size=y.t.size):=by rw[S.2]
      refine wpIn_wide.2 (Ja (Jv QR) Qu QR (p:=λe σ=>ZO e _) (Qaq b R (i:=i) (by rw[e9];exact P) (by rw[e9];exact O) w0) (DC (JF _)) T (λd v c a w h=>g d v c a w h) λe σB rB aB WB I bd bi=>?_);cases e with
      | exit i=>exact False.elim I
      | ret=>exact False.elim I
      | normal =>
       refine⟨⟨b.pre,⟨(b.t.data.toList.drop (i+1)).toArray⟩,b.A,b.c⟩,⟨⟨rB,(QV w0 (show XT σB _ True from I)).2 _ _ _ bd,aw.trans bi⟩,?_,?_⟩,?_⟩
       ·show Qg s=b.pre++Qg (b.t.data.toList.drop (i+1));rw[u,h3,S.1,S.2];simp
       ·show(b.t.data.toList.drop (i+1)).toArray.size<=65536;rw[Sa,Lf];simp;omega
       ·show(b.t.data.toList.drop (i+1)).toArray.size<y.t.size;rw[Sa,Lf];simp;omega
theorem yj(a:u4)(W:y9): DO prog tt W f15 (ja (K9 3 f15) (⟨39,[(0,sV a),(3,.ptr 0 0),(4,.ptr 1 0)],[some (61,[lV none 0 0]),some (3,[iV 0])],[]⟩:St) True) (O4 39 [Ψ a]) [.esc 3] (λ_ _ _=>False) :=
 Xs (Kr (show K9 3 f15=some (Kq 3 f15)from x5) trivial (qS a) (qk (some (61,[lV none 0 0]))) (qk (some (3,[iV 0])))<|trivial) x5
def yn(_:Unit): a8:=[.slice none 0 0,.int .i64 0]
theorem yl(b:u4)(W:y9): Xu prog tt (JI prog tt W) (0,0) W (vE (Kq 3 f15)) (⟨39,[(0,sV b),(3,.ptr 0 0),(4,.ptr 1 0)],[some (61,[lV none 0 0]),some (3,[iV 0])],[]⟩:St) [.nil 3 0 65 2 yn,.inl 3 1 f37,.inl 1 2 f69] (λe σ _=>ZO e (XT σ (⟨39,[(3,.ptr 0 0),(4,.ptr 1 0),(8,.clo (.func 105) [] [.ptr 3 0,.ptr 2 0,.ptr 4 0])],ZT (⟨[],b,none,0⟩:LnY),ZU (Qj (Qg b.data.toList) 0) (⟨[],b,none,0⟩:LnY)⟩:St) True)) :=
 Xs (Zb func37 (λa w=>call37 a w) func69 (λa w=>call69 a w) (Rq (.func 105:Fn)) (qk (some (61,[lV none (LnY.n (⟨[],b,none,0⟩:LnY)) 0]))) (qk (some (3,[iV (LnY.at (⟨[],b,none,0⟩:LnY))]))) (qk (some (9,[sV b])))<|X7 (qk (some (9,[sV nlB]))) (qk (some (3,[iV 0])))<|(show(∀(c:z0) (d:Nat->Prop) (f:y9),(Qc 65 2 yn ([]:List Unit) none 0).φ c d f->(Qt 65 2 (LnY.n (⟨[],b,none,0⟩:LnY)) (KT (Qj (Qg b.data.toList) 0)) none 0).φ c d f)/\True from⟨λ_ _ _ h=>BA _ _ _ _ _ _ _ _ h,trivial⟩)) x5
theorem ym{s:List UInt8}(y:LnY)(D:Nat)(W:y9): Xu prog tt (JI prog tt W) (0,0) W (SG (Kq 3 f15)) (mS ZT (ZU (Qj (Qg s) 0)) 39 [(3,.ptr 0 0),(4,.ptr 1 0)] (EW D) y) [] (λe σ _=>match e with | .ret=>XT σ (⟨39,[(2,lV y.A y.n y.c)],[],[some (Qt 65 2 y.n (KT (Qj (Qg s) 0)) y.A y.c),some (EW D)]⟩:St) True|_=>False) :=
 Xs (JH (qV (Ω y.A y.n y.c)) (Yu (Qt 65 2 y.n (KT (Qj (Qg s) 0)) y.A y.c)) (Yu (EW D))<|trivial) x5
theorem yk(a:u4): XT (⟨39,[(3,.ptr 0 0),(4,.ptr 1 0),(8,.clo (.func 105) [] [.ptr 3 0,.ptr 2 0,.ptr 4 0])],ZT (⟨[],a,none,0⟩:LnY),ZU (Qj (Qg a.data.toList) 0) (⟨[],a,none,0⟩:LnY)⟩:St) ⟨39,[(3,.ptr 0 0),(4,.ptr 1 0)],ZT (⟨[],a,none,0⟩:LnY),ZU (Qj (Qg a.data.toList) 0) (⟨[],a,none,0⟩:LnY)⟩ True:=Xs (qk (some (61,[lV none (LnY.n (⟨[],a,none,0⟩:LnY)) 0])) |> ai<|qk (some (3,[iV (LnY.at (⟨[],a,none,0⟩:LnY))])) |> ai<|qk (some (9,[sV a])) |> ai<|qk (some (9,[sV nlB])) |> ai<|qk (some (3,[iV 0])) |> ai<|Yu (Qt 65 2 (LnY.n (⟨[],a,none,0⟩:LnY)) (KT (Qj (Qg a.data.toList) 0)) none 0) |> ai<|trivial) x5
theorem jP{s:List UInt8}{W:y9}(y:LnY){D:Nat}{r:Env}{a:Act}{w:y9}(h:Sat W (mS ZT (ZU (Qj (Qg s) 0)) 39 [(3,.ptr 0 0),(4,.ptr 1 0)] (EW D) y) r a w){g:Ending->y9->Prop}(k:∀x S f,(Qt 65 2 y.n (KT (Qj (Qg s) 0)) y.A y.c).φ x S f->(∀b,S b->W.heap.size<=b/\b<f.heap.size)->Below W.heap.size W f->g (.returned (.slice y.A y.n y.c)) f):
  (SG (Kq 3 f15)).wp prog (D7 (bodyPostM Fence.wide 9 prog f15 g)) (Yn [{ target:=.collected D,args:=#[] }] a) w:=by
 refine wp_mono (Ja (Ew QR (ds:=[{ target:=.collected D,args:=#[] }])) Qu QR (p:=λe σ=>match e with | .ret=>XT σ _ True|_=>False) (Q:=λe a w=>D7 (bodyPostM Fence.wide 9 prog f15 g) e (Yn [{ target:=.collected D,args:=#[] }] a) w) (ym y D W) ⟨La _,La _⟩ h (λ_ _ _ _ _ h=>h) λe l t m o d j _=>?_) λe m o q=>?_
 ·cases e with
  | normal=>exact False.elim d
  | exit i=>exact False.elim d
  | ret=>exact Wy ((QV W (show XT l _ True from d)).2 _ _ _ j) x5 k
 ·obtain⟨b,rfl,h⟩:=q;exact h
theorem oQ{d:u4}(B:d.size<=65536)(w:y9): NewIn prog w [] 15 #[.string d] (λy:Hp=>Value.slice y.1 (Qj (Qg d.data.toList) 0).length y.2) (λy:Hp=>Qt 65 2 (Qj (Qg d.data.toList) 0).length (KT (Qj (Qg d.data.toList) 0)) y.1 y.2):=by
 have f:d.data.toList.length<=65536:=y8 B;refine⟨λa w=>call15 a w,λW _=>UN (args:=[.string d]) Qu QR func15 x5 (yj d W) λb σ r a V F G=>?_⟩;obtain⟨H,_,m⟩:=Bv F G;rw[<- IR H,(lk (c:=(Kq 3 f15)) x5).1];refine wp_seq (wp_seq (Ja (Jv QR) Qu QR (p:=λe σ=>ZO e _) (yl d W) ⟨La _,La _⟩ m (λ_ _ _ _ _ h=>h) λe I k g u o q _=>?_));cases e with
 | exit i=>exact False.elim o
 | ret=>exact False.elim o
 | normal =>
  have j:=(QV W (show XT I _ True from o)).2 _ _ _ q;have J:g.eval (.tmp 8)=_:=(j.see.ts 8 _ rfl).1;have s:Sat W ⟨39,[(3,.ptr 0 0),(4,.ptr 1 0)],ZT ⟨[],d,none,0⟩,ZU (Qj (Qg d.data.toList) 0) ⟨[],d,none,0⟩⟩ k g u:=(QV W (yk d)).2 _ _ _ j;show(wX (Kq 3 f15)).wp prog _ g u;rw[show wX (Kq 3 f15)=.block 0 (.rangeFunc (.tmp 8) #[9] (sJ (Kq 3 f15)) (sK (Kq 3 f15)))from x5,show g=Yn [] g by simp[Yn]];refine wp_block (mem_range Qu QR (JF (Qj (Qg d.data.toList) 0)) (enc:=λx=>.string ⟨x.toArray⟩) (C:=λy x=>∃r,Qg d.data.toList=y.pre++x::r) (N:=λy x v=>v.pre=y.pre++[x]/\v.t=y.t) (E:=λy=>y.pre=Qg d.data.toList) (ts1:=λy x=>[(3,.ptr 0 0),(4,.ptr 1 0),(5,sV ⟨x.toArray⟩)]) rfl x5 x5 (λy x R _=>⟨_,yh y R W⟩) (λy x R ⟨r,h⟩=>⟨_,yi f y h R W⟩) s J (λa w=>call105 a w) (λl R r1 X K L M=>?_) λD Y Z y z O=>?_)
  ·have:=lN f (l:=l) (R:=R) rfl K M;rw[show(QJ r1 [.val (.func (.yield l) #[] #[]),.ptr 3 0,.ptr 2 0,.ptr 4 0]).toArray=#[Value.func (.yield l) #[] #[]]++#[.pointer (some ⟨k.b 3,0,none⟩),.pointer (some ⟨k.b 2,0,none⟩),.pointer (some ⟨k.b 4,0,none⟩)]from by simp[QJ,SV.den,L.1]]at this;exact this
  ·refine jP y O λx S P Q T U=>⟨(y.A,y.c),x,S,?_,?_,T,U⟩
   ·show _=Ending.returned (.slice y.A (Qj (Qg d.data.toList) 0).length y.c);rw[<- z];rfl
   ·show(Qt _ _ (Qj (Qg d.data.toList) 0).length _ y.A y.c).φ x S P;rw[show(Qj (Qg d.data.toList) 0).length=y.n from by rw[<- z];rfl];exact Q
theorem FK{w a:y9}{A:u5}{n:Nat}{f:Nat->a8}(h:RdK w A n k f)(d:0<n->∀b o,A=some ⟨b,o,none⟩->a.heap[b]?=w.heap[b]?): RdK a A n k f:=λc=>by
 obtain⟨b,o,e,g⟩:=h c;exact⟨b,o,e,λj l i m=>by rw[<- g j l i m];unfold World.cell?;rw[show a.heap[b]?=w.heap[b]? from d c b o e]⟩
structure LnA where
 A0:Option Addr
 c0:Nat
 Al:Nat->Option Addr
 cl:Nat->Nat
def DI(l:List UInt8)(y:LnA): χ:=⟨y.A0,y.c0,Qj (Qg l) 0,y.Al,y.cl,none,0,[],0,(l.length:Int)⟩
def jS(s:χ): Res where
 φ x S w:=x.oneCell'=true/\s.ok w/\(∀b o,s.A0=some ⟨b,o,none⟩->0<s.ls.length->S b)/\(∀j b o,j<s.ls.length->0<(Xj s.ls j).l.length->s.Al j=some ⟨b,o,none⟩->S b)/\s.l=[]
 one _ _ _ h:=h.1
 loc x S w w' h hφ:=by
  obtain⟨k,a,d,f,g⟩:=hφ;exact⟨k,⟨a.h0,FK a.r0 λc b o e=>h b (d b o e c),a.hl,λj i=>FK (a.rl j i) λc b o e=>h b (f j b o i c e),a.hc,FK a.rd λc=>by rw[g]at c;exact absurd c (Sx _)⟩,d,f,g⟩
theorem Ox{w:y9}{e n c:Nat}{A:u5}{d:a8}(h:w.ownsRow 0 e k (.slice A n c) n d): n<=c/\(0<n->∃b,A=some ⟨b,0,none⟩/\(Value.slice A n c).ownBlock=some b):=by
 rcases h.2 with⟨a,f⟩|⟨g,cap,i,a,_,_,j,_⟩
 ·exact⟨x3,λh=>x3⟩
 ·injection a with a f l
  subst a l;exact⟨j,λ_=>⟨g,rfl,rfl⟩⟩
theorem uD{L:List Ln}{A:u5}{c:Nat}{x:z0}{w:y9}(s:(Qt 65 2 L.length (KT L) A c).φ x S w): ∃(Al:Nat->u5) (cl:Nat->Nat),(L.length<=c/\(0<L.length->∃b o,A=some ⟨b,o,none⟩))/\∀t,(jS ⟨A,c,L,Al,cl,none,0,[],0,t⟩).φ x S w:=by
 obtain⟨f,M,m,z,B,C⟩:=N4 s;obtain⟨D,N,O,_,n,_,_,E⟩:=(show _/\_ from s)
 obtain⟨u,v⟩:=Ox n;have key:∀i,∃p:u5×Nat,i<L.length->f i=[.slice p.1 (Xj L i).l.length p.2,.int .i64 (Xj L i).e]/\(Xj L i).l.length<=p.2/\RdK w p.1 (Xj L i).l.length 2 (λj=>V2 (Qf (Xj L i).l j))/\∀b o,0<(Xj L i).l.length->p.1=some ⟨b,o,none⟩->S b:=λi=>by
  by_cases y:i<L.length
  ·obtain⟨F,G,P,k1,H,d⟩:=B i y;refine⟨(F,G),λ_=>⟨H,?_,tF B4 zv d,λb o m e=>?_⟩⟩
   ·rcases(show _\/_ from d)with d|⟨_,g,Q,_⟩
    ·exact(Ox (show _/\_/\_ from d).2.1).1
    ·have g:(Xj L i).l=[]:=g;rw[g];exact La _
   ·rcases(show _\/_ from d)with d|⟨_,g,_⟩
    ·obtain⟨_,I,J⟩:=(show _/\_/\_ from d)
     obtain⟨K,q,r⟩:=(Ox I).2 m;have a:=q.symm.trans e;injection a with a
     injection a with a
     subst a;exact(C _ (k1 _ ((J _).2 r))).1
    ·have g:(Xj L i).l=[]:=g;rw[g]at m;exact absurd m (Sx _)
  ·exact⟨(none,0),λh=>absurd h y⟩
 refine⟨λi=>(Classical.choose (key i)).1,λi=>(Classical.choose (key i)).2,⟨u,λh=>(v h).imp λb h=>⟨0,h.1⟩⟩,λt=>⟨D,⟨u,z.congr λj k=>(Lp (key j) k).1,λj k=>(Lp (key j) k).2.1,λj k=>(Lp (key j) k).2.2.1,L8 _,λh=>absurd h (Sx _)⟩,λb o e h=>?_,λj b o k m e=>(Lp (key j) k).2.2.2 b o m e,rfl⟩⟩;obtain⟨K,q,r⟩:=v h;have a:=q.symm.trans e;injection a with a
 injection a with a
 subst a;exact(E _).2 (.inl r)
abbrev rU(l:List UInt8): Type:={y:LnA // (Qj (Qg l) 0).length<=y.c0/\(0<(Qj (Qg l) 0).length->∃b o,y.A0=some ⟨b,o,none⟩)}
theorem oP{t0:u4}(a:t0.size<=65536)(w:y9): NewIn prog w [] 15 #[.string t0] (λy:rU t0.data.toList=>.slice y.1.A0 (Qj (Qg t0.data.toList) 0).length y.1.c0) (λy=>jS (DI t0.data.toList y.1)):=by
 obtain⟨b,h⟩:=oQ a w;refine⟨b,λW c=>(show Calls _ _ _ _ _ from h W c).mono λe k d=>?_⟩;obtain⟨y,x,S,rfl,f,g,i⟩:=d;obtain⟨Al,cl,k1,j⟩:=uD f;exact⟨⟨⟨y.1,y.2,Al,cl⟩,k1⟩,x,S,rfl,j _,g,i⟩
theorem xV{l:List UInt8}(a:l.length<=3999)(y:rU l): (DI l y.1).In (jS (DI l y.1)):=⟨λ_ _ _ h=>h.2.1,oe a,y.2.1,y.2.2⟩
noncomputable def outP(l:List UInt8): PV×Int×Int:=match Q5 (Ze l)with
 | .error z=>(pv0,z,2)
 | .ok (r,_)=>bif r.2 then(pv0,0,3)else bif chkN r.1 != 0 then(pv0,0,chkN r.1)else(r.1,0,0)
def wV(x:PV)(a c d f g:z0): SV:=.agg [iV x.δ,iV x.vars,.val a,.val c,.val d,.val f,bV x.ν.b,sV x.ν.s,iV x.ν.e,bV x.ε.b,sV x.ε.s,iV x.ε.e,iV x.ζ,.val g]
def sG(x:PV)(a b c d e:z0): z0:=yA x a b c d e
def PrE(l:List UInt8)(s:SV)(R:Res): Prop:=∃(pv:PV) (a b c d f:z0) (z e:Int),s=.tup [wV pv a b c d f,iV z,iV e]/\outP l=(pv,z,e)/\okX pv/\∀x S w,R.φ x S w->Five 0 w pv a b c d f
theorem um(w:y9): Five 0 w pv0 (.slice none 0 0) (.slice none 0 0) (.slice none 0 0) (.slice none 0 0) (.slice none 0 0) :=
 have h:∀ {α:Type} {k:Nat} {p:Rdg α},SlV 0 k p w ([]:List α) (.slice none 0 0):=⟨none,0,rfl,L8 _,λ_=>⟨rfl,rfl⟩,λh=>absurd h (Sx _)⟩
 ⟨h,h,h,h,h⟩
theorem QaB:okX pv0:=⟨⟨⟨x4,x4,λp a=>(by cases a),x4⟩,x4,x4,x4,λp a=>(by cases a),λp a=>(by cases a),λp a=>(by cases a),λx b=>by
 obtain rfl|rfl:x=pv0.ν\/x=pv0.ε:=by simpa [Qo,pv0]using b
 all_goals exact⟨x4,x4,x4⟩⟩⟩
theorem WS{l:List UInt8}{z e:Int}{R:Res}(h:outP l=(pv0,z,e)): PrE l (.tup [wV pv0 (.slice none 0 0) (.slice none 0 0) (.slice none 0 0) (.slice none 0 0) (.slice none 0 0),iV z,iV e]) R:=⟨_,_,_,_,_,_,_,_,rfl,h,QaB,λ_ _ w _=>um w⟩
section
variable {l:List UInt8} {p:PV×Bool} {f:FD} (h:Q5 (Ze l)=.ok (p,f))
theorem RS{z:Int}(h:Q5 (Ze l)=.error z): outP l=(pv0,z,2):=by unfold outP;rw[h]
include h
theorem sD(a:p.2=true): outP l=(pv0,0,3):=by unfold outP;rw[h];dsimp only;rw[a];rfl
theorem sC(a:p.2=false)(b:(chkN p.1 != 0)=true): outP l=(pv0,0,chkN p.1):=by unfold outP;rw[h];dsimp only;rw[a,b];rfl
theorem sE(a:p.2=false)(b:(chkN p.1 != 0)=false): outP l=(p.1,0,0):=by unfold outP;rw[h];dsimp only;rw[a,b];rfl
end
def shp(v:z0): u5×Nat×Nat:=match v with
 | .slice A n c=>(A,n,c)
 | _=>(none,0,0)
def XW(v:z0): z0:=.slice (shp v).1 (shp v).2.1 (shp v).2.2
theorem IJ{α:Type}{a:Nat}{p:Rdg α}{w:y9}{l:List α}(h:SlV a k p w l v): XW v=v:=by
 obtain⟨A,c,rfl,_⟩:=h;rfl
theorem Five.sl{w:y9}{x:PV}{a d e f g:z0}(h:Five 0 w x a d e f g): XW a=a/\XW d=d/\XW e=e/\XW f=f/\XW g=g:=⟨IJ h.b,IJ h.s,IJ h.p,IJ h.r,IJ h.c⟩
section
variable {P:Program} {w0:World}
theorem uQ{β:Type}{tt:List (Nat×TI)}(g:YF P tt)(i:P.follows .mixedOrders=true){f:FuncId}{fn:Func}(j:XB P f)(k:P.funcs[f]?=some fn){N:Nat}(l:fn.ntmps=N)(m:fn.results=rs)(args:a8)(n:Nat.ble args.length N=true)(val:β->z0)(ρ:β->Res)(E:SV->St->Prop)(d:List Dir){T:y9->Prop}(h:∀W,Below w0.heap.size w0 W->T W)(o:∀W,T W=EM P tt W fn (O4 N args) d λe σ _=>Vj tt rs.toList e σ λs=>E s σ)(p:∀W s σ,E s σ->∀r a c,Sat W σ r a c->∃y x S,s.den r=val y/\(ρ y).φ x S c/\∀b,S b->W.heap.size<=b/\b<c.heap.size): NewIn P w0 [] f args.toArray val ρ:=by
 refine⟨j,λW q=>?_⟩;have t:=WF W _ (λv c=>∃y x S,v=val y/\(ρ y).φ x S c/\∀b,S b->W.heap.size<=b/\b<c.heap.size) _ g i k l m args n d (h W q) (o W) (p W);refine t.mono λe c u=>?_
 obtain⟨v,rfl,⟨y,x,S,rfl,k1,w⟩,z⟩:=u;exact⟨y,x,S,rfl,k1,w,z⟩
end
structure PrB (l:List UInt8) where
 vb:Value
 vs:Value
 vp:Value
 vr:Value
 vc:Value
 R:Res
 x:okX (outP l).1
 f:∀x S w,R.φ x S w->Five 0 w (outP l).1 (XW vb) (XW vs) (XW vp) (XW vr) (XW vc)
noncomputable def prV(l:List UInt8)(y:PrB l): z0:=.tuple #[sG (outP l).1 (XW y.vb) (XW y.vs) (XW y.vp) (XW y.vr) (XW y.vc),.int .i64 (outP l).2.1,.int .i64 (outP l).2.2]
def VT{s:χ}{M:Res}: m7 s M->PrY
 | .inl y=>y.1
 | .inr _=>⟨s,pv0,false,undef,undef,undef,undef,undef,M⟩
def PrY.cs(y:PrY): a8:=χ.cs y.t (PC.l ⟨y.pv.δ,y.pv.vars,XW y.vb,XW y.vs,XW y.vp,XW y.vr,y.pv.ν,y.pv.ε,y.pv.ζ,XW y.vc⟩ y.m)
theorem PrE.use{l:List UInt8}{s:SV}{R:Res}(h:PrE l s R){r:Env}{x:z0}{w:y9}(p:R.φ x S w): ∃y:PrB l,s.den r=prV l y/\y.R=R:=by
 obtain⟨pv,b,c,d,f,g,z,e,rfl,a,q,i⟩:=h;obtain⟨j,k,m,n,o⟩:=(i _ _ _ p).sl;refine⟨⟨b,c,d,f,g,R,by rw[a];exact q,λx S w h=>by rw[a,j,k,m,n,o];exact i x S w h⟩,?_,rfl⟩;show _=Value.tuple #[sG (outP l).1 (XW b) (XW c) (XW d) (XW f) (XW g),.int .i64 (outP l).2.1,.int .i64 (outP l).2.2];rw[a,j,k,m,n,o];rfl
theorem yf(g:Nat)(y:PrY)(M:Res)(W:y9): GC prog W [Qh g 69 y.cs M] (Instr.loadAt 35 (.pointer (some ⟨g,4,none⟩))) (sG y.pv (XW y.vb) (XW y.vs) (XW y.vp) (XW y.vr) (XW y.vc)):=QU λ_ a=>Wx (o:=4) a (show 4+14<=19 by decide)
theorem vA{l:List UInt8}{a:rU l}{y:m7 (DI l a.1) (jS (DI l a.1))}(h:decide (vz y>=0)=true): Q5 (Ze l)=.error (vz y):=by
 cases y with
 | inl y=>exact absurd (L1 h) (show ¬(-1:Int)>=0 by decide)
 | inr z=>exact z.2
theorem EZ{l:List UInt8}{a:rU l}{y:m7 (DI l a.1) (jS (DI l a.1))}(h:decide (vz y>=0)=false): (VT y).Ok (DI l a.1) (jS (DI l a.1))/\∀ {g:Nat} {x:z0} {S:Nat->Prop} {w:y9},(wW g y).φ x S w->(Qh g 69 (VT y).cs (VT y).M').φ x S w:=by
 cases y with
 | inl y =>
  refine⟨y.2,λ{g x S w} h=>?_⟩;obtain⟨_,_,b,c,d,_⟩:=(show _/\_/\∃b c,_ from h)
  obtain⟨e,f,i,j,k⟩:=(y.2.five _ _ _ d).sl;show(Qh g _ y.1.cs y.1.M').φ x S w;unfold PrY.cs;rw[e,f,i,j,k];exact h
 | inr z=>exact absurd (SB z.2) (L7 h)
theorem Pb{t:Nat}{cs:a8}{y:PrY}{x:z0}{w:y9}(a:Sy y.M' λw=>Five 0 w y.pv y.vb y.vs y.vp y.vr y.vc)(h:(Qh g t cs y.M').φ x S w): Five 0 w y.pv (XW y.vb) (XW y.vs) (XW y.vp) (XW y.vr) (XW y.vc):=by
 obtain⟨_,_,c,d,b,_⟩:=(show _/\_/\∃c d,_ from h)
 obtain⟨e,f,i,j,k⟩:=(a _ _ _ b).sl;rw[e,f,i,j,k];exact a _ _ _ b
theorem Di(t0:u4)(D:t0.size<=3999)(w:y9)(l:Q0 w): NewIn prog w [] 8 #[.string t0] (prV t0.data.toList) (λy:PrB t0.data.toList=>y.R) :=
 uQ Qu QR (λa w=>call8 a w) func8 ntmps8 results8 [.string t0] rfl (prV t0.data.toList) (λy:PrB t0.data.toList=>y.R) (λs σ=>ZV (Xe σ.rs 1) (PrE t0.data.toList s)) [.br false,.mk 3 1 [] (λ(f:rU t0.data.toList)=>.slice f.1.A0 (Qj (Qg t0.data.toList) 0).length f.1.c0) (λ(f:rU t0.data.toList)=>jS (DI t0.data.toList f.1)) (λ(f:rU t0.data.toList)=>[.giv 4 0 1 0 [5] (λ(d:Nat)=>[.fx 4 1 1 (λ(c:m7 (DI t0.data.toList f.1) (jS (DI t0.data.toList f.1)))=>.int .i64 (vz c)) (λ(c:m7 (DI t0.data.toList f.1) (jS (DI t0.data.toList f.1)))=>wW d c) (λ_=>False) (λ(c:m7 (DI t0.data.toList f.1) (jS (DI t0.data.toList f.1)))=>[.both [] [.cnv 7 0 1 (Qh d 69 (VT c).cs ((VT c).M')),.o 7 2 (.set (.pointer (some ⟨d,18,none⟩))),.o 7 3 (.rd [1] (.bool ((VT c).m))),.both [] [.o 9 2 (.set (.pointer (some ⟨d,4,none⟩))),.o 9 3 (.rd [1] (yA ((VT c).pv) (XW (VT c).vb) (XW (VT c).vs) (XW (VT c).vp) (XW (VT c).vr) (XW (VT c).vc))),.o 9 4 (.retr [1] (.int .i64 (chkN (VT c).pv))),.both [] [.o 12 2 (.set (.pointer (some ⟨d,4,none⟩))),.o 12 3 (.rd [1] (yA ((VT c).pv) (XW (VT c).vb) (XW (VT c).vs) (XW (VT c).vp) (XW (VT c).vr) (XW (VT c).vc)))]]]])])])] (λW z=>have l:=Ql l z;ai (show decide ((t0.size:Int)>65536)=false from Lh x3)<|ai (oP (t0:=t0) x3 W) λ(f:rU t0.data.toList)=>λ(d:Nat)=>ai (vB (g:=d) (xV (show t0.data.toList.length<=3999 by show t0.size<=3999;omega) f) W (Ql l (l3 _ _)))<|ai (λ(c:m7 (DI t0.data.toList f.1) (jS (DI t0.data.toList f.1)))=>XA (decide ((vz c)>=0)) (λi=>(show PrE t0.data.toList (.tup [wV pv0 (.slice none 0 0) (.slice none 0 0) (.slice none 0 0) (.slice none 0 0) (.slice none 0 0),iV (vz c),iV 2]) (wW d c)from WS (RS (vA i)))) λi=>JH (λ(x:z0) (S:Nat->Prop) (w:y9) (h:(wW d c).φ x S w)=>(EZ i).2 h) (Jg W d 0) (QU (w0:=W) (g:=d) (t:=69) (cs:=(VT c).cs) (M:=(VT c).M') (λk A=>bP k 18 A rfl))<|XA ((VT c).m) (λj=>(show PrE t0.data.toList (.tup [wV pv0 (.slice none 0 0) (.slice none 0 0) (.slice none 0 0) (.slice none 0 0) (.slice none 0 0),iV 0,iV 3]) (Qh d 69 (VT c).cs ((VT c).M'))from WS (sD (EZ i).1.e j))) λj=>JH (Qe W d 0) (yf d (VT c) ((VT c).M') W) (k0 (λa w=>call10 a w) (λ(k:y9) (n:Below W.heap.size W k) (x:z0) (S:Nat->Prop) (h:(Qh d 69 (VT c).cs ((VT c).M')).φ x S k)=>(aW (VT c).pv (EZ i).1.x k (Ql l n) (Pb (EZ i).1.five h)).at))<|XA ((chkN (VT c).pv) != 0) (λq=>(show PrE t0.data.toList (.tup [wV pv0 (.slice none 0 0) (.slice none 0 0) (.slice none 0 0) (.slice none 0 0) (.slice none 0 0),iV 0,iV (chkN (VT c).pv)]) (Qh d 69 (VT c).cs ((VT c).M'))from WS (sC (p:=((VT c).pv,(VT c).m)) (EZ i).1.e j q))) λq=>X7 (Qe W d 0) (yf d (VT c) ((VT c).M') W)<|(show PrE t0.data.toList (.tup [wV (VT c).pv (XW (VT c).vb) (XW (VT c).vs) (XW (VT c).vp) (XW (VT c).vr) (XW (VT c).vc),iV 0,iV 0]) (Qh d 69 (VT c).cs ((VT c).M'))from⟨_,_,_,_,_,_,_,_,rfl,sE (p:=((VT c).pv,(VT c).m)) (EZ i).1.e j q,(EZ i).1.x,λ_ _ _ h=>Pb (EZ i).1.five h⟩)) (λ(_:z0) (h:False)=>h)) (λW=>x5) λW s σ B r a E u=>by
  obtain⟨R,i,h⟩:=QH B;obtain⟨k1,C⟩:=u.see.rs 1 R i;obtain⟨y,j,rfl⟩:=h.use k1;exact⟨y,_,_,j,k1,λb v=>⟨u.sep.ownS 1 _ i b v,C b v⟩⟩
open Go.Shelf
theorem oL:liesAt prog prog.depth 85 (2 / prog.cellsOf 85) 0 85 1=true:=x5
abbrev BdT(T:u6): Prop:=liesAt prog prog.depth T (2 / prog.cellsOf T) 0 85 1=true/\T≠5
theorem Cl:liesAt prog prog.depth 87 (2 / prog.cellsOf 87) 0 85 1=true:=x5
theorem p9(i:BdT T){p:Value}{w:World}(l:p=.pointer none\/p=.pointer (some ⟨b,0,none⟩))(h:w.heap[b]?=some (.cells #[p,v] T (0,0))): Calls prog 101 #[.pointer (some ⟨b,0,none⟩)] w λe c=>e=.returned (.tuple #[])/\c.heap[b]?=some (.cells #[.pointer (some ⟨b,0,none⟩),v] T (0,0))/\Below 0 w c/\∀k,k≠b->c.heap[k]?=w.heap[k]?:=by
 obtain⟨j,d,g⟩:=Option.map_eq_some_iff.1 extraW.toX72.sizeBuilder;have o:w.cell? ⟨b,0,none⟩=some p:=by simp[World.cell?,h]
 rcases l with rfl|rfl
 ·have a:w.shape? b=some (T,2):=by simp[World.shape?,h]
  have m:w.frozen? ⟨b,0,none⟩=false:=by simp[World.frozen?,h]
  go_enter func101,ntmps101
  go_wp2
  rw[show(Go.convert 83 203 (.pointer (some ⟨b,0,none⟩))).run prog w=_ from Lib.run_to_unsafe w ⟨b,0,none⟩ laysW.t70 laysW.t164 d (by rw[g];decide) a (Nat.zero_lt_succ 1)];simp only[Result.andThen];rw[Oper.upon_value];go_wp2
  rw[run_callFunc_extern (f:=132) laysW.f276 x5 x5 x5 (e:=Extern.AbiNoEscape.same) x5];rw[Lib.run_noEscape];simp only[Result.andThen];rw[Oper.upon_value];go_wp2
  rw[show(Go.convert 203 83 (.pointer (some ⟨b,0,none⟩))).run prog w=_ from Lib.run_from_unsafe w ⟨b,0,none⟩ laysW.t164 laysW.t70 d a i.1];simp only[Result.andThen];rw[Oper.upon_value];go_wp2
  go_end0
  exact⟨rfl,by simp[World.setCell,Array.getElem?_modify,h],(l3 0 w).setCell (p:=⟨b,0,none⟩) (La _) _,λk n=>S5 w ⟨b,0,none⟩ _ k n⟩
 ·go_enter func101,ntmps101
  go_wp2
  rw[show(binOp .neq 83 (.pointer (some ⟨b,0,none⟩)) (.pointer (some ⟨b,0,none⟩))).run prog w=_ from Lib.run_neq_ptr_same w _ laysW.t70 d];go_wp2
  go_end0
  exact⟨rfl,h,l3 0 _,λ_ _=>rfl⟩
section
variable {P:Program}
theorem gk{t u ty e:u6}{i:TypeInfo}(o:P.underlying t=some (.slice e))(p:P.underlying u=some .string)(q:P.info? e=some i)(y:i.zero=some (.int .u8 0))(c:i.size=1)(f:i.bytes=1){w:y9}{n:Nat}{h:a8}(d:w.ownsRow 0 e 1 v n h)(s:u4)(B:n+s.size<=140737488355328):
  ∃j l,(Builtin.append_ #[t,u] ty #[v,.string s]).run P w=.ok j l/\l.ownsRow 0 e 1 j (n+s.size) (h++Lib.strCells s)/\w.grownBy l v.ownBlock/\∀k,j.ownBlock=some k->v.ownBlock=some k\/w.heap.size<=k:=by
 have m:n+s.size<=maxLen:=by simp only[maxLen];omega
 obtain⟨j,l,r,C,D,_⟩:=Lib.run_append_own_string (P:=P) w 0 t u ty e i o p q y c f v n h d s m B (La _);refine⟨j,l,r,C,D,λk x=>?_⟩;rcases d.2 with⟨rfl,rfl⟩|⟨g,cap,z,rfl,E,F,G,H,I,A⟩
 ·obtain⟨L,M,k1,J,_⟩:=Lib.run_append_own_string (P:=P) w w.heap.size t u ty e i o p q y c f (.slice none 0 0) 0 h ⟨d.1,.inl ⟨rfl,rfl⟩⟩ s m B (L8 _);rw[r]at k1;injection k1 with a b
  subst a b;exact .inr (J.lt k x).1
 ·by_cases K:n+s.size<=cap
  ·have k1:=Lib.run_append_room_string (P:=P) w t u ty e i o p q c g n cap z F s K x3;rw[r]at k1;injection k1 with a b
   subst a;exact .inl x
  ·have k1:=Lib.run_append_grow_string (P:=P) w t u ty e i (.int .u8 0) o p q y ⟨g,0,none⟩ n cap h (by rw[c];exact d.1) (d.cells (g:=g) rfl) s x3 x3 (by rw[f];exact growslice_fits x3 x3);rw[r]at k1;injection k1 with a b
   subst a;simp only[Value.ownBlock,Option.some.injEq]at x;exact .inr (Rx x)
theorem wK{c:Array Oper}{b:List Oper}{o:Oper}{a:Act}{w:y9}{Q:Exit->Act->y9->Prop}(d:o.guard=none)(sl x:b8)(t u:u6)(g:o.op=.call { callee:=.builtin .append,args:=#[sl,x],argTypes:=#[t,u] }){e:z0}{s:u4}{f:y9}(i:a.eval sl=v)(j:a.eval x=.string s)(k:(Builtin.append_ #[t,u] o.type #[v,.string s]).run P w=.ok e f)(h:wpList P c Q b (a.put o.dst e) f): wpList P c Q (o::b) a w:=by
 refine wpList_plain d λK l=>?_
 unfold Oper.wp execOp;simp only[g,resolve,invoke,builtin,p0,Sem.run_pure,p7,List.map_toArray,T9,List.map_nil,i,j,k];exact l _ _ h
end
def E5(T:u6)(b:Nat)(l:List UInt8): Res where
 φ x S w:=x.oneCell'=true/\∃p v,(p=.pointer none\/p=.pointer (some ⟨b,0,none⟩))/\w.heap[b]?=some (.cells #[p,v] T (0,0))/\w.ownsRow 0 5 1 v l.length (Lib.byteCells l)/\v.ownBlock≠some b/\∀k,S k↔k=b\/v.ownBlock=some k
 one _ _ _ h:=h.1
 loc x S w w' h hφ:=by
  obtain⟨e,p,v,f,i,d,j,a⟩:=hφ;refine⟨e,p,v,f,(h b ((a b).2 (.inl rfl))).trans i,⟨d.1,d.2.imp id ?_⟩,j,a⟩;rintro⟨g,cap,c,rfl,k1,m,n⟩;exact⟨g,cap,c,rfl,k1,(h g ((a g).2 (.inr rfl))).trans m,n⟩
theorem GR(T:TypeId)(b:Nat)(l:List UInt8)(s:ByteArray)(X:BdT T)(hl:l.length+s.size<=65536)(w0:World): FxF prog w0 (E5 T b l) 64 #[.pointer (some ⟨b,0,none⟩),.string s] (λ_:Unit=>.tuple #[.int .i64 s.size,.nilIface]) (λ_:Unit=>E5 T b (l++s.data.toList)) (λ_=>False):=by
 refine⟨λa w=>call64 a w,λw B x S hS hφ=>?_⟩;obtain⟨hx,p,v,hp,I,j,C,f⟩:=hφ;have J:b<w.heap.size:=(hS b ((f b).2 (.inl rfl))).2;obtain⟨i0,hi,K,L,M⟩:=info_parts extraW.infoByte;go_enter func64,ntmps64
 have Y:∀args w,(callFunc 101 args).run prog w=.ok (.enter 101 args) w:=λa w=>call101 a w
 go_wp2_with (go_at_fn 101;refine(p9 X hp I).mono ?_)
 rintro e N ⟨rfl,D,n,r⟩;have E:N.ownsRow 0 5 1 v l.length (Lib.byteCells l):=⟨j.1,j.2.imp id λ⟨g,cap,o,e,k1,O,Q⟩=>⟨g,cap,o,e,k1,(r g λR=>C (by rw[e,<- R];rfl)).trans O,Q⟩⟩
 obtain⟨v',m,F,c,i,U⟩:=gk (P:=prog) (ty:=82) laysW.t37 laysW.t9 hi K L M E s x3;have V:(l++s.data.toList).length=l.length+s.size:=x6;obtain⟨z,A,cap,rfl⟩:∃z A cap,v'=.slice z A cap:=by
  rcases c.2 with⟨Z,_⟩|⟨g,cap,o,Z,_⟩<;>exact⟨_,_,_,Z⟩
 have c1:N.cell? ⟨b,1,none⟩=some v:=by rw[Lib.cell_of_heap D];rfl
 have t:b<N.heap.size:=Lb J n.size;have q:m.heap[b]?=some (.cells #[.pointer (some ⟨b,0,none⟩),v] T (0,0)):=by
  rw[i.block b t (λe=>C e.symm)];exact D
 have f1:m.frozen? ⟨b,1,none⟩=false:=Lib.frozen_of_heap q 1;have d1:m.cell? ⟨b,1,none⟩=some v:=by rw[Lib.cell_of_heap q];rfl
 go_wp2_with (at_builtin;refine wK rfl _ _ _ _ rfl rfl rfl F ?_)
 go_wp2
 go_ret2
 have u:=Lib.ownBlock_ne c q X.2;have W:(m.setCell ⟨b,1,none⟩ (.slice z A cap)).heap.size=m.heap.size:=by simp[World.setCell]
 have y:∀k,k≠b->(m.setCell ⟨b,1,none⟩ (.slice z A cap)).heap[k]?=m.heap[k]?:=λk d=>S5 m ⟨b,1,none⟩ _ k d
 have G:∀k,k<w.heap.size->k≠b->v.ownBlock≠some k->(m.setCell ⟨b,1,none⟩ (.slice z A cap)).heap[k]?=w.heap[k]?:=λk d h1 h2=>by
  rw[y k h1,i.block k (Lb d n.size) (λe=>h2 e.symm),r k h1]
 have bt:Below 0 w (m.setCell ⟨b,1,none⟩ (.slice z A cap)):=(n.trans ⟨i.os,i.tape,i.output,i.size,λk d=>absurd d (R6 k)⟩).setCell (p:=⟨b,1,none⟩) (La _) _;refine .inl ⟨(),λk=>k=b\/(Value.slice z A cap).ownBlock=some k,rfl,⟨?_,λk d hn=>G k d (λe=>hn ((f k).2 (.inl e))) λe=>hn ((f k).2 (.inr e))⟩,⟨hx,_,_,.inr rfl,by simp[World.setCell,Array.getElem?_modify,q],⟨?_,c.2.imp (λh=>by rw[V];exact h) ?_⟩,u,λk=>Iff.rfl⟩,λk d=>?_⟩
 ·have hw:∀k,k<w0.heap.size->¬ S k:=λk d h=>Sx _ (Lb d (hS k h).1)
  exact⟨bt.os.trans B.os,bt.tape.trans B.tape,bt.output.trans B.output,L9 B.size bt.size,λk d=>(G k (Lb d B.size) (λe=>hw k d ((f k).2 (.inl e))) λe=>hw k d ((f k).2 (.inr e))).trans (B.block k d)⟩
 ·rw[Lib.byteCells_append,<- Lib.strCells_eq,V];exact c.1
 ·rintro⟨g,H,o,e,k1,O,Q⟩;rw[Lib.byteCells_append,<- Lib.strCells_eq,V];exact⟨g,H,o,e,k1,(y g λR=>u (by rw[e,R];rfl)).trans O,Q⟩
 ·rw[W];rcases d with rfl|d
  ·exact⟨.inl ((f _).2 (.inl rfl)),Lb t i.size⟩
  ·exact⟨(U k d).imp (λh=>(f k).2 (.inr h)) (L9 n.size),(c.lt k d).2⟩
theorem Ng{l:List UInt8}(B:l≠[])(w0:World): FxF prog w0 (E5 T b l) 36 #[.pointer (some ⟨b,0,none⟩)] (λ_:Unit=>.string ⟨l.toArray⟩) (λ_:Unit=>anyR) (λ_=>False):=by
 refine⟨λa w=>call36 a w,λw f x S hS C=>?_⟩;obtain⟨s,p,v,N,t,d,D,u⟩:=C;have i:l.length≠0:=y8 B;obtain⟨g,cap,c,rfl,E,F,G,y,H,z⟩:∃g cap c,v=.slice (some ⟨g,0,none⟩) l.length cap/\0<=g/\w.heap[g]?=some (.cells c 5 (0,0))/\l.length<=cap/\cap<=maxLen/\c.size=cap*1/\c.toList.take (l.length*1)=Lib.byteCells l:=by
  rcases d.2 with⟨_,I⟩|⟨g,cap,c,J,r⟩
  ·exact absurd I i
  ·exact⟨g,cap,c,J,r⟩
 have m:S g:=(u g).2 (.inr rfl);have O:w.drew.cell? ⟨b,1,none⟩=some (.slice (some ⟨g,0,none⟩) l.length cap):=by
  have:w.drew.heap[b]?=_:=t;rw[Lib.cell_of_heap this];rfl
 have K:(Builtin.unsafeSliceData_ #[82] 145 #[.slice (some ⟨g,0,none⟩) l.length cap]).run prog w.drew=.ok (.pointer (some ⟨g,0,none⟩)) w.drew :=
  Lib.run_unsafeSliceData_row _ _ _ _ _ _ x3
 have L:(Builtin.unsafeString_ #[145,3] 9 #[.pointer (some ⟨g,0,none⟩),.int .i64 l.length]).run prog w.drew=.ok (.string ⟨l.toArray⟩) (w.drew.freeze ⟨g,0,none⟩ l.length):=by
  refine Lib.run_unsafeString_row w.drew 145 3 9 5 x5 extraW.cellsByte g c.size (by have A:w.drew.heap[g]?=some (.cells c 5 (0,0)):=F;simp[World.shape?,A]) l B x3 (by unfold maxLen at y;omega) ?_
  intro j x s;exact d.cells (g:=g) rfl j (.int .u8 x.toNat) (by simp[Lib.byteCells,s])
 have n:wO w0 (λ_:Unit=>.string ⟨l.toArray⟩) (λ_:Unit=>anyR) (λ_=>False) x S w (.returned (.string ⟨l.toArray⟩)) (w.drew.freeze ⟨g,0,none⟩ l.length):=by
  have o:∀k,k≠g->(w.drew.freeze ⟨g,0,none⟩ l.length).heap[k]?=w.heap[k]?:=λk q=>by
   unfold World.freeze;rw[if_neg i];simp only[Array.getElem?_modify];rw[if_neg λe=>q e.symm];rfl
  have bt:Below 0 w (w.drew.freeze ⟨g,0,none⟩ l.length):=Lib.below_freeze (Below.drew (l3 0 w)) (p:=⟨g,0,none⟩) (La _) _;exact .inl ⟨(),λ_=>False,rfl,⟨⟨bt.os.trans f.os,bt.tape.trans f.tape,bt.output.trans f.output,L9 f.size bt.size,λk q=>(o k λe=>Sx _ (Lb q (hS k (e▸m)).1)).trans (f.block k q)⟩,λk q M=>o k λe=>M (e▸m)⟩,s,λb h=>h.elim⟩
 have QR:prog.follows .mixedOrders=true:=x5;go_enter func36,ntmps36
 go_wp2
 go_region_o
 all_goals (go_wp2;go_ret;exact n)
def UK(b:UInt8): a8:=[.int .u8 (b.toNat:Int)]
theorem aU(b:UInt8): (UK b).length=1:=rfl
theorem nG(b:UInt8): ∀u,u∈UK b->u.oneCell'=true:=λu h=>by
 obtain rfl:=Re.1 h;rfl
def UL(s:u4)(k:Nat): UInt8:=s.data.toList.getD k 0
def AO(s:u4)(k:Nat): List UInt8:=(s.data.toList.take k).filter (· != 10)
def gN(s:u4): u4:=⟨(s.data.toList.filter (· != 10)).toArray⟩
theorem rL(s:u4)(k:Nat): (AO s k).length<=k:=L9 (T7 _ _) (by rw[Lk];exact Nat.min_le_left _ _)
theorem dY{s:u4}(h:k<s.size): AO s (k+1)=AO s k++if UL s k=10 then[]else[UL s k]:=by
 have a:k<s.data.toList.length:=y8 h;unfold AO UL;rw[List.take_add_one,m0 a,List.filter_append,ZP a];congr 1;by_cases e:s.data.toList[k]=10
 ·rw[if_pos e,e];rfl
 ·rw[if_neg e];simp at e;simp[e]
theorem xz{s:u4}{b:Bool}(h:(((byt s k:Nat):Int) != 10)=b): (UL s k=10)=(b=false):=by
 have e:byt s k=(UL s k).toNat:=rfl;rw[e]at h;subst h;apply propext;constructor
 ·intro h;rw[h];rfl
 ·intro h;have a:((UL s k).toNat:Int)=10:=y8 h;exact UInt8.toNat_inj.1 (show(UL s k).toNat=10 by omega)
theorem zF{s:u4}(h:decide ((k:Int)<(s.size:Int))=true)(a:(((byt s k:Nat):Int) != 10)=true): AO s k++[UL s k]=AO s (k+1):=by
 rw[dY (y6 (L1 h)),if_neg (by rw[xz a];decide)]
theorem zE{s:u4}(h:decide ((k:Int)<(s.size:Int))=true)(a:(((byt s k:Nat):Int) != 10)=false): AO s k=AO s (k+1):=by
 rw[dY (y6 (L1 h)),if_pos (by rw[xz a]),Tc]
theorem tB(l:List UInt8)(A:u5)(c:Nat)(W:y9): GC prog W [Qc 5 1 UK l A c] (Go.convert 82 9 (.slice A l.length c)) (.string ⟨l.toArray⟩) :=
 JX aU 0 λW d=>λh b=>by
  have i:=RdK.below (k:=1) (f:=λj=>UK (l.getD j 0)) (λ_=>rfl) d b;have m:Rd h A l.length (λj=>.int .u8 (((l.getD j 0).toNat:Nat):Int)):=λn=>by
   obtain⟨g,off,e,o⟩:=i n;refine⟨g,off,e,λj a=>?_⟩;have:=o j a 0 x4;simpa [UK]using this
  rw[Dk (P:=prog) 82 9 5 Tryz.underlying82 Tryz.underlying5 Tryz.underlying9 A l.length c (λj=>(l.getD j 0).toNat) m];congr 4;apply List.ext_getElem?;intro j;by_cases a:j<l.length
  ·rw[List.getElem?_map,List.getElem?_range a,m0 a];show some (UInt8.ofNat (l.getD j 0).toNat)=_;rw[ZP a];simp
  ·rw[m1 x7,m1 x3]
theorem Ev:RowT prog 82 82 5 1 1:=⟨x5,⟨5,x5⟩,x5,x4,x4⟩
abbrev HIa:Nat×Hp:=(0,(none,0))
theorem gE{s:u4}(e:s.size<=65536)(w:y9): RetAt prog w 11 #[Ψ s] (Ψ (gN s)) :=
 rk [.nil 2 99999 5 1 UK,P0 (λ(q1:Nat×Hp)=>(⟨23,[(0,sV s),(3,lV q1.2.1 ((AO s q1.1)).length q1.2.2),(4,iV (q1.1:Int))],[],[some (Qc 5 1 UK (AO s q1.1) q1.2.1 q1.2.2)]⟩:St)) s.size HIa (λ(q1:Nat×Hp)=>[.both [.o 5 2 (.set (.int .u8 ((byt s q1.1:Nat):Int))),.both [.o 6 3 (.set (.int .u8 ((byt s q1.1:Nat):Int))),.eff 6 5 0 (λ(a:Hp)=>Ω a.1 ((AO s q1.1)++[UL s q1.1]).length a.2) (λ(a:Hp)=>Qc 5 1 UK ((AO s q1.1)++[UL s q1.1]) a.1 a.2) (λ(a:Hp)=>[.o 4 1 (.eq (iV ((q1.1+1:Nat):Int))),.nxt [a]])] [.o 4 1 (.eq (iV ((q1.1+1:Nat):Int))),.nxt [q1.2]]] [.o 7 1 (.rd [0] (Ψ ⟨(AO s q1.1).toArray⟩))]])] λW f g=>Km (qS s) (qV (Ω HIa.2.1 ((AO s HIa.1)).length HIa.2.2)) (qI ((HIa.1:Nat):Int)) (Zo (Qc 5 1 UK ([]:List UInt8) none 0) (Qc 5 1 UK (AO s HIa.1) (HIa.2.1) (HIa.2.2)) λ_ _ _ h=>h)<|ai (show(0:Nat)<=s.size from La _) λ(q1:Nat×Hp) (i:(q1.1<=s.size))=>XA (decide ((q1.1:Int)<(s.size:Int))) (λb=>ai (CJ W s q1.1 (y6 (L1 b)))<|XA (((byt s q1.1:Nat):Int) != 10) (λd=>ai (CJ W s q1.1 (y6 (L1 b)))<|ai (Yj (w0:=W) (ty:=82) (c:=UK) (l:=(AO s q1.1)) (l2:=[UL s q1.1]) (l':=(AO s q1.1)++[UL s q1.1]) (A:=q1.2.1) (cp:=q1.2.2) (bt:=5) (m:=1) (cp2:=1) (cs:=[.int .u8 ((byt s q1.1:Nat):Int)]) Ev aU nG rfl (show((AO s q1.1)++[UL s q1.1]).length*1<=140737488355328 from by rw[Lq];have:=rL s q1.1;have:=L1 b;simp only[S8];omega) rfl rfl) λ(a:Hp)=>Kr (QQ q1.1 (y6 (L1 b))) (qS s) (show(Ω a.1 ((AO s q1.1)++[UL s q1.1]).length a.2:z0)=(Ω a.1 ((AO s (q1.1+1))).length a.2)from(by rw[<- zF b d])) (qI (((q1.1+1):Nat):Int)) (Zo (Qc 5 1 UK ((AO s q1.1)++[UL s q1.1]) a.1 a.2) (Qc 5 1 UK (AO s (q1.1+1)) a.1 a.2) λ_ _ _ h=>(by rw[<- zF b d];exact h))<|ai (show q1.1+1<=s.size from XD b) (show s.size-(q1.1+1)<s.size-q1.1 from y6 (L1 b))) λd=>Kr (QQ q1.1 (y6 (L1 b))) (qS s) (show(Ω q1.2.1 ((AO s q1.1)).length q1.2.2:z0)=(Ω q1.2.1 ((AO s (q1.1+1))).length q1.2.2)from(by rw[<- zE b d])) (qI (((q1.1+1):Nat):Int)) (Zo (Qc 5 1 UK (AO s q1.1) q1.2.1 q1.2.2) (Qc 5 1 UK (AO s (q1.1+1)) q1.2.1 q1.2.2) λ_ _ _ h=>(by rw[<- zE b d];exact h))<|ai (show q1.1+1<=s.size from XD b) (show s.size-(q1.1+1)<s.size-q1.1 from y6 (L1 b))) λb=>ai (tB (AO s q1.1) q1.2.1 q1.2.2 W)<|(show(Ψ ⟨(AO s q1.1).toArray⟩:z0)=Ψ (gN s)from by rw[show AO s q1.1=s.data.toList.filter (· != 10)from by unfold AO;rw[Rj (by have:=L7 b;simp;omega)]];rfl)
def Vy(l:u4): u4:=⟨(YL (l.data.toList.filter (· != 10))).toArray⟩
noncomputable def oS(s:u4): PV×Int×Int:=outP s.data.toList
noncomputable def oF(s l:u4): PV×Int×Int:=outP (Vy l++s).data.toList
noncomputable def oB(s l:u4): PV×Int×Int:=outP ((s++nlB)++Vy l).data.toList
noncomputable def oC(s:u4)(k:Nat)(m:u4): PV×Int×Int:=outP ((QN s k++nlB)++m).data.toList
theorem tD(x:PV): chkN x≠2:=by
 unfold chkN E7 KM TF;cases AD x<;>cases Kl x<;>cases (x.box.length:Int)==0<;>simp
 ·split
  ·decide
  ·split<;>decide
 ·cases sg (dN (ZS x.vars.toNat (Gx x.κ x.vars.toNat)))==0<;>decide
theorem BR(l:List UInt8): (∃z,Q5 (Ze l)=.error z/\outP l=(pv0,z,2)/\0<=z)\/∃p f,Q5 (Ze l)=.ok (p,f)/\(outP l).2.1=0/\(outP l).2.2≠2:=by
 cases e:Q5 (Ze l)with
 | error z=>exact .inl ⟨z,rfl,RS e,SB e⟩
 | ok q =>
  obtain⟨p,f⟩:=q;refine .inr ⟨p,f,rfl,?_⟩;cases a:p.2 with
  | true=>rw[sD e a];exact⟨rfl,x4⟩
  | false=>cases b:chkN p.1 != 0 with
   | true=>rw[sC e a b];exact⟨rfl,tD _⟩
   | false=>rw[sE e a b];exact⟨rfl,show(0:Int)≠2 by decide⟩
theorem kD{l l2:List UInt8}{p:PV×Bool}{f a:FD}(h:Q5 (Ze l)=.ok (p,f))(b:Q5 (Ze l2)=.ok (p,a)): outP l2=outP l:=by
 unfold outP;rw[h,b]
section
variable (s l:ByteArray)
theorem sj:∀c,c∈l.data.toList.filter (· != 10)->c≠10:=λc h=>by simpa using(Sd.1 h).2
theorem od:(Vy l).size=(YL (l.data.toList.filter (· != 10))).length:=rfl
theorem WK:(oF s l).1=(oS s).1/\(oF s l).2.2=(oS s).2.2/\((oS s).2.2=2->(oF s l).2.1=(oS s).2.1+(Vy l).size):=by
 unfold oF oS;have h:=WT (sj l) s.data.toList;rw[show(Vy l++s).data.toList=YL (l.data.toList.filter (· != 10))++s.data.toList from by rw[T6,T1];rfl,od];rcases BR s.data.toList with⟨z,a,b,_⟩|⟨p,f,a,b,c⟩
 ·rw[a]at h;rw[b,RS h];exact⟨rfl,rfl,λ_=>rfl⟩
 ·rw[a]at h;rw[kD a h];exact⟨rfl,rfl,λe=>absurd e c⟩
theorem Is:(oB s l).1=(oS s).1/\(oB s l).2.2=(oS s).2.2/\((oS s).2.2≠2->(oB s l).2.1=0)/\((oS s).2.2=2->(oS s).2.1<s.size->(oB s l).2.1=(oS s).2.1):=by
 unfold oB oS;have h:=SA (sj l) s.data.toList;rw[show((s++nlB)++Vy l).data.toList=s.data.toList++10::YL (l.data.toList.filter (· != 10))from by rw[T6,T6,T1,T1];simp[nlB,Vy]];rcases BR s.data.toList with⟨z,a,b,_⟩|⟨p,f,a,b,d⟩
 ·rw[a]at h;obtain⟨j,c,g⟩:=h;rw[b,RS c];exact⟨rfl,rfl,λe=>absurd rfl e,λ_ i=>g (y8 i)⟩
 ·rw[a]at h;obtain⟨G,c⟩:=h;rw[kD a c];exact⟨rfl,rfl,λ_=>b,λe=>absurd e d⟩
variable {s}
theorem Ot(h:(oS s).2.2=2): 0<=(oS s).2.1:=by
 unfold oS at h ⊢;rcases BR s.data.toList with⟨z,_,b,a⟩|⟨_,_,_,_,a⟩
 ·rw[b];exact a
 ·exact absurd h a
theorem Oq(m:u4)(h:(oS s).2.2=2)(f:k<=s.size)(b:(oS s).2.1<(k:Int))(g:k=s.size\/byt s k=10): (oC s k m).2.2=2/\(oC s k m).2.1=(oS s).2.1:=by
 unfold oC;unfold oS at h b ⊢;have c:k<=s.data.toList.length:=y8 f;rcases BR s.data.toList with⟨z,i,j,d⟩|⟨_,_,_,_,d⟩
 ·rw[j]at b ⊢;have l:((QN s k++nlB)++m).data.toList=s.data.toList.take k++10::m.data.toList:=by
   rw[T6,T6,T1,T1];simp[nlB,QN]
  rw[l,RS (kQ m.data.toList (List.take_append_drop k _).symm (g.imp (λe=>?_) λe=>?_) i (by rw[Lk,T4 c];exact b))]
  ·exact⟨rfl,rfl⟩
  ·exact List.drop_of_length_le (by simp[e])
  ·by_cases a:k<s.data.toList.length
   ·refine⟨s.data.toList.drop (k+1),?_⟩;rw[Tv a];congr 1;unfold byt at e;rw[ZP a]at e;exact UInt8.toNat_inj.1 e
   ·unfold byt at e;rw[List.getD_eq_getElem?_getD,m1 x3]at e;exact absurd e x4
 ·exact absurd h d
end
