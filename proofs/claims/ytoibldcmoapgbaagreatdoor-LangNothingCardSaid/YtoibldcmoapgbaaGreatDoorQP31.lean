/- Laws beneath the statement. -/
import Derived.Test.YtoibldcmoapgbaaGreatDoorQP30
namespace Go.Proofs.YtoibldcmoapgbaaGreatDoor
open Tryz
set_option maxRecDepth 100000
open Go Go.RowKit
set_option exponentiation.threshold 100000
variable{M:Res}{X:Value}
theorem uG{a b T:Nat}(h:a<256^b)(c:8*b<=T): a<2^T:=by
 refine Lb h ?_
 rw[show(256:Nat)=2^8 from rfl,<- Sn];exact Li x4 c
theorem TC(v f:Nat)(l:List Tm)(s:FD): VY v (f+1) l s=bif decide ((s.l.length:Int)>0)then bnd XP (λa=>bnd (JR 127 v []) λm=>VY v f (l++[⟨⟨m.toArray⟩,a⟩])) s else .ok (l,s):=rfl
theorem uC{l:List UInt8}(h:l.length<=4000): DB 32768 64768 (ZJ l).1:=by
 have key:∀l:List UInt8,l.length<=4000->XX l=none->(YT l).natAbs<2^32000:=λl h a=>by
  have b:Zq (YT l)<=4000:=em (l:=⟨l.toArray⟩) (n:=4000) a (show l.toArray.size<=4000 by rw[Sa];exact h);exact uG (D0 (YT l)) x3
 have c:(l.take (Xr l)).length<=4000:=by rw[Lk];omega
 have d:(l.drop (Xr l+1)).length<=4000:=by rw[Lf];omega
 unfold ZJ;cases f:XX (l.take (Xr l))with
 | some i=>exact AS _ _
 | none =>
  have a:=key _ c f;dsimp only;split
  ·exact F8 32000 a x3 x3
  ·cases g:XX (l.drop (Xr l+1))with
   | some i=>exact AS _ _
   | none =>
    have b:=key _ d g;dsimp only;split
    ·split
     ·have j:=V4 (F8 32000 (L:=0) (T:=32000) (e:=0) b x3 x3);exact F8 32000 a x3 x3
     ·exact AS _ _
    ·split
     ·exact F8 32000 a x3 x3
     ·exact AS _ _
theorem wy{s:χ}(h:vd s.l): (Qf s.l 0).s.size<=4000:=by
 obtain⟨_,_,ls,_,_,_,_,l,_,_⟩:=s;cases l with
 | nil=>exact La _
 | cons t l=>exact(h.2 t x6).2
theorem kn{s:χ}(h:s.In M): fN 0 (QS s):=⟨_,rfl,uC (by have:=wy h.f.l;simpa using this)⟩
structure PC where
 k:Int
 v:Int
 b:Value
 s:Value
 p:Value
 r:Value
 e:Nm
 d:Nm
 u:Int
 c:Value
def PC.l(x:PC)(m:Bool): a8:=[.int .i64 x.k,.int .i64 x.v,x.b,x.s,x.p,x.r,.bool x.e.b,.string x.e.s,.int .i64 x.e.e,.bool x.d.b,.string x.d.s,.int .i64 x.d.e,.int .i64 x.u,x.c,.bool m]
def eA(t:χ)(i:Nat): UInt8:=UInt8.ofNat (Xf (Qf (χ.nxs i t).l 0).s).toNat
def Ks(t:χ)(j:Nat): List UInt8:=(List.range j).map (eA t)
def χ.rnds(v:Nat): Nat->χ->χ
 | 0,s=>s
 | k+1,s=>χ.nxs v (χ.rnds v k s).nx
def tmA(v:Nat)(s:χ)(j:Nat): Tm:=⟨⟨(Ks (χ.rnds v j s).nx v).toArray⟩,QS (χ.rnds v j s)⟩
def Y0(v:Nat)(s:χ)(k:Nat): List Tm:=(List.range k).map (tmA v s)
def χ.trm(v:Nat)(s:χ): χ:=χ.rnds v (s.l.length / (v+1)) s
def gy(v:Nat)(s:χ): List Tm:=Y0 v s (s.l.length / (v+1))
def QI(v:Nat)(s:χ): Py:=(Xa v (gy v s)).1
def XG(v:Nat)(s:χ): Bool:=(Xa v (gy v s)).2 != 0
theorem χ.In.rnds{s:χ}(h:s.In M)(v:Nat): ∀k,(χ.rnds v k s).In M
 | 0=>h
 | k+1=>(h.rnds v k).nx.nxs v
theorem UT(t:χ)(j:Nat): Ks t j++[eA t j]=Ks t (j+1):=by simp[Ks,Td]
theorem IS(v:Nat)(s:χ)(k:Nat): (Y0 v s k).length=k:=by simp[Y0]
theorem Nv(v:Nat)(s:χ)(k:Nat): Y0 v s k++[tmA v s k]=Y0 v s (k+1):=by simp[Y0,Td]
theorem dR{v:Nat}{s:χ}(h:s.In M)(k:Nat): ∀t,t∈Y0 v s k->fT v 0 t:=λt a=>by
 obtain⟨j,_,rfl⟩:=Ri.1 a;refine⟨?_,kn (h.rnds v j)⟩;show(Ks _ v).toArray.size=v;simp[Ks]
theorem GF{m:Int}{s:χ}{a:Int}{t:FD}(h:QL m s.fd=.ok (a,t)): s.nx.l.length+1=s.l.length/\0<=Xf (Qf s.l 0).s/\Xf (Qf s.l 0).s<=m:=by
 obtain⟨_,_,ls,_,_,_,_,l,_,_⟩:=s;cases l with
 | nil=>cases h
 | cons x l =>
  refine⟨rfl,?_⟩;simp only[QL,bnd,XN,MZ,rtn,χ.fd]at h;cases e:F7 x.s with
  | false=>rw[e]at h;cases h
  | true =>
   cases b:decide (Xf x.s<=m)with
   | false=>rw[e,b]at h;cases h
   | true =>
    refine⟨?_,L1 b⟩;unfold F7 at e;have c:=(L6.1 (L6.1 e).1).1;obtain⟨k,_,d⟩:=F9 x.s.data.toList 0 (y8 c);show(0:Int)<=Xf x.s;unfold Xf;rw[show(0:Int)=((0:Nat):Int)from rfl,d];omega
theorem ko{s:χ}{a:Nm}{t:FD}(h:XP s.fd=.ok (a,t)): s.nx.l.length+1=s.l.length:=by
 obtain⟨_,_,ls,_,_,_,_,l,_,_⟩:=s;cases l with
 | nil=>cases h
 | cons x l=>rfl
theorem tH{v j:Nat}{R:Except Int (List UInt8×FD)}{t:χ}(h:j<v)(e:R=JR 127 (v-j) (Ks t j) (χ.nxs j t).fd)(a:QL 127 (χ.nxs j t).fd=.ok (Xf (Qf (χ.nxs j t).l 0).s,(χ.nxs j t).nx.fd)): R=JR 127 (v-(j+1)) (Ks t (j+1)) (χ.nxs (j+1) t).fd:=by
 rw[show v-j=(v-(j+1))+1 by omega]at e;rw[e,<- UT];exact Qv a
theorem tG{v j:Nat}{R:Except Int (List UInt8×FD)}{t:χ}{z:Int}(h:j<v)(e:R=JR 127 (v-j) (Ks t j) (χ.nxs j t).fd)(a:QL 127 (χ.nxs j t).fd=.error z): R=.error z:=by
 rw[show v-j=(v-(j+1))+1 by omega]at e;exact e.trans (Q3 a)
structure TmI (v:Nat) (s:χ) (k:Nat):Prop where
 e:VY v 70000 [] s.fd=VY v (70000-k) (Y0 v s k) (χ.rnds v k s).fd
 n:k*(v+1)+(χ.rnds v k s).l.length=s.l.length
section
variable {v k:Nat} {s:χ} (h:TmI v s k) (hl:s.l.length<=4000)
include h hl
theorem TmI.lt:k<=4000:=by
 have:=h.n;rw[Rl,Sm]at this;omega
theorem TmI.go(b:decide ((((χ.rnds v k s).l.length:Nat):Int)>0)=true): VY v 70000 [] s.fd=bnd XP (λa=>bnd (JR 127 v []) λm=>VY v (70000-(k+1)) (Y0 v s k++[⟨⟨m.toArray⟩,a⟩])) (χ.rnds v k s).fd:=by
 have c:=h.lt hl;rw[h.e,show 70000-k=(70000-(k+1))+1 by omega];rw[TC,show decide (((χ.rnds v k s).fd.l.length:Int)>0)=true from b];rfl
theorem TmI.step(c:decide ((((χ.rnds v k s).l.length:Nat):Int)>0)=true)(a:XP (χ.rnds v k s).fd=.ok (QS (χ.rnds v k s),(χ.rnds v k s).nx.fd)){j:Nat}(d:j=v)(b:JR 127 v [] (χ.rnds v k s).nx.fd=JR 127 (v-j) (Ks (χ.rnds v k s).nx j) (χ.nxs j (χ.rnds v k s).nx).fd)(e:j+(χ.nxs j (χ.rnds v k s).nx).l.length=(χ.rnds v k s).nx.l.length): TmI v s (k+1):=by
 subst d;rw[U1]at b;refine⟨?_,?_⟩
 ·rw[h.go hl c,<- Nv];exact(Qv a).trans (Qv b)
 ·have f:=h.n;have g:=ko a;show(k+1)*(j+1)+(χ.nxs j (χ.rnds j k s).nx).l.length=_;rw[Rm];omega
theorem TmI.num_e(a:decide ((((χ.rnds v k s).l.length:Nat):Int)>0)=true){z:Int}(b:XP (χ.rnds v k s).fd=.error z): Qz v s.fd=.error z :=
 Q3 (by rw[show(v:Int).toNat=v from rfl,h.go hl a];exact Q3 b)
theorem TmI.cnt_e(a:decide ((((χ.rnds v k s).l.length:Nat):Int)>0)=true)(b:XP (χ.rnds v k s).fd=.ok (QS (χ.rnds v k s),(χ.rnds v k s).nx.fd)){z:Int}(c:JR 127 v [] (χ.rnds v k s).nx.fd=.error z): Qz v s.fd=.error z :=
 Q3 (by rw[show(v:Int).toNat=v from rfl,h.go hl a];exact(Qv b).trans (Q3 c))
theorem TmI.fin(a:decide ((((χ.rnds v k s).l.length:Nat):Int)>0)=false): k=s.l.length / (v+1)/\Qz v s.fd=.ok ((QI v s,XG v s),(s.trm v).fd):=by
 have d:(χ.rnds v k s).l.length=0:=y6 (L7 a);have f:=h.lt hl;have b:k=s.l.length / (v+1):=by
  have c:=h.n;rw[d,Sw]at c;rw[<- c,Nat.mul_div_cancel _ (S6 v)]
 refine⟨b,?_⟩;have e:VY v 70000 [] s.fd=.ok (gy v s,(s.trm v).fd):=by
  rw[h.e,show 70000-k=(70000-(k+1))+1 by omega];rw[TC,show decide (((χ.rnds v k s).fd.l.length:Int)>0)=false from a];unfold gy χ.trm;rw[<- b];rfl
 exact Qv e
end
theorem mr{v k:Nat}{s:χ}(e:k=s.l.length / (v+1)){A:u5}{c:Nat}: Value.agg #[.int .i64 (Xa v (Y0 v s k)).1.vars,.slice A (Xa v (Y0 v s k)).1.ts.length c]=.agg #[.int .i64 (QI v s).vars,.slice A (QI v s).ts.length c]:=by subst e;rfl
theorem mu{v k g:Nat}{s:χ}(e:k=s.l.length / (v+1)){A:u5}{c:Nat}{x:PC}{m b:Bool}(a:b=(m||((Xa v (Y0 v s k)).2 != 0))){S:Nat->Prop}{w:y9}(h:(Qh g 69 (χ.cs (χ.rnds v k s) (PC.l x b)) (Qk M (Qc 56 4 QG (Xa v (Y0 v s k)).1.ts A c))).φ X S w): (Qh g 69 (χ.cs (s.trm v) (PC.l x (m||XG v s))) (Qk M (Qc 56 4 QG (QI v s).ts A c))).φ X S w:=by
 subst e;subst a;exact h
theorem mL{z:Int}(h:0<=z/\z<=127): IntKind.u8.wrap z=(((UInt8.ofNat z.toNat).toNat:Nat):Int):=by
 rw[UInt8.toNat_ofNat'];have:z.toNat % 2^8=z.toNat:=R8 x3;rw[this];have a:IntKind.u8.wrap z=z:=by
  unfold IntKind.wrap;simp[IntKind.bits,IntKind.signed];omega
 rw[a];omega
theorem rA:∃i z,prog.info? 5=some i/\i.zero=some z/\i.size=1/\i.bytes=1/\z=.int .u8 0:=by
 have a:(prog.info? 5).bind (λi=>i.zero.map λz=>(z,i.size,i.bytes))=some (.int .u8 0,1,1):=x5;cases b:prog.info? 5 with
 | none=>rw[b]at a;cases a
 | some i =>
  cases c:i.zero with
  | none=>rw[b,Su,c]at a;cases a
  | some z =>
   rw[b,Su,c,Tj]at a;have d:=hW a;exact⟨i,z,rfl,c,Ly (λx=>x.2.1) d,Ly (λx=>x.2.2) d,Ly (λx=>x.1) d⟩
theorem uO(a:y9){n:Nat}(b:n<=1000000): FU prog a [] (λy:Hp=>.slice y.1 n y.2) (λy:Hp=>E6 5 n (λ_=>0) y.1 y.2) (Instr.makeSlice 82 (.int .i64 (n:Int)) (.int .i64 (n:Int))):=by
 obtain⟨i,z,c,d,e,f,g⟩:=rA;exact uK x5 c d e f g b
def gI(t:χ)(j i:Nat): Nat:=if i<j then(eA t i).toNat else 0
theorem tC(t:χ)(v:Nat): (⟨(Ks t v).toArray⟩:u4)=⟨((List.range v).map λi=>UInt8.ofNat (gI t v i)).toArray⟩:=by
 congr 2;refine U5 λi a=>?_
 unfold gI;rw[if_pos (Lr.1 a),UInt8.ofNat_toNat]
abbrev HFa(v:Nat)(q1:Nat×Hp)(s:χ)(x:PC):a8:=[.slice (χ.rnds v q1.1 s).A0 (χ.rnds v q1.1 s).ls.length (χ.rnds v q1.1 s).c0,.slice (χ.rnds v q1.1 s).A (χ.rnds v q1.1 s).l.length (χ.rnds v q1.1 s).c,.int .i64 ((χ.rnds v q1.1 s).ne),.int .i64 ((χ.rnds v q1.1 s).en),.int .i64 x.k,.int .i64 x.v,x.b,x.s,x.p,x.r,.bool x.e.b,.string x.e.s,.int .i64 x.e.e,.bool x.d.b,.string x.d.s,.int .i64 x.d.e,.int .i64 x.u,x.c,.bool (((Xa v (Y0 v s q1.1)).2) != 0)]
abbrev HFb(q:Nat)(v:Nat)(q1:Nat×Hp)(s:χ):=(QL 127) (χ.nxs q (χ.rnds v q1.1 s).nx).fd=.ok ((Xf (Qf (χ.nxs q (χ.rnds v q1.1 s).nx).l 0).s),((χ.nxs q (χ.rnds v q1.1 s).nx).nx).fd)
abbrev HFc(v:Nat)(q1:Nat×Hp)(s:χ)(x:PC):a8:=[.slice (χ.rnds v q1.1 s).A0 (χ.rnds v q1.1 s).ls.length (χ.rnds v q1.1 s).c0,.slice (χ.rnds v q1.1 s).A (χ.rnds v q1.1 s).l.length (χ.rnds v q1.1 s).c,.int .i64 ((χ.rnds v q1.1 s).ne),.int .i64 ((χ.rnds v q1.1 s).en),.int .i64 x.k,.int .i64 x.v,x.b,x.s,x.p,x.r,.bool x.e.b,.string x.e.s,.int .i64 x.e.e,.bool x.d.b,.string x.d.s,.int .i64 x.d.e,.int .i64 x.u,x.c,.bool true]
abbrev HFd(v:Nat)(q1:Nat×Hp)(s:χ):=XP (χ.rnds v q1.1 s).fd=.ok ((QS (χ.rnds v q1.1 s)),((χ.rnds v q1.1 s).nx).fd)
abbrev HFe(g:Nat):z0:=.pointer (some ⟨g,0,none⟩)
abbrev HFf(q:Nat)(v:Nat)(q1:Nat×Hp)(s:χ):=q<=v/\JR 127 v [] (χ.rnds v q1.1 s).nx.fd=JR 127 (v-q) (Ks (χ.rnds v q1.1 s).nx q) (χ.nxs q (χ.rnds v q1.1 s).nx).fd/\q+(χ.nxs q (χ.rnds v q1.1 s).nx).l.length=(χ.rnds v q1.1 s).nx.l.length
abbrev HFg:Nat×Hp:=(0,(none,0))
abbrev HFh:=some (52,[iV 0,lV none 0 0])
abbrev HFi(v:Nat)(q1:Nat×Hp)(s:χ):=some (56,[sV ⟨#[]⟩,bV ((QS (χ.rnds v q1.1 s)).b),sV ((QS (χ.rnds v q1.1 s)).s),iV ((QS (χ.rnds v q1.1 s)).e)])
abbrev HFj(v:Nat)(s:χ)(q1:Nat×Hp):=Xa v (Y0 v s q1.1)
abbrev HFk(v:Nat)(s:χ):=((QI v s,XG v s),(s.trm v).fd)
abbrev HFl:=λ(G:Unit)=>undef
abbrev HFm(v:Nat)(q1:Nat×Hp)(s:χ)(x:PC)(m:Bool):=χ.cs (χ.rnds v q1.1 s) (PC.l x m)
abbrev HFn:=λ(G:Unit)=>([.join 14 1 0 3]:List Dir)
abbrev HFo(g:Nat):z0:=.pointer (some ⟨g,18,none⟩)
theorem Dq(M:Res)(g:Nat)(s:χ)(x:PC)(m:Bool)(v:Nat)(D:s.In M)(V:v<=200)(W:y9)(O:Q0 W): FxF prog W (Qh g 69 (χ.cs s (PC.l x m)) M) 75 #[x02 g,Θ (v:Int)] (λy:{y:Hp // (Qz v) s.fd=.ok ((QI v s,XG v s),(s.trm v).fd)}=>Value.agg #[Θ (QI v s).vars,Ω y.1.1 (QI v s).ts.length y.1.2]) (λy:{y:Hp // (Qz v) s.fd=.ok ((QI v s,XG v s),(s.trm v).fd)}=>Qh g 69 (χ.cs (s.trm v) (PC.l x (m||XG v s))) (Qk M (Qc 56 4 QG (QI v s).ts y.1.1 y.1.2))) (Xl (Qz v) s) :=
 Gb Qu QR (λa w=>call75 a w) func75 ntmps75 results75 _ rfl _ _ _ _ [.nil 1 0 56 4 QG,.lop (λ(q1:Nat×Hp)=>(⟨61,[(0,.val (HFe g)),(1,iV (v:Int)),(4,.ptr 0 0),(5,lV q1.2.1 (Y0 v s q1.1).length q1.2.2)],[none],[some (Qh g 69 (HFm v q1 s x m) M),none,some (Qc 56 4 QG (Y0 v s q1.1) q1.2.1 q1.2.2)]⟩:St)) (λ(q1:Nat×Hp)=>TmI v s q1.1) (λ(q1:Nat×Hp)=>(χ.rnds v q1.1 s).l.length) (HFg:Nat×Hp) (λ(q1:Nat×Hp) (u:List Hp)=>(q1.1+1,u.headD (none,0))) (λ(q1:Nat×Hp)=>[.o 2 2 (.set (HFe g)),.inl 2 3 f113,.o 1 2 (.set (.pointer (some ⟨g,1,none⟩))),.o 1 3 (.set (.pointer (some ⟨g,1,none⟩))),.o 1 4 (.rd [0] (Ω (χ.rnds v q1.1 s).A (χ.rnds v q1.1 s).l.length (χ.rnds v q1.1 s).c)),.both [.o 3 2 (.set (HFe g)),.fx 3 3 0 (λ(B:PLift (HFd v q1 s))=>nA (QS (χ.rnds v q1.1 s))) (λ(B:PLift (HFd v q1 s))=>Qh g 69 (χ.cs ((χ.rnds v q1.1 s).nx) (PC.l x m)) M) (Xl XP (χ.rnds v q1.1 s)) (λ(B:PLift (HFd v q1 s))=>[.mk 4 1 [] (λ(z:Hp)=>Ω z.1 v z.2) (λ(z:Hp)=>E6 5 v (λ_=>0) z.1 z.2) (λ(z:Hp)=>[.lop (λ(q:Nat)=>(⟨61,[(0,.val (HFe g)),(1,iV (v:Int)),(4,.ptr 0 0),(5,lV q1.2.1 (Y0 v s q1.1).length q1.2.2),(6,.ptr 1 0),(7,lV z.1 v z.2),(23,iV (v:Int)),(24,iV (q:Int))],[none,none],[some (Qh g 69 (χ.cs (χ.nxs q (χ.rnds v q1.1 s).nx) (PC.l x m)) M),none,none,some (E6 5 v (gI (χ.rnds v q1.1 s).nx q) z.1 z.2)]⟩:St)) (λ(q:Nat)=>(HFf q v q1 s)) (λ(q:Nat)=>(v-q)) (0:Nat) (λ(q:Nat) (u:List Hp)=>q+1) (λ(q:Nat)=>[.both [.o 8 4 (.set (HFe g)),.fx 8 5 0 (λ(C:PLift (HFb q v q1 s))=>Θ (Xf (Qf (χ.nxs q (χ.rnds v q1.1 s).nx).l 0).s)) (λ(C:PLift (HFb q v q1 s))=>Qh g 69 (χ.cs (χ.nxs (q+1) (χ.rnds v q1.1 s).nx) (PC.l x m)) M) (Xl (QL 127) (χ.nxs q (χ.rnds v q1.1 s).nx)) (λ(C:PLift (HFb q v q1 s))=>[.o 8 6 (.eq (.val (.int .u8 (((eA (χ.rnds v q1.1 s).nx q).toNat:Nat):Int)))),.o 8 7 (.rd [3] (.pointer (some (Xi z.1 (q*1+0))))),.eff 8 8 3 HFl (λ(G:Unit)=>E6 5 v (gI (χ.rnds v q1.1 s).nx (q+1)) z.1 z.2) (λ(G:Unit)=>[.o 9 0 (.eq (iV ((q+1:Nat):Int))),.nxt []])])] [.o 10 1 (.rd [3] (Ψ ⟨(Ks (χ.rnds v q1.1 s).nx v).toArray⟩)),.eff 11 3 2 (λ(C:Hp)=>Ω C.1 (Y0 v s (q1.1+1)).length C.2) (λ(C:Hp)=>Qc 56 4 QG (Y0 v s (q1.1+1)) C.1 C.2) (λ(C:Hp)=>[.nxt [C]])]])])])] [.mk 12 2 [2] (λ(B:Hp)=>Value.tuple #[.agg #[Θ ((HFj v s q1).1.vars),Ω B.1 (HFj v s q1).1.ts.length B.2],Θ ((HFj v s q1).2)]) (λ(B:Hp)=>Qc 56 4 QG (HFj v s q1).1.ts B.1 B.2) (λ(B:Hp)=>[.o 13 3 (.set (HFo g)),.o 13 4 (.rd [0] (Ξ m)),.gb 13 6 [.o 13 10 (.set (HFo g)),.eff 13 11 0 HFl (λ(G:Unit)=>Qh g 69 (HFa v q1 s x) M) HFn] [.o 13 10 (.set (HFo g)),.eff 13 11 0 HFl (λ(G:Unit)=>Qh g 69 (HFc v q1 s x) M) HFn]])]])] (λF=>DM (qV (HFe g)) (qI (v:Int)) (qV (Ω HFg.2.1 (Y0 v s HFg.1).length HFg.2.2)) (qk HFh) (Zo (Qh g 69 (χ.cs s (PC.l x m)) M) (Qh g 69 (χ.cs (χ.rnds v HFg.1 s) (PC.l x m)) M) λ_ _ _ h=>h) (Yu F) (Zo (Qc 56 4 QG ([]:List Tm) none 0) (Qc 56 4 QG (Y0 v s HFg.1) (HFg.2.1) (HFg.2.2)) λ_ _ _ h=>h)<|ai (show TmI v s 0 from⟨rfl,by rw[Uh,Lj];rfl⟩) λ(q1:Nat×Hp) (E:TmI v s q1.1)=>Gz (Qm W g 0) func113 (λa w=>call113 a w) (XM W g 0) (Yh W g 1) (QU (w0:=W) (g:=g) (t:=69) (cs:=(HFm v q1 s x m)) (M:=M) (λJ K=>YP J 1 K rfl))<|XA (decide ((((χ.rnds v q1.1 s).l.length:Nat):Int)>0)) (λH=>X7 (Qm W g 0) (D9 g M (χ.rnds v q1.1 s) (PC.l x m) (D.rnds v q1.1) W O)<|ai (λ(B:PLift (HFd v q1 s))=>ai (uO W (n:=v) x3) λ(z:Hp)=>Zb (qV (HFe g)) (qI (v:Int)) (qV (Ω q1.2.1 (Y0 v s q1.1).length q1.2.2)) (qV (Ω z.1 v z.2)) (qI (v:Int)) (qI ((0:Nat):Int)) (qk HFh) (qk (HFi v q1 s))<|Km (Zo (Qh g 69 (χ.cs ((χ.rnds v q1.1 s).nx) (PC.l x m)) M) (Qh g 69 (χ.cs (χ.nxs 0 (χ.rnds v q1.1 s).nx) (PC.l x m)) M) λ_ _ _ h=>h) (Yu F) (Yu (Qc 56 4 QG (Y0 v s q1.1) q1.2.1 q1.2.2)) (Zo (E6 5 v (λ_=>0) z.1 z.2) (E6 5 v (gI (χ.rnds v q1.1 s).nx 0) z.1 z.2) λ_ _ _ h=>h)<|ai (show(0<=v/\JR 127 v [] (χ.rnds v q1.1 s).nx.fd=JR 127 (v-0) (Ks (χ.rnds v q1.1 s).nx 0) (χ.nxs 0 (χ.rnds v q1.1 s).nx).fd/\0+(χ.nxs 0 (χ.rnds v q1.1 s).nx).l.length=(χ.rnds v q1.1 s).nx.l.length)from⟨La _,rfl,Lj _⟩) λ(q:Nat) (I:(HFf q v q1 s))=>XA (decide ((q:Int)<(v:Int))) (λhl=>X7 (Qm W g 0) (Fq (PC.l x m) g M (χ.nxs q (χ.rnds v q1.1 s).nx) ((D.rnds v q1.1).nx.nxs q) 127 W)<|ai (λ(C:PLift (HFb q v q1 s))=>X7 (show IntKind.u8.wrap (Xf (Qf (χ.nxs q (χ.rnds v q1.1 s).nx).l 0).s)=(((eA (χ.rnds v q1.1 s).nx q).toNat:Nat):Int)from mL (GF C.down).2) (ji (P:=prog) (w0:=W) (e:=5) (m:=1) (n:=v) (L:=LP.known λi=>[.int .u8 ((gI (χ.rnds v q1.1 s).nx q i:Nat):Int)]) (A:=z.1) (cp:=z.2) (λJ f X S Y=>(show Qn prog J (Instr.indexAt 82 (Ω z.1 v z.2) (Θ (q:Int))) (.pointer (some (Xi z.1 (q*1+0))))from JM 1 (Qu 82 _ rfl) rfl x4 S (QM hl))))<|ai (λ(J:y9) (_:Below W.heap.size W J)=>nH prog 5 5 v q ((eA (χ.rnds v q1.1 s).nx q).toNat) (gI (χ.rnds v q1.1 s).nx q) (gI (χ.rnds v q1.1 s).nx (q+1)) z.1 z.2 (Qu 5 _ rfl) rfl (QM hl) (λj _=>by unfold gI;by_cases e:j=q<;>simp[e];by_cases T:j<q<;>simp[T]<;>omega) J) λ(G:Unit)=>Zb (QQ q (y6 (QM hl))) (qV (HFe g)) (qI (v:Int)) (qV (Ω q1.2.1 (Y0 v s q1.1).length q1.2.2)) (qV (Ω z.1 v z.2)) (qI (v:Int)) (qI (((q+1):Nat):Int)) (qk HFh)<|Kr (qk (HFi v q1 s)) (Yu (Qh g 69 (χ.cs (χ.nxs (q+1) (χ.rnds v q1.1 s).nx) (PC.l x m)) M)) (Yu F) (Yu (Qc 56 4 QG (Y0 v s q1.1) q1.2.1 q1.2.2)) (Yu (E6 5 v (gI (χ.rnds v q1.1 s).nx (q+1)) z.1 z.2))<|ai (show((q+1)<=v/\JR 127 v [] (χ.rnds v q1.1 s).nx.fd=JR 127 (v-(q+1)) (Ks (χ.rnds v q1.1 s).nx (q+1)) (χ.nxs (q+1) (χ.rnds v q1.1 s).nx).fd/\(q+1)+(χ.nxs (q+1) (χ.rnds v q1.1 s).nx).l.length=(χ.rnds v q1.1 s).nx.l.length)from⟨QM hl,tH (QM hl) I.2.1 C.down,by have U:=(GF C.down).1;have Q:=I.2.2;show q+1+(χ.nxs q (χ.rnds v q1.1 s).nx).nx.l.length=_;omega⟩) (show v-(q+1)<v-q from y6 (QM hl))) (X9 F (Xl (QL 127) (χ.nxs q (χ.rnds v q1.1 s).nx)) (Xl (Qz v) s) λ_ h=>h.imp λ_ h=>⟨E.cnt_e D.f.l.1 H B.down (tG (QM hl) I.2.1 h.1),h.2⟩)) λhl=>ai (by rw[(show q=v from Rb I.1 (K8 hl))];exact nI prog W 82 9 5 5 z.1 v z.2 (gI (χ.rnds v q1.1 s).nx v) x5 x5 x5 (tC (χ.rnds v q1.1 s).nx v):GC prog W [E6 5 v (gI (χ.rnds v q1.1 s).nx q) z.1 z.2] (Go.convert 82 9 (Ω z.1 v z.2)) (Ψ ⟨(Ks (χ.rnds v q1.1 s).nx v).toArray⟩))<|ai (Yj (w0:=W) (ty:=50) (c:=QG) (l:=Y0 v s q1.1) (l2:=[tmA v s q1.1]) (l':=Y0 v s (q1.1+1)) (A:=q1.2.1) (cp:=q1.2.2) (bt:=56) (m:=1) (cp2:=1) (cs:=[Ψ ⟨(Ks (χ.rnds v q1.1 s).nx v).toArray⟩,Ξ ((QS (χ.rnds v q1.1 s)).b),Ψ ((QS (χ.rnds v q1.1 s)).s),Θ ((QS (χ.rnds v q1.1 s)).e)]) Xy QW Kk (Nv v s q1.1) (show(Y0 v s (q1.1+1)).length*48<=140737488355328 from by rw[IS];have:=E.lt D.f.l.1;omega) rfl rfl) λ(C:Hp)=>DM (qV (HFe g)) (qI (v:Int)) (qV (Ω C.1 (Y0 v s (q1.1+1)).length C.2)) (qk HFh) (Zo (Qh g 69 (χ.cs (χ.nxs q (χ.rnds v q1.1 s).nx) (PC.l x m)) M) (Qh g 69 (χ.cs (χ.rnds v (q1.1+1) s) (PC.l x m)) M) λ_ _ _ h=>(by have e:q=v:=Rb I.1 (K8 hl);rw[e]at h;exact h)) (Yu F) (Zo (Qc 56 4 QG (Y0 v s (q1.1+1)) C.1 C.2) (Qc 56 4 QG (Y0 v s (q1.1+1)) C.1 C.2) λ_ _ _ h=>h)<|ai (show TmI v s (q1.1+1)from E.step D.f.l.1 H B.down (Rb I.1 (K8 hl)) I.2.1 I.2.2) (show(χ.rnds v (q1.1+1) s).l.length<(χ.rnds v q1.1 s).l.length from by have U:=E.n;have Q:=(E.step D.f.l.1 H B.down (Rb I.1 (K8 hl)) I.2.1 I.2.2).n;rw[Rm]at Q;omega)) (X9 F (Xl XP (χ.rnds v q1.1 s)) (Xl (Qz v) s) λ_ h=>h.imp λ_ h=>⟨E.num_e D.f.l.1 H h.1,h.2⟩)) λH=>ai (uH v v q1.2.1 q1.2.2 (Y0 v s q1.1) (by rw[IS];exact E.lt D.f.l.1) x3 (dR D q1.1) W O) λ(B:Hp)=>X7 (Jg W g 0) (QU (w0:=W) (g:=g) (t:=69) (cs:=(HFm v q1 s x m)) (M:=M) (λJ K=>bP J 18 K rfl))<|ZG m false (λN=>ai (Jg W g 0)<|ai (Yy W prog g 69 (HFm v q1 s x m) M 4 ([Ξ (((HFj v s q1).2) != 0)]) 18 (Ξ (((HFj v s q1).2) != 0)) (Qu 4 _ rfl) rfl rfl (L3 rfl) (Lc.1 (rfl:([Ξ (((HFj v s q1).2) != 0)]:a8).all (λu=>u.oneCell')=true))) λ(G:Unit)=>(Zs (F:=F) (v:=.agg #[Θ ((HFj v s q1).1.vars),Ω B.1 (HFj v s q1).1.ts.length B.2]) (val:=λy:{y:Hp // (Qz v) s.fd=.ok (HFk v s)}=>Value.agg #[Θ (QI v s).vars,Ω y.1.1 (QI v s).ts.length y.1.2]) (R1:=Qk (Qh g 69 (HFa v q1 s x) M) (Qc 56 4 QG (HFj v s q1).1.ts B.1 B.2)) (R:=λy:{y:Hp // (Qz v) s.fd=.ok (HFk v s)}=>Qh g 69 (χ.cs (s.trm v) (PC.l x (m||XG v s))) (Qk M (Qc 56 4 QG (QI v s).ts y.1.1 y.1.2))) ⟨B,(E.fin D.f.l.1 H).2⟩ (mr (E.fin D.f.l.1 H).1) λ_ _ _ h=>mu (m:=m) (E.fin D.f.l.1 H).1 (by rw[N]<;>rfl) (KL BV h))) λN=>ai (Jg W g 0)<|ai (Yy W prog g 69 (HFm v q1 s x m) M 4 ([Ξ true]) 18 (Ξ true) (Qu 4 _ rfl) rfl rfl (L3 rfl) (Lc.1 (rfl:([Ξ true]:a8).all (λu=>u.oneCell')=true))) λ(G:Unit)=>(Zs (F:=F) (v:=.agg #[Θ ((HFj v s q1).1.vars),Ω B.1 (HFj v s q1).1.ts.length B.2]) (val:=λy:{y:Hp // (Qz v) s.fd=.ok (HFk v s)}=>Value.agg #[Θ (QI v s).vars,Ω y.1.1 (QI v s).ts.length y.1.2]) (R1:=Qk (Qh g 69 (HFc v q1 s x) M) (Qc 56 4 QG (HFj v s q1).1.ts B.1 B.2)) (R:=λy:{y:Hp // (Qz v) s.fd=.ok (HFk v s)}=>Qh g 69 (χ.cs (s.trm v) (PC.l x (m||XG v s))) (Qk M (Qc 56 4 QG (QI v s).ts y.1.1 y.1.2))) ⟨B,(E.fin D.f.l.1 H).2⟩ (mr (E.fin D.f.l.1 H).1) λ_ _ _ h=>mu (m:=m) (E.fin D.f.l.1 H).1 (by rw[N]<;>rfl) (KL BV h))) λF=>x5
theorem B4(x:Tk): (V2 x).length=2:=rfl
theorem OV(x:Tk)(u:z0)(h:u∈V2 x): u.oneCell'=true:=by
 simp only[V2,Ll,Rf,or_false]at h;rcases h with rfl|rfl<;>rfl
def YJ:Option Nat->Int
 | none=>-1
 | some i=>(i:Int)
section
variable {l:List UInt8} {a:Int} {p:Nat}
theorem Dt:∀ {p i:Nat},(Qd l a p).2=some i->i<p
 | 0,_,h=>nomatch h
 | p+1,i,h=>by
  have b:(KX l a p (Qd l a p)).2=some i:=h;unfold KX at b;cases e:Jk (l.getD p 0)with
  | true =>
   rw[e]at b;unfold B8 at b;cases c:(Qd l a p).2 with
   | none=>rw[cond_true,c]at b;rw[c]at b;cases b
   | some j=>rw[cond_true,c]at b;cases b
  | false =>
   rw[e,cond_false]at b;cases c:(Qd l a p).2 with
   | none=>rw[c]at b;have d:=hW b;omega
   | some j=>rw[c]at b;rw[c]at b;have d:=hW b;have:=Dt c;omega
theorem my(h:Jk (l.getD p 0)=true): Qd l a (p+1)=B8 l a p (Qd l a p):=by
 show KX l a p (Qd l a p)=_;unfold KX;rw[h,cond_true]
theorem mw(h:Jk (l.getD p 0)=false)(e:(Qd l a p).2=none): Qd l a (p+1)=((Qd l a p).1,some p):=by
 show KX l a p (Qd l a p)=_;unfold KX;rw[h,cond_false,e]
theorem ax{i:Nat}(h:Jk (l.getD p 0)=false)(e:(Qd l a p).2=some i): Qd l a (p+1)=Qd l a p:=by
 show KX l a p (Qd l a p)=_;unfold KX;rw[h,cond_false,e]
theorem gv(h:Jk (l.getD p 0)=false): ∃i,(Qd l a (p+1)).2=some i:=by
 cases e:(Qd l a p).2 with
 | none=>rw[mw h e];exact⟨_,rfl⟩
 | some i=>rw[ax h e];exact⟨_,e⟩
theorem EG:∀ {w:Nat},1<=w->(∀j,j<w->Jk (l.getD (p+j) 0)=false)->Qd l a (p+w)=Qd l a (p+1)
 | 1,_,_=>rfl
 | w+2,_,h=>by
  have b:=EG (w:=w+1) x3 λj d=>h j x3
  obtain⟨i,c⟩:=gv (a:=a) (h 0 x3);rw[<- b,show p+(w+2)=(p+(w+1))+1 by omega];exact ax (i:=i) (h (w+1) x3) (by rw[b];exact c)
theorem Bi:∀p,(Qd l a p).1.length<=p
 | 0=>L8 _
 | p+1=>by
  have h:=Bi p;show(KX l a p (Qd l a p)).1.length<=p+1;unfold KX B8;cases Jk (l.getD p 0)<;>cases e:(Qd l a p).2<;>simp only[cond_true,cond_false]<;>(try rw[Lq,S8])<;>omega
theorem SR{o:Option Nat}(h:decide (YJ o>=0)=false): o=none:=by
 cases o with
 | none=>rfl
 | some i=>have:=L7 h;exact absurd (Int.natCast_nonneg i) this
theorem υ{o:Option Nat}(h:decide (YJ o>=0)=true): ∃i,o=some i/\YJ o=(i:Int):=by
 cases o with
 | none=>exact absurd (L1 h) x4
 | some i=>exact⟨i,rfl,rfl⟩
theorem PI(h:decide (YJ (Qd l a p).2>=0)=true): B8 l a p (Qd l a p)=((Qd l a p).1++[⟨sub l (YJ (Qd l a p).2).toNat p,a+YJ (Qd l a p).2⟩],none):=by
 obtain⟨i,e,b⟩:=υ h;unfold B8;rw[e];rfl
theorem PH(h:decide (YJ (Qd l a p).2>=0)=false): B8 l a p (Qd l a p)=Qd l a p:=by
 unfold B8;rw[SR h]
end
theorem Xq{s:u4}{p:Nat}(h:p<s.size)(a:(((Utf8.decode s p).1:Nat):Int)=32\/(((Utf8.decode s p).1:Nat):Int)=9): Jk (s.data.toList.getD p 0)=true/\(Utf8.decode s p).2=1:=by
 rcases Lx (s.data.toList.getD p 0).toNat 128 with b|b
 ·have e:=bf h b;rw[e]at a ⊢;refine⟨?_,rfl⟩;unfold Jk;rcases a with a|a
  ·have c:(((s.data.toList.getD p 0).toNat:Nat):Int)=32:=a;rw[show s.data.toList.getD p 0=32 from UInt8.toNat_inj.1 (show(s.data.toList.getD p 0).toNat=32 by omega)];rfl
  ·have c:(((s.data.toList.getD p 0).toNat:Nat):Int)=9:=a;rw[show s.data.toList.getD p 0=9 from UInt8.toNat_inj.1 (show(s.data.toList.getD p 0).toNat=9 by omega)];rfl
 ·have:=(Px h b).1;omega
theorem gY{c:UInt8}(h:128<=c.toNat): Jk c=false:=by
 unfold Jk;rw[Bool.or_eq_false_iff];exact⟨R7.2 λe=>by rw[e]at h;exact absurd h x4,R7.2 λe=>by rw[e]at h;exact absurd h x4⟩
theorem Yd{s:u4}{p:Nat}(h:p<s.size)(c:¬(((Utf8.decode s p).1:Nat):Int)=32)(d:¬(((Utf8.decode s p).1:Nat):Int)=9): 1<=(Utf8.decode s p).2/\p+(Utf8.decode s p).2<=s.size/\∀j,j<(Utf8.decode s p).2->Jk (s.data.toList.getD (p+j) 0)=false:=by
 rcases Lx (s.data.toList.getD p 0).toNat 128 with a|a
 ·have e:=bf h a;rw[e]at c d ⊢;refine⟨L8 _,h,λj b=>?_⟩;have:j=0:=by have f:j<1:=b;omega
  subst this;unfold Jk;rw[Bool.or_eq_false_iff];exact⟨R7.2 λe=>c (by rw[Sw]at e;rw[e];rfl),R7.2 λe=>d (by rw[Sw]at e;rw[e];rfl)⟩
 ·obtain⟨_,f,g,i⟩:=Px h a;exact⟨f,g,λj b=>gY (i j b)⟩
theorem OS(s:u4)(o:Option Nat)(p:Nat)(h:decide (YJ o>=0)=true)(a:∀i,o=some i->i<=p)(c:p<=s.size)(W:y9): Qn prog W (Instr.sliceAt 9 (.string s) (some (.int .i64 (YJ o))) (some (.int .i64 (p:Int))) none) (.string (sub s.data.toList (YJ o).toNat p)):=λd _=>by
 obtain⟨i,e,b⟩:=υ h;have f:=a i e;rw[b,run_sliceAt_string (h:=Tryz.underlying9),run_slice_string (h:=Tryz.underlying9) (h0:=x3) (h1:=x3) (h2:=x3)];congr 2;apply ByteArray.ext;rw[ByteArray.data_extract];unfold sub;apply Array.ext';simp;rw[List.drop_take]
section
variable {l:List UInt8} {a:Int} {p w:Nat}
theorem wz(c:1<=w)(h:∀j,j<w->Jk (l.getD (p+j) 0)=false)(b:decide (YJ (Qd l a p).2<0)=true): Qd l a (p+w)=((Qd l a p).1,some p):=by
 rw[EG c h];refine mw (h 0 x3) ?_
 cases e:(Qd l a p).2 with
 | none=>rfl
 | some i=>rw[e]at b;have d:(i:Int)<0:=L1 b;omega
theorem wA(c:1<=w)(h:∀j,j<w->Jk (l.getD (p+j) 0)=false)(b:decide (YJ (Qd l a p).2<0)=false): Qd l a (p+w)=Qd l a p:=by
 rw[EG c h];cases e:(Qd l a p).2 with
 | none=>rw[e]at b;exact absurd (show(-1:Int)<0 by decide) (L7 b)
 | some i=>exact ax (h 0 x3) e
theorem gt(b:Jk (l.getD p 0)=true/\w=1)(h:decide (YJ (Qd l a p).2>=0)=true): Qd l a (p+w)=((Qd l a p).1++[⟨sub l (YJ (Qd l a p).2).toNat p,a+YJ (Qd l a p).2⟩],none):=by
 rw[b.2,my b.1,PI h]
theorem gu(b:Jk (l.getD p 0)=true/\w=1)(h:decide (YJ (Qd l a p).2>=0)=false): Qd l a (p+w)=((Qd l a p).1,none):=by
 rw[b.2,my b.1,PH h,<- SR h]
variable {x:List Tk×Option Nat} (E:Qd l a p=x)
include E
theorem ED{t:Nat}{A:u5}{c:Nat}{S:Nat->Prop}{w:y9}(h:(Qc t 2 V2 x.1 A c).φ X S w): (Qc t 2 V2 (Qd l a p).1 A c).φ X S w:=by rw[E];exact h
theorem EE{A:u5}{c:Nat}: Value.slice A x.1.length c=Value.slice A (Qd l a p).1.length c:=by rw[E]
theorem Nu:YJ x.2=YJ (Qd l a p).2:=by rw[E]
end
theorem ar{s:u4}{a:Int}{p:Nat}(h:decide (YJ (Qd s.data.toList a p).2>=0)=true): 0<=YJ (Qd s.data.toList a p).2/\YJ (Qd s.data.toList a p).2<p:=by
 obtain⟨i,e,b⟩:=υ h;have:=Dt e;omega
theorem dP{s:u4}{a:Int}{p:Nat}(b:p=s.size)(h:decide (YJ (Qd s.data.toList a p).2>=0)=true): (Qd s.data.toList a p).1++[⟨sub s.data.toList (YJ (Qd s.data.toList a p).2).toNat s.size,a+YJ (Qd s.data.toList a p).2⟩]=Y5 s.data.toList a:=by
 subst b;unfold Y5;rw[show s.data.toList.length=s.size by simp,PI h]
theorem dO{s:u4}{a:Int}{p:Nat}(b:p=s.size)(h:decide (YJ (Qd s.data.toList a p).2>=0)=false): (Qd s.data.toList a p).1=Y5 s.data.toList a:=by
 subst b;unfold Y5;rw[show s.data.toList.length=s.size by simp,PH h]
theorem YW:RowT prog 63 63 102 2 24:=⟨x5,⟨102,x5⟩,x5,x4,x4⟩
abbrev HFp(s:u4)(a:Int)(q1:Nat×Hp):=Qd s.data.toList a q1.1
abbrev HFq(s:u4)(a:Int)(q1:Nat×Hp):=sub s.data.toList (YJ (HFp s a q1).2).toNat q1.1
abbrev HFr(q1:Nat×Hp)(s:u4):=(q1.1+(Utf8.decode s q1.1).2,q1.2)
noncomputable def HFs(s:u4)(a:Int)(q1:Nat×Hp):List Dir:=[.inl 8 2 f70,.both [.reg 10 [],.o 1 4 (.set (.string (HFq s a q1))),.o 1 7 (.eq (iV (a+YJ (HFp s a q1).2))),.eff 1 10 0 (λ(d:Hp)=>Value.slice d.1 ((HFp s a q1).1++[(⟨(HFq s a q1),a+YJ (HFp s a q1).2⟩:Tk)]).length d.2) (λ(d:Hp)=>Qc 102 2 V2 ((HFp s a q1).1++[(⟨(HFq s a q1),a+YJ (HFp s a q1).2⟩:Tk)]) d.1 d.2) (λ(d:Hp)=>[.nxt [d]])] [.nxt [q1.2]]]
abbrev HFt(s:u4)(a:Int)(q1:Nat×Hp):=sub s.data.toList (YJ (HFp s a q1).2).toNat s.size
abbrev HFu:Nat×Hp:=(0,(none,0))
abbrev HFv(j:Nat):z0:=.pointer (some ⟨j,0,none⟩)
abbrev HFw(s:u4)(q1:Nat×Hp):=Utf8.decode s q1.1
abbrev HFx(s:u4)(a:Int)(q1:Nat×Hp):=(Qd s.data.toList a ((HFr q1 s).1)).1
abbrev HFy(j:Nat)(s:u4)(q1:Nat×Hp):=H7 j s (q1.1+(HFw s q1).2)
abbrev HFz:=λa w=>call70 a w
theorem mv{s:u4}{a:Int}(C:s.size<=65536)(D:0<=a/\a<=1000000)(w:y9): NewIn prog w [] 38 #[Ψ s,Θ a] (λy:Hp=>Ω y.1 (Y5 s.data.toList a).length y.2) (λy:Hp=>Qc 102 2 V2 (Y5 s.data.toList a) y.1 y.2) :=
 let t:OB:=some (9,[sV s]);let Z1:OB:=some (3,[iV a]);El Hp Qu QR (λa w=>call38 a w) func38 ntmps38 results38 _ rfl 0 _ _ [.nil 0 2 102 2 V2,.mk 4 1 [] (λ(j:Nat)=>x02 j) (λ(j:Nat)=>H7 j s 0) (λ(j:Nat)=>[.lop (λ(q1:Nat×Hp)=>(⟨36,[(2,.ptr 0 0),(3,.ptr 1 0),(5,.ptr 2 0),(6,.ptr 3 0),(7,.clo (.func 70) [] [.ptr 3 0,.ptr 2 0,.ptr 0 0,.ptr 1 0]),(12,.val (HFv j))],[none,none,some (63,[lV q1.2.1 ((HFp s a q1).1).length q1.2.2]),some (3,[iV (YJ (HFp s a q1).2)])],[some (Qc 102 2 V2 ((HFp s a q1).1) q1.2.1 q1.2.2),some (H7 j s q1.1)]⟩:St)) (λ(q1:Nat×Hp)=>(q1.1<=s.size)) (λ(q1:Nat×Hp)=>(s.size-q1.1)) (HFu:Nat×Hp) (λ(q1:Nat×Hp) (u:List Hp)=>(q1.1+(HFw s q1).2,u.headD (none,0))) (λ(q1:Nat×Hp)=>[.cas 5 0 (decide (q1.1<s.size)) [.eff 5 0 1 (λ(v:Unit)=>Value.tuple #[Ξ true,Θ (q1.1:Int),.int .i32 (((HFw s q1).1:Nat):Int)]) (λ(v:Unit)=>H7 j s (q1.1+(HFw s q1).2)) (λ(v:Unit)=>[.gb 7 3 [.both (HFs s a q1) [.both [.nxt [q1.2]] [.nxt [q1.2]]]] (HFs s a q1)])] [.eff 5 0 1 (λ(v:Unit)=>Value.tuple #[Ξ false]) (λ(v:Unit)=>H7 j s q1.1) (λ(v:Unit)=>[.inl 11 3 f70,.both [.reg 10 [],.o 1 4 (.set (Ψ (HFt s a q1))),.o 1 7 (.eq (iV (a+YJ (HFp s a q1).2))),.eff 1 10 0 (λ(d:Hp)=>Ω d.1 ((HFp s a q1).1++[(⟨(HFt s a q1),a+YJ (HFp s a q1).2⟩:Tk)]).length d.2) (λ(d:Hp)=>Qc 102 2 V2 ((HFp s a q1).1++[(⟨(HFt s a q1),a+YJ (HFp s a q1).2⟩:Tk)]) d.1 d.2) (λ(d:Hp)=>[])] []])]])])] (λW E=>ai (yv (P:=prog) (w0:=W) (s:=s) Tryz.underlying9) λ(j:Nat)=>Zb (Rq (.func 70:Fn)) (qV (HFv j)) (qk t) (qk Z1) (qV (Ω HFu.2.1 ((Qd s.data.toList a (HFu.1)).1).length HFu.2.2)) (qI (YJ (Qd s.data.toList a (HFu.1)).2)) (Zo (Qc 102 2 V2 ([]:List Tk) none 0) (Qc 102 2 V2 ((Qd s.data.toList a (HFu.1)).1) (HFu.2.1) (HFu.2.2)) λ_ _ _ h=>h) (Zo (H7 j s 0) (H7 j s HFu.1) λ_ _ _ h=>h)<|ai (show(0:Nat)<=s.size from La _) λ(q1:Nat×Hp) (z:(q1.1<=s.size))=>XA (decide (q1.1<s.size)) (λf=>ai (oD (P:=prog) (w0:=W) (s:=s) (g:=j) (p:=q1.1) 0 (L1 f)) λ(v:Unit)=>ZG ((((Utf8.decode s q1.1).1:Nat):Int)==32) false (λb=>XA ((((Utf8.decode s q1.1).1:Nat):Int)==9) (λk=>X7 func70 HFz<|XA (decide ((YJ (Qd s.data.toList a q1.1).2)>=0)) (λn=>X7 (OS s ((HFp s a q1).2) q1.1 n (λi e=>L9 (Sf (Dt e)) (L8 _)) z W) (show IntKind.i64.wrap (a+YJ (Qd s.data.toList a q1.1).2)=a+YJ (Qd s.data.toList a q1.1).2 from Lg _ (y6 (ar n)))<|ai (Yj (w0:=W) (ty:=63) (c:=V2) (l:=(HFp s a q1).1) (l2:=[(⟨(HFq s a q1),a+YJ (HFp s a q1).2⟩:Tk)]) (l':=(HFp s a q1).1++[(⟨(HFq s a q1),a+YJ (HFp s a q1).2⟩:Tk)]) (A:=q1.2.1) (cp:=q1.2.2) (bt:=102) (m:=1) (cp2:=1) (cs:=[Ψ (HFq s a q1),Θ (a+YJ (HFp s a q1).2)]) YW B4 OV rfl (show((Qd s.data.toList a q1.1).1++[(⟨(sub s.data.toList (YJ (Qd s.data.toList a q1.1).2).toNat q1.1),a+YJ (Qd s.data.toList a q1.1).2⟩:Tk)]).length*24<=140737488355328 from by rw[Lq];have:=Bi (l:=s.data.toList) (a:=a) q1.1;simp only[S8];omega) rfl rfl) λ(d:Hp)=>Zb (Rq (.func 70:Fn)) (qV (HFv j)) (qk t) (qk Z1) (show(Ω d.1 ((Qd s.data.toList a q1.1).1++[(⟨(sub s.data.toList (YJ (Qd s.data.toList a q1.1).2).toNat q1.1),a+YJ (Qd s.data.toList a q1.1).2⟩:Tk)]).length d.2:z0)=(Ω (q1.1+(Utf8.decode s q1.1).2,d).2.1 ((Qd s.data.toList a ((q1.1+(Utf8.decode s q1.1).2,d).1)).1).length (q1.1+(Utf8.decode s q1.1).2,d).2.2)from(EE (gt (Xq (L1 f) (.inr (y8 k))) n))) (show((-1):Int)=(YJ (Qd s.data.toList a ((q1.1+(Utf8.decode s q1.1).2,d).1)).2)from(Nu (gt (Xq (L1 f) (.inr (y8 k))) n))) (Zo (Qc 102 2 V2 ((HFp s a q1).1++[(⟨(HFq s a q1),a+YJ (HFp s a q1).2⟩:Tk)]) d.1 d.2) (Qc 102 2 V2 ((Qd s.data.toList a ((q1.1+(HFw s q1).2,d).1)).1) ((q1.1+(HFw s q1).2,d).2.1) ((q1.1+(HFw s q1).2,d).2.2)) λ_ _ _ h=>(ED (gt (Xq (L1 f) (.inr (y8 k))) n) h)) (Zo (HFy j s q1) (H7 j s (q1.1+(HFw s q1).2,d).1) λ_ _ _ h=>h)<|ai (show q1.1+(Utf8.decode s q1.1).2<=s.size from by have q:=(Xq (L1 f) (.inr (y8 k))).2;have r:=L1 f;omega) (show s.size-(q1.1+(Utf8.decode s q1.1).2)<s.size-q1.1 from by have q:=(Xq (L1 f) (.inr (y8 k))).2;have r:=L1 f;omega)) λn=>Zb (Rq (.func 70:Fn)) (qV (HFv j)) (qk t) (qk Z1) (show(Ω q1.2.1 ((Qd s.data.toList a q1.1).1).length q1.2.2:z0)=(Ω (q1.1+(Utf8.decode s q1.1).2,q1.2).2.1 ((Qd s.data.toList a ((q1.1+(Utf8.decode s q1.1).2,q1.2).1)).1).length (q1.1+(Utf8.decode s q1.1).2,q1.2).2.2)from(EE (gu (Xq (L1 f) (.inr (y8 k))) n))) (show((-1):Int)=(YJ (Qd s.data.toList a ((q1.1+(Utf8.decode s q1.1).2,q1.2).1)).2)from(Nu (gu (Xq (L1 f) (.inr (y8 k))) n))) (Zo (Qc 102 2 V2 ((HFp s a q1).1) q1.2.1 q1.2.2) (Qc 102 2 V2 (HFx s a q1) ((HFr q1 s).2.1) ((HFr q1 s).2.2)) λ_ _ _ h=>(ED (gu (Xq (L1 f) (.inr (y8 k))) n) h)) (Zo (HFy j s q1) (H7 j s (HFr q1 s).1) λ_ _ _ h=>h)<|ai (show q1.1+(Utf8.decode s q1.1).2<=s.size from by have q:=(Xq (L1 f) (.inr (y8 k))).2;have r:=L1 f;omega) (show s.size-(q1.1+(Utf8.decode s q1.1).2)<s.size-q1.1 from by have q:=(Xq (L1 f) (.inr (y8 k))).2;have r:=L1 f;omega)) λk=>XA (decide ((YJ (Qd s.data.toList a q1.1).2)<0)) (λB=>Zb (Rq (.func 70:Fn)) (qV (HFv j)) (qk t) (qk Z1) (show(Ω q1.2.1 ((Qd s.data.toList a q1.1).1).length q1.2.2:z0)=(Ω (q1.1+(Utf8.decode s q1.1).2,q1.2).2.1 ((Qd s.data.toList a ((q1.1+(Utf8.decode s q1.1).2,q1.2).1)).1).length (q1.1+(Utf8.decode s q1.1).2,q1.2).2.2)from(EE (wz (Yd (L1 f) (y8 b) (y8 k)).1 (Yd (L1 f) (y8 b) (y8 k)).2.2 B))) (show((q1.1:Int):Int)=(YJ (Qd s.data.toList a ((q1.1+(Utf8.decode s q1.1).2,q1.2).1)).2)from(Nu (wz (Yd (L1 f) (y8 b) (y8 k)).1 (Yd (L1 f) (y8 b) (y8 k)).2.2 B))) (Zo (Qc 102 2 V2 ((HFp s a q1).1) q1.2.1 q1.2.2) (Qc 102 2 V2 (HFx s a q1) ((HFr q1 s).2.1) ((HFr q1 s).2.2)) λ_ _ _ h=>(ED (wz (Yd (L1 f) (y8 b) (y8 k)).1 (Yd (L1 f) (y8 b) (y8 k)).2.2 B) h)) (Zo (HFy j s q1) (H7 j s (HFr q1 s).1) λ_ _ _ h=>h)<|ai (show q1.1+(Utf8.decode s q1.1).2<=s.size from(Yd (L1 f) (y8 b) (y8 k)).2.1) (show s.size-(q1.1+(Utf8.decode s q1.1).2)<s.size-q1.1 from by have q:=(Yd (L1 f) (y8 b) (y8 k)).1;have r:=L1 f;omega)) λB=>Zb (Rq (.func 70:Fn)) (qV (HFv j)) (qk t) (qk Z1) (show(Ω q1.2.1 ((Qd s.data.toList a q1.1).1).length q1.2.2:z0)=(Ω (q1.1+(Utf8.decode s q1.1).2,q1.2).2.1 ((Qd s.data.toList a ((q1.1+(Utf8.decode s q1.1).2,q1.2).1)).1).length (q1.1+(Utf8.decode s q1.1).2,q1.2).2.2)from(EE (wA (Yd (L1 f) (y8 b) (y8 k)).1 (Yd (L1 f) (y8 b) (y8 k)).2.2 B))) (show((YJ (Qd s.data.toList a q1.1).2):Int)=(YJ (Qd s.data.toList a ((q1.1+(Utf8.decode s q1.1).2,q1.2).1)).2)from(Nu (wA (Yd (L1 f) (y8 b) (y8 k)).1 (Yd (L1 f) (y8 b) (y8 k)).2.2 B))) (Zo (Qc 102 2 V2 ((HFp s a q1).1) q1.2.1 q1.2.2) (Qc 102 2 V2 (HFx s a q1) ((HFr q1 s).2.1) ((HFr q1 s).2.2)) λ_ _ _ h=>(ED (wA (Yd (L1 f) (y8 b) (y8 k)).1 (Yd (L1 f) (y8 b) (y8 k)).2.2 B) h)) (Zo (HFy j s q1) (H7 j s (HFr q1 s).1) λ_ _ _ h=>h)<|ai (show q1.1+(Utf8.decode s q1.1).2<=s.size from(Yd (L1 f) (y8 b) (y8 k)).2.1) (show s.size-(q1.1+(Utf8.decode s q1.1).2)<s.size-q1.1 from by have q:=(Yd (L1 f) (y8 b) (y8 k)).1;have r:=L1 f;omega)) λb=>X7 func70 HFz<|XA (decide ((YJ (Qd s.data.toList a q1.1).2)>=0)) (λn=>X7 (OS s ((HFp s a q1).2) q1.1 n (λi e=>L9 (Sf (Dt e)) (L8 _)) z W) (show IntKind.i64.wrap (a+YJ (Qd s.data.toList a q1.1).2)=a+YJ (Qd s.data.toList a q1.1).2 from Lg _ (y6 (ar n)))<|ai (Yj (w0:=W) (ty:=63) (c:=V2) (l:=(HFp s a q1).1) (l2:=[(⟨(HFq s a q1),a+YJ (HFp s a q1).2⟩:Tk)]) (l':=(HFp s a q1).1++[(⟨(HFq s a q1),a+YJ (HFp s a q1).2⟩:Tk)]) (A:=q1.2.1) (cp:=q1.2.2) (bt:=102) (m:=1) (cp2:=1) (cs:=[Ψ (HFq s a q1),Θ (a+YJ (HFp s a q1).2)]) YW B4 OV rfl (show((Qd s.data.toList a q1.1).1++[(⟨(sub s.data.toList (YJ (Qd s.data.toList a q1.1).2).toNat q1.1),a+YJ (Qd s.data.toList a q1.1).2⟩:Tk)]).length*24<=140737488355328 from by rw[Lq];have:=Bi (l:=s.data.toList) (a:=a) q1.1;simp only[S8];omega) rfl rfl) λ(d:Hp)=>Zb (Rq (.func 70:Fn)) (qV (HFv j)) (qk t) (qk Z1) (show(Ω d.1 ((Qd s.data.toList a q1.1).1++[(⟨(sub s.data.toList (YJ (Qd s.data.toList a q1.1).2).toNat q1.1),a+YJ (Qd s.data.toList a q1.1).2⟩:Tk)]).length d.2:z0)=(Ω (q1.1+(Utf8.decode s q1.1).2,d).2.1 ((Qd s.data.toList a ((q1.1+(Utf8.decode s q1.1).2,d).1)).1).length (q1.1+(Utf8.decode s q1.1).2,d).2.2)from(EE (gt (Xq (L1 f) (.inl (y8 b))) n))) (show((-1):Int)=(YJ (Qd s.data.toList a ((q1.1+(Utf8.decode s q1.1).2,d).1)).2)from(Nu (gt (Xq (L1 f) (.inl (y8 b))) n))) (Zo (Qc 102 2 V2 ((HFp s a q1).1++[(⟨(HFq s a q1),a+YJ (HFp s a q1).2⟩:Tk)]) d.1 d.2) (Qc 102 2 V2 ((Qd s.data.toList a ((q1.1+(HFw s q1).2,d).1)).1) ((q1.1+(HFw s q1).2,d).2.1) ((q1.1+(HFw s q1).2,d).2.2)) λ_ _ _ h=>(ED (gt (Xq (L1 f) (.inl (y8 b))) n) h)) (Zo (HFy j s q1) (H7 j s (q1.1+(HFw s q1).2,d).1) λ_ _ _ h=>h)<|ai (show q1.1+(Utf8.decode s q1.1).2<=s.size from by have q:=(Xq (L1 f) (.inl (y8 b))).2;have r:=L1 f;omega) (show s.size-(q1.1+(Utf8.decode s q1.1).2)<s.size-q1.1 from by have q:=(Xq (L1 f) (.inl (y8 b))).2;have r:=L1 f;omega)) λn=>Zb (Rq (.func 70:Fn)) (qV (HFv j)) (qk t) (qk Z1) (show(Ω q1.2.1 ((Qd s.data.toList a q1.1).1).length q1.2.2:z0)=(Ω (q1.1+(Utf8.decode s q1.1).2,q1.2).2.1 ((Qd s.data.toList a ((q1.1+(Utf8.decode s q1.1).2,q1.2).1)).1).length (q1.1+(Utf8.decode s q1.1).2,q1.2).2.2)from(EE (gu (Xq (L1 f) (.inl (y8 b))) n))) (show((-1):Int)=(YJ (Qd s.data.toList a ((q1.1+(Utf8.decode s q1.1).2,q1.2).1)).2)from(Nu (gu (Xq (L1 f) (.inl (y8 b))) n))) (Zo (Qc 102 2 V2 ((HFp s a q1).1) q1.2.1 q1.2.2) (Qc 102 2 V2 (HFx s a q1) ((HFr q1 s).2.1) ((HFr q1 s).2.2)) λ_ _ _ h=>(ED (gu (Xq (L1 f) (.inl (y8 b))) n) h)) (Zo (HFy j s q1) (H7 j s (HFr q1 s).1) λ_ _ _ h=>h)<|ai (show q1.1+(Utf8.decode s q1.1).2<=s.size from by have q:=(Xq (L1 f) (.inl (y8 b))).2;have r:=L1 f;omega) (show s.size-(q1.1+(Utf8.decode s q1.1).2)<s.size-q1.1 from by have q:=(Xq (L1 f) (.inl (y8 b))).2;have r:=L1 f;omega)) λf=>ai (uv (P:=prog) (w0:=W) (s:=s) (g:=j) (p:=q1.1) 0 (L7 f)) λ(v:Unit)=>X7 func70 HFz<|XA (decide ((YJ (Qd s.data.toList a q1.1).2)>=0)) (λn=>X7 (OS s ((HFp s a q1).2) s.size n (λi e=>L9 (Sf (Dt e)) z) (L8 _) W) (show IntKind.i64.wrap (a+YJ (Qd s.data.toList a q1.1).2)=a+YJ (Qd s.data.toList a q1.1).2 from Lg _ (y6 (ar n)))<|ai (Yj (w0:=W) (ty:=63) (c:=V2) (l:=(HFp s a q1).1) (l2:=[(⟨(HFt s a q1),a+YJ (HFp s a q1).2⟩:Tk)]) (l':=(HFp s a q1).1++[(⟨(HFt s a q1),a+YJ (HFp s a q1).2⟩:Tk)]) (A:=q1.2.1) (cp:=q1.2.2) (bt:=102) (m:=1) (cp2:=1) (cs:=[Ψ (HFt s a q1),Θ (a+YJ (HFp s a q1).2)]) YW B4 OV rfl (show((Qd s.data.toList a q1.1).1++[(⟨(sub s.data.toList (YJ (Qd s.data.toList a q1.1).2).toNat s.size),a+YJ (Qd s.data.toList a q1.1).2⟩:Tk)]).length*24<=140737488355328 from by rw[Lq];have:=Bi (l:=s.data.toList) (a:=a) q1.1;simp only[S8];omega) rfl rfl) λ(d:Hp)=>(show ∃y:Hp,SV.val (Ω d.1 ((Qd s.data.toList a q1.1).1++[(⟨(sub s.data.toList (YJ (Qd s.data.toList a q1.1).2).toNat s.size),a+YJ (Qd s.data.toList a q1.1).2⟩:Tk)]).length d.2)=SV.val ((λy:Hp=>Ω y.1 (Y5 s.data.toList a).length y.2) y)/\∀(x:z0) (S:Nat->Prop) (w:y9),(Qc 102 2 V2 ((Qd s.data.toList a q1.1).1++[(⟨(sub s.data.toList (YJ (Qd s.data.toList a q1.1).2).toNat s.size),a+YJ (Qd s.data.toList a q1.1).2⟩:Tk)]) d.1 d.2).φ x S w->((λy:Hp=>Qc 102 2 V2 (Y5 s.data.toList a) y.1 y.2) y).φ x S w from⟨d,by rw[<- (dP (show q1.1=s.size from Rb z (Nat.not_lt.1 (L7 f))) n)],λx S w h=>by rw[<- (dP (show q1.1=s.size from Rb z (Nat.not_lt.1 (L7 f))) n)];exact h⟩)) λn=>(show ∃y:Hp,SV.val (Ω q1.2.1 ((Qd s.data.toList a q1.1).1).length q1.2.2)=SV.val ((λy:Hp=>Ω y.1 (Y5 s.data.toList a).length y.2) y)/\∀(x:z0) (S:Nat->Prop) (w:y9),(Qc 102 2 V2 ((Qd s.data.toList a q1.1).1) q1.2.1 q1.2.2).φ x S w->((λy:Hp=>Qc 102 2 V2 (Y5 s.data.toList a) y.1 y.2) y).φ x S w from⟨q1.2,by rw[<- (dO (show q1.1=s.size from Rb z (Nat.not_lt.1 (L7 f))) n)],λx S w h=>by rw[<- (dO (show q1.1=s.size from Rb z (Nat.not_lt.1 (L7 f))) n)];exact h⟩)) λW=>x5
theorem SX{l:List UInt8}{i p:Nat}(b:i<p)(a:p<=l.length): (sub l i p).size=p-i:=by
 show((l.take p).drop i).toArray.size=_;rw[Sa,Lf,Lk,T4 a]
theorem TD(l:List UInt8)(a:Int): ∀p,p<=l.length->∀t,t∈(Qd l a p).1->0<t.s.size/\t.s.size<=l.length
 | 0,_,t,f=>nomatch f
 | p+1,h,t,f=>by
  have d:=TD l a p x3;have b:t∈(KX l a p (Qd l a p)).1:=f;unfold KX at b;cases e:Jk (l.getD p 0)with
  | true =>
   rw[e,cond_true]at b;unfold B8 at b;cases c:(Qd l a p).2 with
   | none=>rw[c]at b;exact d t b
   | some i =>
    rw[c]at b;rcases Rs.1 (show t∈(Qd l a p).1++_ from b)with g|g
    ·exact d t g
    ·rw[Re.1 g];have j:=Dt c;show 0<(sub l i p).size/\(sub l i p).size<=_;rw[SX j x3];omega
  | false =>
   rw[e,cond_false]at b;cases c:(Qd l a p).2 with
   | none=>rw[c]at b;exact d t b
   | some i=>rw[c]at b;exact d t b
theorem toks_ok{l:List UInt8}{a:Int}: (Y5 l a).length<=l.length+1/\∀t,t∈Y5 l a->0<t.s.size/\t.s.size<=l.length:=by
 have g:=Bi (l:=l) (a:=a) l.length;have c:=TD l a l.length (L8 _);unfold Y5 B8;cases d:(Qd l a l.length).2 with
 | none=>exact⟨by show(Qd l a l.length).1.length<=_;omega,c⟩
 | some i =>
  refine⟨?_,λt e=>?_⟩
  ·show((Qd l a l.length).1++_).length<=_;rw[Lq,S8];omega
  ·rcases Rs.1 (show t∈(Qd l a l.length).1++_ from e)with b|b
   ·exact c t b
   ·rw[Re.1 b];have f:=Dt d;show 0<(sub l i l.length).size/\(sub l i l.length).size<=_;rw[SX f (L8 _)];omega
theorem CF:∀(s:List UInt8),(Qg s).length<=s.length+1/\∀l,l∈Qg s->l.length<=s.length
 | []=>⟨L8 _,λl h=>by rw[Re.1 h];exact La _⟩
 | c::r=>by
  obtain⟨b,a⟩:=CF r;unfold Qg;cases c==10 with
  | true =>
   refine⟨?_,λl h=>?_⟩
   ·show(Qg r).length+1<=r.length+1+1;omega
   ·rcases Ll.1 h with rfl|h
    ·exact La _
    ·exact L9 (a l h) (Nat.le_succ _)
  | false =>
   show(match Qg r with | []=>[[c]] | l::m=>(c::l)::m).length<=_/\∀l,l∈(match Qg r with | []=>[[c]] | l::m=>(c::l)::m)->_;cases e:Qg r with
   | nil=>exact⟨x6,λl h=>by rw[Re.1 h];simp⟩
   | cons x m =>
    rw[e]at b a;refine⟨?_,λl h=>?_⟩
    ·simp only[Rc]at b ⊢;omega
    ·rcases Ll.1 h with rfl|h
     ·have:=a x x6;simp only[Rc];omega
     ·have:=a l (by simp[h]);simp only[Rc];omega
theorem Id{n:Nat}: ∀(ls:List (List UInt8)) (a:Int),(∀l,l∈ls->l.length<=n)->(Qj ls a).length<=ls.length/\∀x,x∈Qj ls a->(x.l.length<=n+1/\∀t,t∈x.l->0<t.s.size/\t.s.size<=n)/\x.l≠[]
 | [],_,_=>⟨L8 _,λ_ h=>nomatch h⟩
 | l::r,a,h=>by
  have hl:=h l x6;obtain⟨c,d⟩:=Id r (a+(l.length:Int)+1) λx b=>h x (by simp[b])
  unfold Qj;cases e:Kb (Y5 l a)with
  | false=>exact⟨L9 c (Nat.le_succ _),d⟩
  | true =>
   refine⟨Si c,λx b=>?_⟩;rcases Ll.1 b with rfl|b
   ·obtain⟨i,f⟩:=toks_ok (l:=l) (a:=a);refine⟨⟨L9 i (Si hl),λt g=>⟨(f t g).1,L9 (f t g).2 hl⟩⟩,λj=>?_⟩;have k:Y5 l a=[]:=j;rw[k]at e;cases e
   ·exact d x b
theorem oe{s:List UInt8}(h:s.length<=3999): okF (Ze s):=by
 obtain⟨g,c⟩:=CF s;obtain⟨i,d⟩:=Id (Qg s) 0 c;refine⟨⟨La _,λt a=>nomatch a⟩,by show(Qj (Qg s) 0).length<=4001;omega,λx e=>?_⟩;obtain⟨⟨j,b⟩,f⟩:=d x e;exact⟨⟨x3,λt a=>⟨(b t a).1,L9 (b t a).2 x3⟩⟩,f⟩
theorem IL(c:UInt8)(r:List UInt8): Qg (c::r)=bif c==10 then[]::Qg r else match Qg r with | []=>[[c]] | l::m=>(c::l)::m:=rfl
theorem Nq:∀ {s:List UInt8} {i:Nat},(∀j:Nat,j<i->s[j]?≠some 10)->s[i]?=some 10->Qg s=s.take i::Qg (s.drop (i+1))
 | [],i,_,h=>by cases i<;>cases h
 | c::r,0,_,h=>by
  have e:c=10:=hW h;subst e;rfl
 | c::r,i+1,a,h=>by
  have b:(c==10)=false:=R7.2 λe=>a 0 (S6 _) (by rw[e];rfl)
  have d:=Nq (s:=r) (i:=i) (λj f=>a (j+1) (Uo f)) h;rw[IL,b,d];rfl
theorem IM:∀ {s:List UInt8},(∀j:Nat,s[j]?≠some 10)->Qg s=[s]
 | [],_=>rfl
 | c::r,h=>by
  have a:(c==10)=false:=R7.2 λe=>h 0 (by rw[e];rfl)
  have b:=IM (s:=r) λj=>h (j+1)
  rw[IL,a,b];rfl
theorem bJ:∀(s:List UInt8) (c:UInt8),(Lib.indexByte s c=-1/\∀j:Nat,s[j]?≠some c)\/∃i:Nat,Lib.indexByte s c=(i:Int)/\(∀j,j<i->s[j]?≠some c)/\s[i]?=some c
 | [],_=>.inl ⟨rfl,λj h=>by cases j<;>cases h⟩
 | b::l,c=>by
  unfold Lib.indexByte;by_cases e:(b==c)=true
  ·rw[if_pos e];exact .inr ⟨0,rfl,λj f=>absurd f (R6 _),by rw[Tr e];rfl⟩
  ·rw[if_neg e];have g:b≠c:=λh=>e (by rw[h];exact beq_self_eq_true c)
   rcases bJ l c with⟨a,d⟩|⟨i,a,d,k⟩
   ·rw[a];refine .inl ⟨rfl,λj h=>?_⟩;cases j with
    | zero=>exact g (hW h)
    | succ j=>exact d j h
   ·rw[a,if_neg (by rw[Sv];omega)];refine .inr ⟨i+1,x3,λj f h=>?_,k⟩;cases j with
    | zero=>exact g (hW h)
    | succ j=>exact d j x3 h
