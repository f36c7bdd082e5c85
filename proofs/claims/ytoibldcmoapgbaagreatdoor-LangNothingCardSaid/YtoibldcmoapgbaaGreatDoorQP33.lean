/- Laws beneath the statement. -/
import Derived.Test.YtoibldcmoapgbaaGreatDoorQP32
namespace Go.Proofs.YtoibldcmoapgbaaGreatDoor
open Tryz
set_option maxRecDepth 100000
open Go Go.RowKit
variable{r X:Value}{w:World}
def kT(_:Unit): a8:=[undef,undef]
def PC.P(k v:Int)(b s p r:z0): PC:=⟨k,v,b,s,p,r,nm0,nm0,0,.slice none 0 0⟩
def RZ(δ vars:Int): Pz (PV×Bool):=bnd (J7 δ vars) λd=>bnd (K7 vars (Q2 δ vars).toNat [] false) λp=>bnd (YC δ vars 70000 [] p.2) λr=>GU δ ⟨δ,vars,d.1,d.2,p.1,r.1,nm0,nm0,0,[]⟩ r.2
section
variable {s t u:χ} {k v z:Int} (h:Qq X0 s.fd=.ok (k,t.fd))
theorem vn(h:Qq X0 s.fd=.error z): Q5 s.fd=.error z:=Q3 h
include h
theorem vo(h2:QL 99 t.fd=.error z): Q5 s.fd=.error z:=(Qv h).trans (Q3 (Q3 h2))
variable (h2:QL 99 t.fd=.ok (v,u.fd))
include h2
theorem vq(b:decide (v>0)=false): Q5 s.fd=.error (Qf t.l 0).a:=(Qv h).trans (Q3 ((Qv h2).trans (Q3 (Co b))))
theorem vt(a:decide (v>0)=true): Q5 s.fd=RZ k v u.fd:=(Qv h).trans (Qv ((Qv h2).trans (Qv (Cp a))))
end
structure Z1 where
 δ:Int
 v:Nat
 t:χ
structure Z1.Ok (z:Z1) (s:χ) (M:Res):Prop where
 k:Q5 s.fd=RZ z.δ z.v z.t.fd
 i:z.t.In M
 v1:1<=z.v
 v2:z.v<=99
theorem zN{s t u:χ}{M:Res}{k v:Int}(h:Qq X0 s.fd=.ok (k,t.fd))(h2:QL 99 t.fd=.ok (v,u.fd))(h0:0<=v/\v<=99)(a:decide (v>0)=true)(i:u.In M): Z1.Ok ⟨k,v.toNat,u⟩ s M:=by
 have b:=L1 a;refine⟨?_,i,(by show 1<=v.toNat;omega),(by show v.toNat<=99;omega)⟩;show Q5 s.fd=RZ k (v.toNat:Int) u.fd;rw[U2 h0.1];exact vt h h2 a
theorem qd{g t:Nat}{u:χ}{M:Res}{k v:Int}{b s p:z0}{m:Bool}(h0:0<=v){S:Nat->Prop}(h:(Qh g t (χ.cs u (PC.l (PC.P k v b s p r) m)) M).φ X S w): (Qh g t (χ.cs u (PC.l (PC.P k (v.toNat:Int) b s p r) m)) M).φ X S w:=by
 rw[U2 h0];exact h
theorem pZ(k v:Int)(W:y9): RetAt prog W 42 #[.int .i64 k,.int .i64 v] (.int .i64 (((Q2 k v).toNat:Nat):Int)):=by
 rw[U2 (by unfold Q2;split<;>(try split)<;>(try split)<;>omega)]
 exact c9 k v W
def χ.pls(v:Nat): Nat->χ->χ
 | 0,s=>s
 | k+1,s=>χ.trm v (χ.nx (χ.ln (χ.pls v k s)))
def CR(v:Nat)(s:χ)(j:Nat): Py:=QI v (χ.nx (χ.ln (χ.pls v j s)))
def KV(v:Nat)(s:χ)(k:Nat): List Py:=(List.range k).map (CR v s)
def ZH(v:Nat)(s:χ)(m:Bool): Nat->Bool
 | 0=>m
 | k+1=>ZH v s m k||XG v (χ.nx (χ.ln (χ.pls v k s)))
def ZX(v:Nat)(s:χ): LP:=wQ 56 4 QG (λi=>[.int .i64 (CR v s i).vars]) (λi=>(CR v s i).ts)
theorem RW(v:Nat)(s:χ)(k:Nat): KV v s k++[CR v s k]=KV v s (k+1):=by simp[KV,Td]
theorem BU(v:Nat)(s:χ)(k:Nat): (KV v s k).length=k:=by simp[KV]
theorem sy_pls{v k:Nat}{s:χ}{A:u5}{c:Nat}: Sy (Qt 52 2 k (ZX v s) A c) λw=>SlV 0 2 (gK 0) w (KV v s k) (.slice A (KV v s k).length c):=λ_ _ w h=>by
 rw[BU];exact UG QW DL (BU v s k).symm h (λ_ _=>La _) λj d a b=>by
  have e:(KV v s k)[j]=CR v s j:=by simp only[KV,List.getElem_map,Tq]
  rw[e];exact⟨a,rfl,b⟩
structure PlI (N v:Nat) (s:χ) (M:Res) (k:Nat):Prop where
 e:K7 v N [] false s.fd=K7 v (N-k) (KV v s k) (ZH v s false k) (χ.pls v k s).fd
 i:(χ.pls v k s).In M
 le:k<=N
 b:v<=99
 o:∀j,j<k->okP (CR v s j)
theorem kL{v k:Nat}{s:χ}{M:Res}(b:v<=99)(i:(χ.nx (χ.ln (χ.pls v k s))).In M)(h:∀j,j<k->okP (CR v s j)): ∀j,j<k+1->okP (CR v s j):=λj a=>by
 rcases Nat.lt_or_eq_of_le (Tt a)with a|rfl
 ·exact h j a
 ·exact dU i (L9 b x4)
theorem kK{v k:Nat}{s:χ}(h:∀j,j<k->okP (CR v s j)): ∀p,p∈KV v s k->okP p:=λp a=>by
 obtain⟨j,b,rfl⟩:=Ri.1 a;exact h j (Lr.1 b)
section
variable {N v k:Nat} {s:χ} {M:Res} (h:PlI N v s M k) (hk:k<N)
include h hk
theorem PlI.go:K7 v N [] false s.fd=bnd (Qq [Vf]) (λ_=>bnd (Qz v) λp=>K7 v (N-(k+1)) (KV v s k++[p.1]) (ZH v s false k||p.2)) (χ.pls v k s).fd:=by
 rw[h.e,show N-k=(N-(k+1))+1 by omega];rfl
theorem PlI.line_e{z:Int}(e:Qq [Vf] (χ.pls v k s).fd=.error z): K7 v N [] false s.fd=.error z:=(h.go hk).trans (Q3 e)
variable {a:Int} (e1:Qq [Vf] (χ.pls v k s).fd=.ok (a,(χ.nx (χ.ln (χ.pls v k s))).fd))
include e1
theorem PlI.trm_e{z:Int}(e:Qz v (χ.nx (χ.ln (χ.pls v k s))).fd=.error z): K7 v N [] false s.fd=.error z:=(h.go hk).trans ((Qv e1).trans (Q3 e))
theorem PlI.at(a:Qz v (χ.nx (χ.ln (χ.pls v k s))).fd=.ok ((CR v s k,XG v (χ.nx (χ.ln (χ.pls v k s)))),(χ.pls v (k+1) s).fd)): PlI N v s M (k+1):=by
 refine⟨?_,((h.i.ln (QP e1)).nx.trm v),hk,h.b,kL h.b (h.i.ln (QP e1)).nx h.o⟩;rw[h.go hk,Qv e1,Qv a,<- RW];rfl
end
theorem Ji(δ:Int){v:Nat}(h:v<=99): (Q2 δ v).toNat<=100:=by
 unfold Q2;split
 ·decide
 ·split
  ·omega
  ·split<;>decide
structure Z2 where
 t:χ
 m:Bool
 A:Option Addr
 c:Nat
 l:List Py
 M':Res
structure Z2.Ok (z:Z2) (z1:Z1) (y:DmY) (s:χ):Prop where
 e:Q5 s.fd=bnd (YC z1.δ z1.v 70000 [] z.m) (λr=>GU z1.δ ⟨z1.δ,z1.v,y.bx,y.κ,z.l,r.1,nm0,nm0,0,[]⟩ r.2) z.t.fd
 i:z.t.In z.M'
 u:Up y.M' z.M'
 p:Sy z.M' λw=>SlV 0 2 (gK 0) w z.l (.slice z.A z.l.length z.c)
 n:z.l.length<=4001
 o:∀p,p∈z.l->okP p
structure Z2.Ok3 (z:Z2) (z2:Z2) (z1:Z1) (y:DmY) (s:χ):Prop where
 e:Q5 s.fd=GU z1.δ ⟨z1.δ,z1.v,y.bx,y.κ,z2.l,z.l,nm0,nm0,0,[]⟩ z.m z.t.fd
 i:z.t.In z2.M'
 p:Sy z.M' λw=>SlV 0 2 (gK 0) w z.l (.slice z.A z.l.length z.c)
 f:NB z.M'
 n:z.l.length<=4001
 o:∀p,p∈z.l->okP p
section
variable {z1:Z1} {y:DmY} {s:χ} {M:Res} (h1:z1.Ok s M) (h2:y.Ok z1.δ z1.v z1.t M)
include h1 in
theorem QaG{z:Int}(h:J7 z1.δ z1.v z1.t.fd=.error z): Q5 s.fd=.error z:=by
 rw[h1.k];unfold RZ;exact Q3 h
include h1 h2
theorem kI:Q5 s.fd=bnd (K7 z1.v (Q2 z1.δ z1.v).toNat [] false) (λp=>bnd (YC z1.δ z1.v 70000 [] p.2) λr=>GU z1.δ ⟨z1.δ,z1.v,y.bx,y.κ,p.1,r.1,nm0,nm0,0,[]⟩ r.2) y.t.fd:=by
 rw[h1.k];unfold RZ;rw[Qv h2.e]
theorem zO{k:Nat}{a:Hp}(h:PlI (Q2 z1.δ z1.v).toNat z1.v y.t y.M' k)(hk:(Q2 z1.δ z1.v).toNat<=k): Z2.Ok ⟨χ.pls z1.v k y.t,ZH z1.v y.t false k,a.1,a.2,KV z1.v y.t k,Qk y.M' (Qt 52 2 k (ZX z1.v y.t) a.1 a.2)⟩ z1 y s:=by
 have e:=h.e;have hk:k=(Q2 z1.δ z1.v).toNat:=Rb h.le hk;rw[<- hk,U1]at e;have b:K7 z1.v k [] false y.t.fd=.ok ((KV z1.v y.t k,ZH z1.v y.t false k),(χ.pls z1.v k y.t).fd):=e;refine⟨?_,h.i.up (Up.pair _ _),Up.pair _ _,sy_pls.up (Up.snd _ _),?_,kK h.o⟩
 rotate_left
 ·show(KV z1.v y.t k).length<=4001;rw[BU,hk];exact L9 (Ji z1.δ h1.v2) x4
 rw[kI h1 h2,<- hk,Qv b]
end
structure RuI (δ:Int) (v:Nat) (s:χ) (m:Bool) (M:Res) (k:Nat):Prop where
 e:YC δ v 70000 [] m s.fd=YC δ v (70000-k) (KV v s k) (ZH v s m k) (χ.pls v k s).fd
 i:(χ.pls v k s).In M
 n:k+(χ.pls v k s).ls.length=s.ls.length
 b:v<=99
 o:∀j,j<k->okP (CR v s j)
theorem jR(δ:Int)(v f:Nat)(l:List Py)(m:Bool): YC δ v (f+1) l m=bif δ==4 then(λs=>bif Vh XJ s then(bnd (Qq [XJ]) λ_=>bnd (Qz v) λp=>YC δ v f (l++[p.1]) (m||p.2)) s else rtn (l,m) s)else rtn (l,m):=rfl
section
variable {δ:Int} {v k:Nat} {s:χ} {m:Bool} {M:Res} (h:RuI δ v s m M k) (hl:s.ls.length<=4001)
include h hl
theorem RuI.lt:k<=4001:=y6 h.n
theorem RuI.fin(h0:(δ==4)=false\/(δ==4)=true/\Vh XJ (χ.pls v k s).fd=false): YC δ v 70000 [] m s.fd=.ok ((KV v s k,ZH v s m k),(χ.pls v k s).fd):=by
 have h1:=h.lt hl;rw[h.e,show 70000-k=(70000-(k+1))+1 by omega,jR];rcases h0 with h0|⟨h0,h2⟩
 ·rw[h0];rfl
 ·rw[h0];show(bif Vh XJ (χ.pls v k s).fd then _ else _)=_;rw[h2];rfl
variable (h0:(δ==4)=true) (h2:Vh XJ (χ.pls v k s).fd=true)
include h0 h2
theorem RuI.go:YC δ v 70000 [] m s.fd=bnd (Qq [XJ]) (λ_=>bnd (Qz v) λp=>YC δ v (70000-(k+1)) (KV v s k++[p.1]) (ZH v s m k||p.2)) (χ.pls v k s).fd:=by
 have h1:=h.lt hl;rw[h.e,show 70000-k=(70000-(k+1))+1 by omega,jR,h0];show(bif Vh XJ (χ.pls v k s).fd then _ else _)=_;rw[h2];rfl
theorem RuI.line_e{z:Int}(e:Qq [XJ] (χ.pls v k s).fd=.error z): YC δ v 70000 [] m s.fd=.error z:=(h.go hl h0 h2).trans (Q3 e)
variable {a:Int} (e1:Qq [XJ] (χ.pls v k s).fd=.ok (a,(χ.nx (χ.ln (χ.pls v k s))).fd))
include e1
theorem RuI.trm_e{z:Int}(e:Qz v (χ.nx (χ.ln (χ.pls v k s))).fd=.error z): YC δ v 70000 [] m s.fd=.error z:=(h.go hl h0 h2).trans ((Qv e1).trans (Q3 e))
theorem RuI.at(c:Qz v (χ.nx (χ.ln (χ.pls v k s))).fd=.ok ((CR v s k,XG v (χ.nx (χ.ln (χ.pls v k s)))),(χ.pls v (k+1) s).fd)): RuI δ v s m M (k+1):=by
 have a:=QP e1;refine⟨?_,((h.i.ln a).nx.trm v),?_,h.b,kL h.b (h.i.ln a).nx h.o⟩
 ·rw[h.go hl h0 h2,Qv e1,Qv c,<- RW];rfl
 ·show k+1+(χ.trm v (χ.nx (χ.ln (χ.pls v k s)))).ls.length=_;unfold χ.trm;rw[OJ];show k+1+((χ.pls v k s).ls.drop 1).length=_;rw[Lf];have:=h.n;omega
end
theorem m6{z1:Z1}{a:Z2}{y:DmY}{s:χ}{k:Nat}{b:Hp}(h2:a.Ok z1 y s)(h:RuI z1.δ z1.v a.t a.m a.M' k)(h0:(z1.δ==4)=false\/(z1.δ==4)=true/\Vh XJ (χ.pls z1.v k a.t).fd=false): Z2.Ok3 ⟨χ.pls z1.v k a.t,ZH z1.v a.t a.m k,b.1,b.2,KV z1.v a.t k,Qt 52 2 k (ZX z1.v a.t) b.1 b.2⟩ a z1 y s :=
 ⟨by rw[h2.e,Qv (h.fin h2.i.f.n h0)],h.i,sy_pls,Bz,(show(KV _ _ _).length<=4001 from(BU _ _ _).symm▸h.lt h2.i.f.n),kK h.o⟩
section
variable {s:χ}
theorem Dx(h:decide ((s.ls.length:Int)>0)=true)(h2:decide ((Qf (Xj s.ls 0).l 0).s=XJ)=true): Vh XJ s.fd=true:=by
 show(bif decide ((s.ls.length:Int)>0)then decide ((Qf (Xj s.ls 0).l 0).s=XJ)else false)=true;rw[h];exact h2
theorem xp(h:decide ((s.ls.length:Int)>0)=true)(h2:decide ((Qf (Xj s.ls 0).l 0).s=XJ)=false): Vh XJ s.fd=false:=by
 show(bif decide ((s.ls.length:Int)>0)then decide ((Qf (Xj s.ls 0).l 0).s=XJ)else false)=false;rw[h];exact h2
theorem xo(h:decide ((s.ls.length:Int)>0)=false): Vh XJ s.fd=false:=by
 show(bif decide ((s.ls.length:Int)>0)then decide ((Qf (Xj s.ls 0).l 0).s=XJ)else false)=false;rw[h];rfl
end
theorem pJ{g t k v:Nat}{K V:Int}{b s:z0}{A:u5}{c:Nat}{u U:χ}{m:Bool}{M:Res}{S:Nat->Prop}(h:(Qh g t (χ.cs u (PC.l (PC.P K V b s (.slice A k c) r) m)) M).φ X S w): (Qh g t (χ.cs u (PC.l (PC.P K V b s (.slice A (KV v U k).length c) r) m)) M).φ X S w:=by
 rw[BU];exact h
theorem OC{g t k v:Nat}{K V:Int}{b s p:z0}{A:u5}{c:Nat}{u U:χ}{m:Bool}{M:Res}{S:Nat->Prop}(h:(Qh g t (χ.cs u (PC.l (PC.P K V b s p (.slice A k c)) m)) M).φ X S w): (Qh g t (χ.cs u (PC.l (PC.P K V b s p (.slice A (KV v U k).length c)) m)) M).φ X S w:=by
 rw[BU];exact h
theorem qr{z1:Z1}{a:Z2}{y:DmY}{s:χ}{z:Int}(h2:a.Ok z1 y s)(h:YC z1.δ z1.v 70000 [] a.m a.t.fd=.error z): Q5 s.fd=.error z:=h2.e.trans (Q3 h)
section
variable {δ:Int} {x:PV} {m:Bool} {t:FD} {z:Int}
theorem OG(h:(δ==6)=true): GU δ x m t=bnd (XO (Vn x.box.length x.κ.length) 70000 1 [] m) (λc=>bnd EU λ_=>rtn ({ x with ι:=c.1 },c.2)) t:=by unfold GU;rw[h]<;>rfl
theorem OH(h:(δ==6)=false): GU δ x m t=bnd (K1 δ) (λt=>bnd EU λ_=>rtn ({ x with ν:=t.1,ε:=t.2.1,ζ:=t.2.2 },m)) t:=by unfold GU;rw[h]<;>rfl
end
theorem jG{s:χ}(h:XK s.fd=.ok ((),s.fd))(h0:decide ((s.ls.length:Int)>0)=false): EU s.fd=.ok ((),s.fd):=by
 obtain⟨_,_,ls,_,_,_,_,l,_,_⟩:=s;cases ls with
 | nil=>exact Qv h
 | cons a b=>have:=L7 h0;simp at this
theorem jF{s:χ}(h:XK s.fd=.ok ((),s.fd))(h0:decide ((s.ls.length:Int)>0)=true)(e:0<(Xj s.ls 0).l.length): EU s.fd=.error (Qf (Xj s.ls 0).l 0).a:=by
 obtain⟨_,_,ls,_,_,_,_,l,_,_⟩:=s;cases ls with
 | nil=>cases h0
 | cons a b =>
  refine(Qv h).trans ?_
  obtain⟨f,g⟩:=a;cases f with
  | nil=>exact absurd e (Sx _)
  | cons c d=>rfl
theorem DZ{s:χ}{M:Res}(a:s.In M)(h0:0<s.ls.length): 0<(Xj s.ls 0).l.length:=List.length_pos_iff.2 (a.f.ls _ (PY h0)).2
theorem Zu{s:χ}(h0:decide ((s.ls.length:Int)>0)=true): 0<s.ls.length:=y6 (L1 h0)
structure PrY where
 t:χ
 pv:PV
 m:Bool
 vb:Value
 vs:Value
 vp:Value
 vr:Value
 vc:Value
 M':Res
structure PrY.Ok (y:PrY) (s:χ) (M:Res):Prop where
 e:Q5 s.fd=.ok ((y.pv,y.m),y.t.fd)
 five:Sy y.M' λw=>Five 0 w y.pv y.vb y.vs y.vp y.vr y.vc
 x:okX y.pv
theorem kv{z1:Z1}{y:DmY}{s:χ}{M:Res}(h1:z1.Ok s M)(h2:y.Ok z1.δ z1.v z1.t M){e a:List Py}{ν ε:Nm}{b:Int}{f:List Nd}(l:e.length<=4001)(c:∀p,p∈e->okP p)(m:a.length<=4001)(i:∀p,p∈a->okP p)(j:okN ν)(k:okN ε)(n:f.length<=4001)(g:∀p,p∈f->okP p.sum/\okN p.ο): okX ⟨z1.δ,z1.v,y.bx,y.κ,e,a,ν,ε,b,f⟩:=by
 have o:=h1.v2;have q:=h2.n1;have r:=h2.n2;refine⟨⟨⟨by show y.bx.length<=_;omega,by show y.κ.length<=_;omega,λp c=>L9 (h2.o2 p c).1 x3,by show f.length<=_;omega⟩,⟨by show _<=(z1.v:Int);omega,by show(z1.v:Int)<=_;omega⟩,by show e.length<=_;omega,by show a.length<=_;omega,c,i,λp c=>(g p c).1,λx d=>?_⟩⟩;unfold Qo at d;simp only[Rs,Uk,Ll,Rf,or_false]at d;rcases d with(((rfl|rfl)|⟨z,h,rfl|rfl⟩)|⟨p,c,d⟩)|⟨p,c,rfl⟩
 ·exact j
 ·exact k
 ·exact(h2.o1 z h).1
 ·exact(h2.o1 z h).2
 ·exact(h2.o2 p c).2 x d
 ·exact(g p c).2
theorem bA{b c e f a:Res}{x:PV}{g i j k l:z0}(n:Sy b λw=>SlV 0 6 xb w x.box g)(o:Sy b λw=>SlV 0 1 (kU 0) w x.κ i)(p:Sy c λw=>SlV 0 2 (gK 0) w x.ps j)(q:Sy e λw=>SlV 0 2 (gK 0) w x.θ k)(r:Sy f λw=>SlV 0 6 (nh 0) w x.ι l)(m:Up b c)(d:Up c a)(s:Up e a)(t:Up f a): Sy a λw=>Five 0 w x g i j k l:=λX S w h =>
 ⟨(n.up (m.trans d)) X S w h,(o.up (m.trans d)) X S w h,(p.up d) X S w h,(q.up s) X S w h,(r.up t) X S w h⟩
theorem wl(M:Res): Sy M λw=>SlV 0 6 (nh 0) w ([]:List Nd) (.slice none 0 0):=λ_ _ _ _=>⟨none,0,rfl,L8 _,λ_=>⟨rfl,rfl⟩,λh=>absurd h (Sx _)⟩
def wN(q1:Nat×Hp)(a:DmY)(z1:Z1)(b:Z2): PC:=PC.P z1.δ (z1.v:Int) (.slice a.A1 a.bx.length a.c1) (.slice a.A2 a.κ.length a.c2) (.slice b.A b.l.length b.c) (.slice q1.2.1 q1.1 q1.2.2)
def TW(q1:Nat×Hp)(a:DmY)(z1:Z1): a8:=χ.cs (χ.trm z1.v (χ.nx (χ.ln (χ.pls z1.v q1.1 a.t)))) (PC.l (PC.P z1.δ (z1.v:Int) (.slice a.A1 a.bx.length a.c1) (.slice a.A2 a.κ.length a.c2) (.slice q1.2.1 q1.1 q1.2.2) (.slice none 0 0)) ((ZH z1.v a.t false q1.1)||XG z1.v (χ.nx (χ.ln (χ.pls z1.v q1.1 a.t)))))
def Ym(q1:Nat×Hp)(z1:Z1)(a:Z2): χ:=χ.nx (χ.ln (χ.pls z1.v q1.1 a.t))
def Yk(q1:Nat×Hp)(a:DmY)(z1:Z1): χ:=χ.nx (χ.ln (χ.pls z1.v q1.1 a.t))
def rS(a:DmY)(z1:Z1)(d:Z2)(b:Z2): a8:=χ.cs (XS (z1.δ==4) b.t) (PC.l ⟨z1.δ,(z1.v:Int),.slice a.A1 a.bx.length a.c1,.slice a.A2 a.κ.length a.c2,.slice d.A d.l.length d.c,.slice b.A b.l.length b.c,(JA b.t),(Jz (z1.δ==4) b.t),(G0 (z1.δ==4) b.t),.slice none 0 0⟩ b.m)
def z8(q1:Nat×Hp)(a:DmY)(z1:Z1): PC:=PC.P z1.δ (z1.v:Int) (.slice a.A1 a.bx.length a.c1) (.slice a.A2 a.κ.length a.c2) (.slice q1.2.1 q1.1 q1.2.2) (.slice none 0 0)
def TX(q1:Nat×Hp)(a:DmY)(z1:Z1)(b:Z2): a8:=χ.cs (χ.trm z1.v (Ym q1 z1 b)) (PC.l (wN q1 a z1 b) ((ZH z1.v b.t b.m q1.1)||XG z1.v (Ym q1 z1 b)))
def zH(s:χ): a8:=χ.cs (χ.nx (χ.nx (χ.ln s))) (PC.l (PC.P (Lib.idxOfS (List.take 7 X0) (Qf (χ.ln s).l 0).s) (Xf (Qf (χ.nx (χ.ln s)).l 0).s) (.slice none 0 0) (.slice none 0 0) (.slice none 0 0) (.slice none 0 0)) false)
def m3(q1:Nat×Hp)(a:DmY)(z1:Z1)(b:Z2): a8:=χ.cs (χ.pls z1.v q1.1 b.t) (PC.l (wN q1 a z1 b) (ZH z1.v b.t b.m q1.1))
def zJ(s:χ): a8:=PC.l (PC.P (Lib.idxOfS (List.take 7 X0) (Qf (χ.ln s).l 0).s) 0 (.slice none 0 0) (.slice none 0 0) (.slice none 0 0) (.slice none 0 0)) false
def rP(a:DmY)(z1:Z1)(d:Z2)(b:Z2): a8:=χ.cs b.t (PC.l (PC.P z1.δ (z1.v:Int) (.slice a.A1 a.bx.length a.c1) (.slice a.A2 a.κ.length a.c2) (.slice d.A d.l.length d.c) (.slice b.A b.l.length b.c)) b.m)
def rQ(a:DmY)(z1:Z1): a8:=χ.cs a.t (PC.l (PC.P z1.δ (z1.v:Int) (.slice a.A1 a.bx.length a.c1) (.slice a.A2 a.κ.length a.c2) (.slice none 0 0) (.slice none 0 0)) false)
def Mj(q1:Nat×Hp)(a:DmY)(z1:Z1): a8:=PC.l (z8 q1 a z1) (ZH z1.v a.t false q1.1)
def rR  : a8:=PC.l (PC.P 0 0 (.slice none 0 0) (.slice none 0 0) (.slice none 0 0) (.slice none 0 0)) false
def mZ(q1:Nat×Hp)(a:DmY)(z1:Z1)(b:Z2): a8:=χ.cs (Ym q1 z1 b) (PC.l (wN q1 a z1 b) (ZH z1.v b.t b.m q1.1))
abbrev HHa(z1:Z1)(d:DmY)(j:Z2)(r:Z2)(B:NdY):=PC.l ⟨z1.δ,(z1.v:Int),.slice d.A1 d.bx.length d.c1,.slice d.A2 d.κ.length d.c2,.slice j.A j.l.length j.c,.slice r.A r.l.length r.c,nm0,nm0,0,.slice B.A B.l.length B.c⟩ B.m
abbrev HHb(g:Nat)(z1:Z1)(q1:Nat×Hp)(j:Z2)(d:DmY):=Qh g 69 (χ.cs ((⟨(χ.pls z1.v q1.1 j.t),(ZH z1.v j.t j.m q1.1),q1.2.1,q1.2.2,KV z1.v j.t q1.1,Qt 52 2 q1.1 (ZX z1.v j.t) q1.2.1 q1.2.2⟩:Z2).t) (PC.l (PC.P z1.δ (z1.v:Int) (.slice d.A1 d.bx.length d.c1) (.slice d.A2 d.κ.length d.c2) (.slice j.A j.l.length j.c) (.slice (⟨(χ.pls z1.v q1.1 j.t),(ZH z1.v j.t j.m q1.1),q1.2.1,q1.2.2,KV z1.v j.t q1.1,Qt 52 2 q1.1 (ZX z1.v j.t) q1.2.1 q1.2.2⟩:Z2).A (⟨(χ.pls z1.v q1.1 j.t),(ZH z1.v j.t j.m q1.1),q1.2.1,q1.2.2,KV z1.v j.t q1.1,Qt 52 2 q1.1 (ZX z1.v j.t) q1.2.1 q1.2.2⟩:Z2).l.length (⟨(χ.pls z1.v q1.1 j.t),(ZH z1.v j.t j.m q1.1),q1.2.1,q1.2.2,KV z1.v j.t q1.1,Qt 52 2 q1.1 (ZX z1.v j.t) q1.2.1 q1.2.2⟩:Z2).c)) ((⟨(χ.pls z1.v q1.1 j.t),(ZH z1.v j.t j.m q1.1),q1.2.1,q1.2.2,KV z1.v j.t q1.1,Qt 52 2 q1.1 (ZX z1.v j.t) q1.2.1 q1.2.2⟩:Z2).m))) j.M'
abbrev HHc(z1:Z1)(q1:Nat×Hp)(d:DmY)(q:Hp):=χ.cs (χ.trm z1.v (Yk q1 d z1)) (PC.l (PC.P z1.δ (z1.v:Int) (.slice d.A1 d.bx.length d.c1) (.slice d.A2 d.κ.length d.c2) (.slice q.1 (q1.1+1) q.2) (.slice none 0 0)) ((ZH z1.v d.t false q1.1)||XG z1.v (Yk q1 d z1)))
abbrev HHd(z1:Z1)(q1:Nat×Hp)(j:Z2)(d:DmY)(q:Hp):=χ.cs (χ.trm z1.v (Ym q1 z1 j)) (PC.l (PC.P z1.δ (z1.v:Int) (.slice d.A1 d.bx.length d.c1) (.slice d.A2 d.κ.length d.c2) (.slice j.A j.l.length j.c) (.slice q.1 (q1.1+1) q.2)) ((ZH z1.v j.t j.m q1.1)||XG z1.v (Ym q1 z1 j)))
abbrev HHe(g:Nat)(z1:Z1)(q1:Nat×Hp)(d:DmY):=λ(q:Hp)=>([.pur 15,.pur 16,.o 9 16 (.set (.pointer (some ⟨g,4,none⟩))),.pur 17,.o 9 17 (.set (.pointer (some ⟨g,8,none⟩))),.eff 9 18 0 (λ(L:Unit)=>undef) (λ(L:Unit)=>Qh g 69 (HHc z1 q1 d q) d.M') (λ(L:Unit)=>[.join 10 0 0 16,.o 10 0 (.eq (iV ((q1.1+1:Nat):Int))),.nxt [q]])]:List Dir)
abbrev HHf(g:Nat):z0:=.pointer (some ⟨g,0,none⟩)
abbrev HHg(g:Nat)(z1:Z1)(q1:Nat×Hp)(d:DmY)(q:Hp):=Qk (Qh g 69 (χ.cs (χ.pls z1.v (q1.1+1) d.t) (PC.l (PC.P z1.δ (z1.v:Int) (.slice d.A1 d.bx.length d.c1) (.slice d.A2 d.κ.length d.c2) (.slice q.1 (q1.1+1) q.2) (.slice none 0 0)) (ZH z1.v d.t false (q1.1+1)))) d.M') (Qt 52 2 (q1.1+1) (ZX z1.v d.t) q.1 q.2)
abbrev HHh(z1:Z1)(q1:Nat×Hp)(d:DmY):=((QI z1.v (Yk q1 d z1),XG z1.v (Yk q1 d z1)),(χ.trm z1.v (Yk q1 d z1)).fd)
abbrev HHi(z1:Z1)(q1:Nat×Hp)(j:Z2):=((QI z1.v (Ym q1 z1 j),XG z1.v (Ym q1 z1 j)),(χ.trm z1.v (Ym q1 z1 j)).fd)
abbrev HHj(g:Nat)(z1:Z1)(q1:Nat×Hp)(j:Z2)(d:DmY):=λ(q:Hp)=>([.pur 15,.pur 16,.o 13 16 (.set (.pointer (some ⟨g,4,none⟩))),.pur 17,.o 13 17 (.set (.pointer (some ⟨g,9,none⟩))),.eff 13 18 0 (λ(L:Unit)=>undef) (λ(L:Unit)=>Qh g 69 (HHd z1 q1 j d q) j.M') (λ(L:Unit)=>[.nxt [q]])]:List Dir)
abbrev HHk(g:Nat)(z1:Z1)(q1:Nat×Hp)(j:Z2)(d:DmY)(q:Hp):=Qh g 69 (χ.cs (χ.pls z1.v (q1.1+1) j.t) (PC.l (PC.P z1.δ (z1.v:Int) (.slice d.A1 d.bx.length d.c1) (.slice d.A2 d.κ.length d.c2) (.slice j.A j.l.length j.c) (.slice q.1 (q1.1+1) q.2)) (ZH z1.v j.t j.m (q1.1+1)))) j.M'
abbrev HHl(z1:Z1)(r:Z2)(j:Z2):=K1 z1.δ r.t.fd=.ok ((JA r.t,Jz (z1.δ==4) r.t,G0 (z1.δ==4) r.t),(XS (z1.δ==4) r.t).fd)/\(XS (z1.δ==4) r.t).In (Qk j.M' r.M')/\okN (JA r.t)/\okN (Jz (z1.δ==4) r.t)
abbrev HHm(q:Hp)(q1:Nat×Hp):=Lc.1 (rfl:([.slice q.1 (q1.1+1) q.2]:a8).all (λu=>u.oneCell')=true)
abbrev HHn(s:χ):=Lib.idxOfS (List.take 7 X0) (Qf (χ.ln s).l 0).s
abbrev HHo(z1:Z1)(q1:Nat×Hp)(d:DmY):=(Qq (List.take 1 [Vf])) (χ.pls z1.v q1.1 d.t).fd=.ok ((Lib.idxOfS (List.take 1 [Vf]) (Qf (χ.ln (χ.pls z1.v q1.1 d.t)).l 0).s),(Yk q1 d z1).fd)
abbrev HHp(z1:Z1)(q1:Nat×Hp)(j:Z2):=(Qq (List.take 1 [XJ])) (χ.pls z1.v q1.1 j.t).fd=.ok ((Lib.idxOfS (List.take 1 [XJ]) (Qf (χ.ln (χ.pls z1.v q1.1 j.t)).l 0).s),(Ym q1 z1 j).fd)
abbrev HHq:z0:=.slice none 0 0
abbrev HHr(z1:Z1)(r:Z2):=XS (z1.δ==4) r.t
abbrev HHs:Nat×Hp:=(0,(none,0))
abbrev HHt(z1:Z1)(q1:Nat×Hp)(j:Z2)(C:Hp):=Qc 56 4 QG (QI z1.v (Ym q1 z1 j)).ts C.1 C.2
abbrev HHu(z1:Z1)(q1:Nat×Hp)(d:DmY)(C:Hp):=Qc 56 4 QG (QI z1.v (Yk q1 d z1)).ts C.1 C.2
abbrev HHv(s:χ):=Xf (Qf (χ.nx (χ.ln s)).l 0).s
abbrev HHw(z1:Z1)(q1:Nat×Hp)(d:DmY):=λ(C:{y:Hp // (Qz z1.v) (Yk q1 d z1).fd=.ok (HHh z1 q1 d)})=>Value.agg #[.int .i64 ((QI z1.v (Yk q1 d z1)).vars),.slice C.1.1 (QI z1.v (Yk q1 d z1)).ts.length C.1.2]
abbrev HHx(g:Nat):z0:=.pointer (some ⟨g,4,none⟩)
abbrev HHy(z1:Z1)(q1:Nat×Hp)(j:Z2):=λ(C:{y:Hp // (Qz z1.v) (Ym q1 z1 j).fd=.ok (HHi z1 q1 j)})=>Value.agg #[.int .i64 ((QI z1.v (Ym q1 z1 j)).vars),.slice C.1.1 (QI z1.v (Ym q1 z1 j)).ts.length C.1.2]
abbrev HHz(q1:Nat×Hp)(z1:Z1)(d:DmY):=Qt 52 2 q1.1 (ZX z1.v d.t) q1.2.1 q1.2.2
abbrev HHA(q1:Nat×Hp):=λ(q:Hp)=>Value.slice q.1 (q1.1+1) q.2
abbrev HHB(z1:Z1)(q1:Nat×Hp)(j:Z2):=χ.pls z1.v q1.1 j.t
abbrev HHC(s:χ):=(QL 99) (χ.nx (χ.ln s)).fd=.ok ((HHv s),(χ.nx (χ.nx (χ.ln s))).fd)
abbrev HHD(z1:Z1)(q1:Nat×Hp)(d:DmY)(g:Nat):=λ(C:{y:Hp // (Qz z1.v) (Yk q1 d z1).fd=.ok (HHh z1 q1 d)})=>([.spl 9 13 0 (Qh g 69 (TW q1 d z1) d.M') (HHu z1 q1 d C.1),.join 9 14 16 17,.eff 9 14 16 (HHA q1) (λ(q:Hp)=>Qt 52 2 (q1.1+1) (ZX z1.v d.t) q.1 q.2) (HHe g z1 q1 d)]:List Dir)
abbrev HHE(z1:Z1)(q1:Nat×Hp)(j:Z2):=(⟨(HHB z1 q1 j),(ZH z1.v j.t j.m q1.1),q1.2.1,q1.2.2,KV z1.v j.t q1.1,Qt 52 2 q1.1 (ZX z1.v j.t) q1.2.1 q1.2.2⟩:Z2).M'
abbrev HHF(z1:Z1)(q1:Nat×Hp)(d:DmY)(C:Hp):a8:=[.int .i64 ((QI z1.v (Yk q1 d z1)).vars),.slice C.1 (QI z1.v (Yk q1 d z1)).ts.length C.2]
abbrev HHG(z1:Z1)(q1:Nat×Hp)(j:Z2)(C:Hp):a8:=[.int .i64 ((QI z1.v (Ym q1 z1 j)).vars),.slice C.1 (QI z1.v (Ym q1 z1 j)).ts.length C.2]
abbrev HHH(z1:Z1)(q1:Nat×Hp)(j:Z2)(g:Nat)(d:DmY):=λ(C:{y:Hp // (Qz z1.v) (Ym q1 z1 j).fd=.ok (HHi z1 q1 j)})=>([.spl 13 13 0 (Qh g 69 (TX q1 d z1 j) j.M') (HHt z1 q1 j C.1),.join 13 14 2 3,.eff 13 14 2 (HHA q1) (λ(q:Hp)=>Qt 52 2 (q1.1+1) (ZX z1.v j.t) q.1 q.2) (HHj g z1 q1 j d)]:List Dir)
abbrev HHI(z1:Z1)(q1:Nat×Hp)(d:DmY)(g:Nat):=λ(C:{y:Hp // (Qz z1.v) (Yk q1 d z1).fd=.ok (HHh z1 q1 d)})=>Qh g 69 (TW q1 d z1) (Qk d.M' (HHu z1 q1 d C.1))
abbrev HHJ(s:χ):=(Qq (List.take 7 X0)) s.fd=.ok ((HHn s),(χ.nx (χ.ln s)).fd)
abbrev HHK:=Qc 52 2 kT ([]:List Unit) none 0
abbrev HHL(z1:Z1):Int:=((Q2 z1.δ z1.v).toNat:Nat)
abbrev HHM(j:Z2):z0:=.slice j.A j.l.length j.c
abbrev HHN(z1:Z1)(q1:Nat×Hp)(j:Z2)(g:Nat)(d:DmY):=λ(C:{y:Hp // (Qz z1.v) (Ym q1 z1 j).fd=.ok (HHi z1 q1 j)})=>Qh g 69 (TX q1 d z1 j) (Qk j.M' (HHt z1 q1 j C.1))
abbrev HHO(g:Nat)(z1:Z1)(q1:Nat×Hp)(d:DmY)(q:Hp):=Qk (Qh g 69 (HHc z1 q1 d q) d.M') (Qt 52 2 (q1.1+1) (ZX z1.v d.t) q.1 q.2)
abbrev HHP(q1:Nat×Hp)(z1:Z1)(j:Z2)(q:Hp):=Qt 52 2 (q1.1+1) (ZX z1.v j.t) q.1 q.2
abbrev HHQ(d:DmY):z0:=.slice d.A2 d.κ.length d.c2
abbrev HHR(d:DmY):z0:=.slice d.A1 d.bx.length d.c1
abbrev HHS(q1:Nat×Hp):z0:=.slice q1.2.1 q1.1 q1.2.2
abbrev HHT(z1:Z1)(q1:Nat×Hp)(d:DmY):=χ.pls z1.v q1.1 d.t
abbrev HHU(s:χ):z0:=.int .i64 ((Qf (χ.nx (χ.ln s)).l 0).a)
abbrev HHV(r:Z2):z0:=.slice r.A r.l.length r.c
abbrev HHW(z1:Z1)(r:Z2):z0:=.int .i64 ((Qf (Xj (HHr z1 r).ls 0).l 0).a)
abbrev HHX(B:NdY):z0:=.int .i64 ((Qf (Xj B.t.ls 0).l 0).a)
abbrev HHY(z1:Z1)(r:Z2):=XK (HHr z1 r).fd=.ok ((),(HHr z1 r).fd)
abbrev HHZ(q:Hp)(q1:Nat×Hp):a8:=[.slice q.1 (q1.1+1) q.2]
abbrev HH0(g:Nat):z0:=.pointer (some ⟨g,5,none⟩)
abbrev HH1(B:NdY)(z1:Z1)(d:DmY)(j:Z2)(r:Z2):=χ.cs B.t (HHa z1 d j r B)
abbrev HH2(z1:Z1)(d:DmY)(q1:Nat×Hp):=ZH z1.v d.t false q1.1
abbrev HH3(B:NdY):=XK B.t.fd=.ok ((),B.t.fd)
abbrev HH4(q1:Nat×Hp)(z1:Z1)(j:Z2):=Qt 52 2 q1.1 (ZX z1.v j.t) q1.2.1 q1.2.2
abbrev HH5:=λ(q1:Nat×Hp) (u:List Hp)=>(q1.1+1,u.headD (none,0))
abbrev HH6(q1:Nat×Hp)(d:DmY)(z1:Z1):=χ.cs (Yk q1 d z1) (Mj q1 d z1)
abbrev HH7(z1:Z1)(q1:Nat×Hp)(d:DmY):=(⟨(HHT z1 q1 d),(HH2 z1 d q1),q1.2.1,q1.2.2,KV z1.v d.t q1.1,Qk d.M' (HHz q1 z1 d)⟩:Z2).t
abbrev HH8(g:Nat)(j:Z2)(z1:Z1)(d:DmY):=Qh g 69 (χ.cs j.t (PC.l (PC.P z1.δ (z1.v:Int) (HHR d) (HHQ d) (HHM j) HHq) j.m)) j.M'
abbrev HH9(z1:Z1):z0:=.int .i64 (z1.v:Int)
abbrev HHaa:=λa w=>call73 a w
abbrev HHab(z1:Z1)(q1:Nat×Hp)(d:DmY):=χ.cs (HHT z1 q1 d) (Mj q1 d z1)
abbrev HHac:=List.take 1 [XJ]
abbrev HHad:=List.take 1 [Vf]
theorem fM{g:Nat}{M:Res}{s:χ}(hM:s.In M)(W:y9)(Z:Q0 W): FxF prog W (Qh g 69 (χ.cs s rR) M) 40 #[x02 g] (λ_:{y:PrY // y.Ok s M}=>Value.tuple #[]) (λy:{y:PrY // y.Ok s M}=>Qh g 69 (χ.cs y.1.t (PC.l ⟨y.1.pv.δ,y.1.pv.vars,y.1.vb,y.1.vs,y.1.vp,y.1.vr,y.1.pv.ν,y.1.pv.ε,y.1.pv.ζ,y.1.vc⟩ y.1.m)) y.1.M') (Xl Q5 s) :=
 Gb Qu QR (λa w=>call40 a w) func40 ntmps40 results40 _ rfl _ _ _ _ [.inl 0 0 f31,.ord,.pur 0,.pur 1,.pur 2,.pur 3,.o 1 3 (.set (HHf g)),.fx 1 5 0 (λ(Y:PLift (HHJ s))=>Θ (HHn s)) (λ(Y:PLift (HHJ s))=>Qh g 69 (χ.cs (χ.nx (χ.ln s)) rR) M) (Xl (Qq (List.take 7 X0)) s) (λ(Y:PLift (HHJ s))=>[.pur 6,.pur 7,.o 1 7 (.set (HHx g)),.pur 8,.o 1 8 (.set (HHx g)),.eff 1 9 0 (λ(u1:Unit)=>undef) (λ(u1:Unit)=>Qh g 69 (χ.cs (χ.nx (χ.ln s)) (zJ s)) M) (λ(u1:Unit)=>[.o 2 2 (.set (HHf g)),.o 2 3 (.set (.pointer (some ⟨g,1,none⟩))),.o 2 4 (.set (.pointer (some ⟨g,1,none⟩))),.o 2 5 (.rd [0] (Ω (χ.nx (χ.ln s)).A (χ.nx (χ.ln s)).l.length (χ.nx (χ.ln s)).c)),.o 3 3 (.set (HHf g)),.fx 3 4 0 (λ(y2:PLift (HHC s))=>Θ (HHv s)) (λ(y2:PLift (HHC s))=>Qh g 69 (χ.cs (χ.nx (χ.nx (χ.ln s))) (zJ s)) M) (Xl (QL 99) (χ.nx (χ.ln s))) (λ(y2:PLift (HHC s))=>[.o 3 6 (.set (HHx g)),.o 3 7 (.set (HH0 g)),.eff 3 8 0 (λ(u2:Unit)=>undef) (λ(u2:Unit)=>Qh g 69 (zH s) M) (λ(u2:Unit)=>[.cut 5 (λ(z1:Z1)=>(⟨146,[(0,.val (HHf g))],[some (0,[]),some (0,[])],[some (Qh g 69 (χ.cs z1.t (PC.l (PC.P z1.δ (z1.v:Int) HHq HHq HHq HHq) false)) M),none]⟩:St)) (λ(z1:Z1)=>z1.Ok s M) (λk u=>(⟨(HHn s),(HHv s).toNat,(χ.nx (χ.nx (χ.ln s)))⟩:Z1)) (λ(z1:Z1)=>[.fx 5 1 0 (λ(d:{y:DmY // y.Ok z1.δ z1.v z1.t M})=>Value.tuple #[]) (λ(d:{y:DmY // y.Ok z1.δ z1.v z1.t M})=>Qh g 69 (rQ d.1 z1) d.1.M') (Xl (J7 z1.δ z1.v) z1.t) (λ(d:{y:DmY // y.Ok z1.δ z1.v z1.t M})=>[.nil 6 99999 52 2 kT,.cut 11 (λ(j:Z2)=>(⟨146,[(0,.val (HHf g))],[some (0,[]),some (0,[])],[some (HH8 g j z1 d.1),none,some (Qt 52 2 0 (ZX z1.v j.t) none 0)]⟩:St)) (λ(j:Z2)=>j.Ok z1 d.1 s) (λk u=>(⟨(χ.pls z1.v k d.1.t),(ZH z1.v d.1.t false k),(u.headD (none,0)).1,(u.headD (none,0)).2,KV z1.v d.1.t k,Qk d.1.M' (Qt 52 2 k (ZX z1.v d.1.t) (u.headD (none,0)).1 (u.headD (none,0)).2)⟩:Z2)) (λ(j:Z2)=>[.cut 14 (λ(r:Z2)=>(⟨146,[(0,.val (HHf g))],[some (0,[]),some (0,[])],[some (Qh g 69 (rP d.1 z1 j r) j.M'),none,some r.M']⟩:St)) (λ(r:Z2)=>r.Ok3 j z1 d.1 s) (λk u=>(⟨(χ.pls z1.v k j.t),(ZH z1.v j.t j.m k),(u.headD (none,0)).1,(u.headD (none,0)).2,KV z1.v j.t k,Qt 52 2 k (ZX z1.v j.t) (u.headD (none,0)).1 (u.headD (none,0)).2⟩:Z2)) (λ(r:Z2)=>[.join 14 0 0 2,.cnv 14 0 0 (Qh g 69 (rP d.1 z1 j r) (Qk j.M' r.M')),.o 14 2 (.set (HHx g)),.o 14 3 (.set (HHx g)),.o 14 4 (.rd [0] (Θ z1.δ)),.both [.fx 15 1 0 (λ(B:{y:NdY // y.Ok (⟨PC.P z1.δ z1.v HHq HHq (HHM j) (HHV r),d.1.A1,d.1.bx.length,d.1.c1,d.1.A2,d.1.κ.length,d.1.c2⟩:NX) r.m r.t (Qk j.M' r.M')})=>Value.tuple #[]) (λ(B:{y:NdY // y.Ok (⟨PC.P z1.δ z1.v HHq HHq (HHM j) (HHV r),d.1.A1,d.1.bx.length,d.1.c1,d.1.A2,d.1.κ.length,d.1.c2⟩:NX) r.m r.t (Qk j.M' r.M')})=>Qh g 69 (HH1 B.1 z1 d.1 j r) B.1.M') (Xl (XO (Vn d.1.bx.length d.1.κ.length) 70000 1 [] r.m) r.t) (λ(B:{y:NdY // y.Ok (⟨PC.P z1.δ z1.v HHq HHq (HHM j) (HHV r),d.1.A1,d.1.bx.length,d.1.c1,d.1.A2,d.1.κ.length,d.1.c2⟩:NX) r.m r.t (Qk j.M' r.M')})=>[.o 17 2 (.set (HHf g)),.fx 17 3 0 (λ(C:PLift (HH3 B.1))=>.tuple #[]) (λ(C:PLift (HH3 B.1))=>Qh g 69 (HH1 B.1 z1 d.1 j r) B.1.M') (Xl XK B.1.t) (λ(C:PLift (HH3 B.1))=>[.o 18 2 (.set (HHf g)),.o 18 3 (.set (HHf g)),.o 18 4 (.rd [0] (Ω B.1.t.A0 B.1.t.ls.length B.1.t.c0)),.both [.o 19 2 (.set (HHf g)),.o 19 3 (.set (HHf g)),.o 19 4 (.rd [0] (Ω B.1.t.A0 B.1.t.ls.length B.1.t.c0)),.o 19 5 (.rd [0] (.pointer (some (Xi B.1.t.A0 (0*2+0))))),.o 19 6 (.set (.pointer (some (Xi B.1.t.A0 (0*2+0))))),.o 19 7 (.rd [0] (Ω (B.1.t.Al 0) (Xj B.1.t.ls 0).l.length (B.1.t.cl 0))),.o 19 8 (.rd [0] (.pointer (some (Xi (B.1.t.Al 0) (0*2+0))))),.o 19 9 (.set (.pointer (some (Xi (B.1.t.Al 0) (0*2+1))))),.o 19 10 (.rd [0] (HHX B.1)),.inl 19 11 f73,.o 1 1 (.set (.iface 103 (HHX B.1)))] []])])] [.fx 16 1 0 (λ(B:PLift (HHl z1 r j))=>Value.tuple #[]) (λ(B:PLift (HHl z1 r j))=>Qh g 69 (rS d.1 z1 j r) (Qk j.M' r.M')) (Xl (K1 z1.δ) r.t) (λ(B:PLift (HHl z1 r j))=>[.o 17 2 (.set (HHf g)),.fx 17 3 0 (λ(C:PLift (HHY z1 r))=>.tuple #[]) (λ(C:PLift (HHY z1 r))=>Qh g 69 (rS d.1 z1 j r) (Qk j.M' r.M')) (Xl XK (HHr z1 r)) (λ(C:PLift (HHY z1 r))=>[.o 18 2 (.set (HHf g)),.o 18 3 (.set (HHf g)),.o 18 4 (.rd [0] (Ω (HHr z1 r).A0 (HHr z1 r).ls.length (HHr z1 r).c0)),.both [.o 19 2 (.set (HHf g)),.o 19 3 (.set (HHf g)),.o 19 4 (.rd [0] (Ω (HHr z1 r).A0 (HHr z1 r).ls.length (HHr z1 r).c0)),.o 19 5 (.rd [0] (.pointer (some (Xi (HHr z1 r).A0 (0*2+0))))),.o 19 6 (.set (.pointer (some (Xi (HHr z1 r).A0 (0*2+0))))),.o 19 7 (.rd [0] (Ω ((HHr z1 r).Al 0) (Xj (HHr z1 r).ls 0).l.length ((HHr z1 r).cl 0))),.o 19 8 (.rd [0] (.pointer (some (Xi ((HHr z1 r).Al 0) (0*2+0))))),.o 19 9 (.set (.pointer (some (Xi ((HHr z1 r).Al 0) (0*2+1))))),.o 19 10 (.rd [0] (HHW z1 r)),.inl 19 11 f73,.o 1 1 (.set (.iface 103 (HHW z1 r)))] []])])]]),.lop (λ(q1:Nat×Hp)=>(⟨146,[(0,.val (HHf g))],[some (0,[]),some (0,[])],[some (Qh g 69 (m3 q1 d.1 z1 j) j.M'),none,some (HH4 q1 z1 j)]⟩:St)) (λ(q1:Nat×Hp)=>RuI z1.δ z1.v j.t j.m j.M' q1.1) (λ(q1:Nat×Hp)=>(HHB z1 q1 j).ls.length) (HHs:Nat×Hp) HH5 (λ(q1:Nat×Hp)=>[.o 11 2 (.set (HHx g)),.o 11 3 (.set (HHx g)),.o 11 4 (.rd [0] (Θ z1.δ)),.gb 11 7 [.o 11 9 (.set (HHf g)),.inl 11 10 f76,.o 1 2 (.set (HHf g)),.o 1 3 (.rd [0] (Ω (HHB z1 q1 j).A0 (HHB z1 q1 j).ls.length (HHB z1 q1 j).c0)),.gb 1 7 [.o 1 9 (.set (HHf g)),.o 1 10 (.rd [0] (Ω (HHB z1 q1 j).A0 (HHB z1 q1 j).ls.length (HHB z1 q1 j).c0)),.o 1 11 (.rd [0] (.pointer (some (Xi (HHB z1 q1 j).A0 (0*2+0))))),.o 1 12 (.set (.pointer (some (Xi (HHB z1 q1 j).A0 (0*2+0))))),.o 1 13 (.rd [0] (Ω ((HHB z1 q1 j).Al 0) (Xj (HHB z1 q1 j).ls 0).l.length ((HHB z1 q1 j).cl 0))),.o 1 14 (.rd [0] (.pointer (some (Xi ((HHB z1 q1 j).Al 0) (0*2+0))))),.o 1 15 (.set (.pointer (some (Xi ((HHB z1 q1 j).Al 0) (0*2+0))))),.o 1 16 (.rd [0] (Ψ ((Qf (Xj (HHB z1 q1 j).ls 0).l 0).s))),.o 1 18 (.set (Ξ (decide (((Qf (Xj (HHB z1 q1 j).ls 0).l 0).s)=⟨#[114,117,108,101]⟩)))),.both [.o 12 2 (.set (HHf g)),.fx 12 4 0 (λ(B:PLift (HHp z1 q1 j))=>Θ (Lib.idxOfS HHac (Qf (χ.ln (HHB z1 q1 j)).l 0).s)) (λ(B:PLift (HHp z1 q1 j))=>Qh g 69 (mZ q1 d.1 z1 j) j.M') (Xl (Qq HHac) (HHB z1 q1 j)) (λ(B:PLift (HHp z1 q1 j))=>[.ord,.pur 0,.pur 1,.pur 2,.pur 3,.o 13 3 (.set (HHx g)),.pur 4,.o 13 4 (.set (.pointer (some ⟨g,9,none⟩))),.pur 6,.pur 7,.pur 8,.pur 9,.o 13 9 (.set (HHx g)),.pur 10,.o 13 10 (.set (HH0 g)),.both [.o 13 5 (.rd [0] (HHS q1)),.o 13 11 (.rd [0] (HH9 z1)),.fx 13 12 0 (HHy z1 q1 j) (HHN z1 q1 j g d.1) (Xl (Qz z1.v) (Ym q1 z1 j)) (HHH z1 q1 j g d.1)] [.o 13 11 (.rd [0] (HH9 z1)),.both [.o 13 5 (.rd [0] (HHS q1)),.fx 13 12 0 (HHy z1 q1 j) (HHN z1 q1 j g d.1) (Xl (Qz z1.v) (Ym q1 z1 j)) (HHH z1 q1 j g d.1)] [.fx 13 12 0 (HHy z1 q1 j) (HHN z1 q1 j g d.1) (Xl (Qz z1.v) (Ym q1 z1 j)) (λ(C:{y:Hp // (Qz z1.v) (Ym q1 z1 j).fd=.ok (HHi z1 q1 j)})=>[.both [.o 13 5 (.rd [0] (HHS q1)),.spl 13 13 0 (Qh g 69 (TX q1 d.1 z1 j) j.M') (HHt z1 q1 j C.1),.join 13 14 2 3,.eff 13 14 2 (HHA q1) (λ(q:Hp)=>Qt 52 2 (q1.1+1) (ZX z1.v j.t) q.1 q.2) (HHj g z1 q1 j d.1)] [.spl 13 13 0 (Qh g 69 (TX q1 d.1 z1 j) j.M') (HHt z1 q1 j C.1),.o 13 5 (.rd [0] (HHS q1)),.join 13 14 2 3,.eff 13 14 2 (HHA q1) (λ(q:Hp)=>Qt 52 2 (q1.1+1) (ZX z1.v j.t) q.1 q.2) (HHj g z1 q1 j d.1)]])]]])] [.nxc q1.1 [q1.2]]] [.nxc q1.1 [q1.2]]] [.nxc q1.1 [q1.2]]])]),.reg 12 [],.o 6 2 (.set (HHx g)),.o 6 3 (.set (HHx g)),.o 6 4 (.rd [0] (Θ z1.δ)),.o 6 7 (.set (HHx g)),.o 6 8 (.set (HH0 g)),.o 6 9 (.rd [0] (HH9 z1)),.o 6 10 (.ret (iV (HHL z1))),.nil 7 99999 52 2 kT,.join 7 99999 0 15,.lop (λ(q1:Nat×Hp)=>(⟨146,[(0,.val (HHf g)),(51,iV (HHL z1)),(52,iV (q1.1:Int))],[some (0,[]),some (0,[]),some (0,[]),some (0,[]),some (0,[]),some (0,[]),some (0,[]),some (0,[]),some (0,[]),some (0,[]),some (0,[]),some (0,[]),some (0,[]),some (0,[])],[some (Qk (Qh g 69 (HHab z1 q1 d.1) d.1.M') (HHz q1 z1 d.1)),none,none,none,none,none,none,none,none,none,none,none,none,none,none,none]⟩:St)) (λ(q1:Nat×Hp)=>PlI (Q2 z1.δ z1.v).toNat z1.v d.1.t d.1.M' q1.1) (λ(q1:Nat×Hp)=>((Q2 z1.δ z1.v).toNat-q1.1)) (HHs:Nat×Hp) HH5 (λ(q1:Nat×Hp)=>[.both [.spl 8 0 0 (Qh g 69 (HHab z1 q1 d.1) d.1.M') (HHz q1 z1 d.1),.o 8 2 (.set (HHf g)),.fx 8 4 0 (λ(B:PLift (HHo z1 q1 d.1))=>Θ (Lib.idxOfS HHad (Qf (χ.ln (HHT z1 q1 d.1)).l 0).s)) (λ(B:PLift (HHo z1 q1 d.1))=>Qh g 69 (HH6 q1 d.1 z1) d.1.M') (Xl (Qq HHad) (HHT z1 q1 d.1)) (λ(B:PLift (HHo z1 q1 d.1))=>[.ord,.pur 0,.pur 1,.pur 2,.pur 3,.o 9 3 (.set (HHx g)),.pur 4,.o 9 4 (.set (.pointer (some ⟨g,8,none⟩))),.pur 6,.pur 7,.pur 8,.pur 9,.o 9 9 (.set (HHx g)),.pur 10,.o 9 10 (.set (HH0 g)),.both [.o 9 5 (.rd [0] (HHS q1)),.o 9 11 (.rd [0] (HH9 z1)),.fx 9 12 0 (HHw z1 q1 d.1) (HHI z1 q1 d.1 g) (Xl (Qz z1.v) (Yk q1 d.1 z1)) (HHD z1 q1 d.1 g)] [.o 9 11 (.rd [0] (HH9 z1)),.both [.o 9 5 (.rd [0] (HHS q1)),.fx 9 12 0 (HHw z1 q1 d.1) (HHI z1 q1 d.1 g) (Xl (Qz z1.v) (Yk q1 d.1 z1)) (HHD z1 q1 d.1 g)] [.fx 9 12 0 (HHw z1 q1 d.1) (HHI z1 q1 d.1 g) (Xl (Qz z1.v) (Yk q1 d.1 z1)) (λ(C:{y:Hp // (Qz z1.v) (Yk q1 d.1 z1).fd=.ok (HHh z1 q1 d.1)})=>[.both [.o 9 5 (.rd [0] (HHS q1)),.spl 9 13 0 (Qh g 69 (TW q1 d.1 z1) d.1.M') (HHu z1 q1 d.1 C.1),.join 9 14 16 17,.eff 9 14 16 (HHA q1) (λ(q:Hp)=>Qt 52 2 (q1.1+1) (ZX z1.v d.1.t) q.1 q.2) (HHe g z1 q1 d.1)] [.spl 9 13 0 (Qh g 69 (TW q1 d.1 z1) d.1.M') (HHu z1 q1 d.1 C.1),.o 9 5 (.rd [0] (HHS q1)),.join 9 14 16 17,.eff 9 14 16 (HHA q1) (λ(q:Hp)=>Qt 52 2 (q1.1+1) (ZX z1.v d.1.t) q.1 q.2) (HHe g z1 q1 d.1)]])]]])] [.nxc q1.1 [q1.2]]])])]),.reg 10 [],.o 4 2 (.set (HHx g)),.o 4 3 (.set (HH0 g)),.o 4 4 (.rd [0] (Θ (HHv s))),.o 4 7 (.rd [0] (.pointer (some (Xi (χ.nx (χ.ln s)).A (0*2+0))))),.o 4 8 (.set (.pointer (some (Xi (χ.nx (χ.ln s)).A (0*2+1))))),.o 4 9 (.rd [0] (HHU s)),.inl 4 10 f73,.both [.o 1 1 (.set (.iface 103 (HHU s)))] [.nxc 0 []]])])])])] (λF=>Km func31 (λa w=>call31 a w) (λw=>Qm _ g 0 w (l3 _ _)) (Dd g M s rR X0 7 7 hM 89 x4 x4 W)<|ai (λ(Y:PLift (HHJ s))=>X7 (λw=>Qe _ g 0 w (l3 _ _)) (λw=>ZB _ g 4 w (l3 _ _))<|ai (Yy W prog g 69 (χ.cs (χ.nx (χ.ln s)) rR) M 3 ([Θ (HHn s)]) 4 (Θ (HHn s)) (Qu 3 _ rfl) rfl rfl (L3 rfl) (Lc.1 (rfl:([Θ (HHn s)]:a8).all (λu=>u.oneCell')=true))) λ(u1:Unit)=>Gz (Qm W g 0) (XM W g 0) (Yh W g 1) (QU (w0:=W) (g:=g) (t:=69) (cs:=(χ.cs (χ.nx (χ.ln s)) (zJ s))) (M:=M) (λD H=>YP D 1 H rfl)) (Qm W g 0) (Fq (zJ s) g M (χ.nx (χ.ln s)) (hM.ln (QP Y.down)).nx 99 W)<|ai (λ(y2:PLift (HHC s))=>X7 (Qe W g 0) (ZC W g 4)<|ai (Yy W prog g 69 (χ.cs (χ.nx (χ.nx (χ.ln s))) (zJ s)) M 3 ([Θ (HHv s)]) 5 (Θ (HHv s)) (Qu 3 _ rfl) rfl rfl (L3 rfl) (Lc.1 (rfl:([Θ (HHv s)]:a8).all (λu=>u.oneCell')=true))) λ(u2:Unit)=>k0 (Zb (Qe W g 0) (ZC W g 4) (QU (w0:=W) (g:=g) (t:=69) (cs:=(zH s)) (M:=M) (λD H=>Y7 D 5 H rfl)) (Yo W g 69 (zH s) M (λD x S Q=>have T:=((hM.ln (QP Y.down)).nx).ok x S D Q;YO D ((χ.nx (χ.ln s)).c) 0 T.rd (show 0<_ from y6 ((GF y2.down).1)))) (JE W ((χ.nx (χ.ln s)).A) 2 0 0) (Yo W g 69 (zH s) M (λD x S Q=>have T:=((hM.ln (QP Y.down)).nx).ok x S D Q;C8 D 0 1 T.rd (show 0<_ from y6 ((GF y2.down).1)) x4 rfl)) func73 HHaa<|XA (!(decide ((Xf (Qf (χ.nx (χ.ln s)).l 0).s)>0))) (λhv=>ai (Kc W (HHU s))<|(J8 F (.iface 103 (HHU s)) (Xl Q5 s) (show Xl Q5 s (.iface 103 (Θ ((Qf (χ.nx (χ.ln s)).l 0).a)))from⟨_,vq Y.down y2.down (nt hv),rfl⟩))) λhv=>JH (qV (HHf g)) (Zo (Qh g 69 (zH s) M) (Qh g 69 (χ.cs ((⟨(HHn s),(HHv s).toNat,(χ.nx (χ.nx (χ.ln s)))⟩:Z1).t) (PC.l (PC.P ((⟨(HHn s),(HHv s).toNat,(χ.nx (χ.nx (χ.ln s)))⟩:Z1).δ) (((⟨(HHn s),(HHv s).toNat,(χ.nx (χ.nx (χ.ln s)))⟩:Z1).v:Nat):Int) HHq HHq HHq HHq) false)) M) λ_ _ _ h=>(qd (GF y2.down).2.1 h)) (Yu F)<|(show Z1.Ok (⟨(Lib.idxOfS (List.take 7 X0) (Qf (χ.ln s).l 0).s),(Xf (Qf (χ.nx (χ.ln s)).l 0).s).toNat,(χ.nx (χ.nx (χ.ln s)))⟩:Z1) s M from zN Y.down y2.down (GF y2.down).2 (nf hv) ((hM.ln (QP Y.down)).nx).nx)) λ(z1:Z1) (G:z1.Ok s M)=>ai (iT g M z1.t (PC.P z1.δ 0 HHq HHq HHq HHq) z1.v false G.i (L9 G.v2 x4) W Z)<|ai (λ(d:{y:DmY // y.Ok z1.δ z1.v z1.t M})=>k0 (Zb (Qe W g 0) (ZB W g 4) (QU (w0:=W) (g:=g) (t:=69) (cs:=(rQ d.1 z1)) (M:=d.1.M') (λD H=>Y7 D 4 H rfl)) (Qe W g 0) (ZC W g 4) (QU (w0:=W) (g:=g) (t:=69) (cs:=(rQ d.1 z1)) (M:=d.1.M') (λD H=>Y7 D 5 H rfl)) (pZ z1.δ z1.v W) (qV (HHf g))<|Kr (qI (HHL z1)) (qI ((HHs.1:Nat):Int)) (Zo (Qk (Qh g 69 (rQ d.1 z1) d.1.M') HHK) (Qk (Qh g 69 (χ.cs (χ.pls z1.v HHs.1 d.1.t) (PC.l (PC.P z1.δ (z1.v:Int) (HHR d.1) (HHQ d.1) (Ω HHs.2.1 HHs.1 HHs.2.2) HHq) (ZH z1.v d.1.t false HHs.1))) d.1.M') (Qt 52 2 HHs.1 (ZX z1.v d.1.t) HHs.2.1 HHs.2.2)) λ_ _ _ h=>(by exact BS (λ_ _ _ h=>BA _ _ _ kT _ _ _ _ h) h)) (Yu F) (Yu HHK)<|ai (show PlI (Q2 z1.δ z1.v).toNat z1.v d.1.t d.1.M' 0 from⟨rfl,d.2.i,La _,G.v2,λ_ h=>absurd h (R6 _)⟩) λ(q1:Nat×Hp) (I:PlI (Q2 z1.δ z1.v).toNat z1.v d.1.t d.1.M' q1.1)=>XA (decide ((q1.1:Int)<(((Q2 z1.δ z1.v).toNat:Nat):Int))) (λhl=>JH (KU (Qh g 69 (HHab z1 q1 d.1) d.1.M') (Qt 52 2 q1.1 (ZX z1.v d.1.t) q1.2.1 q1.2.2) PS) (Qm W g 0) (Dd g d.1.M' (HHT z1 q1 d.1) (Mj q1 d.1 z1) ([Vf]) 1 1 I.i 9 x4 x4 W)<|ai (λ(B:PLift (HHo z1 q1 d.1))=>Km (λw=>Qe _ g 0 w (l3 _ _)) (λw=>Jd g 4 w (l3 _ _)) (λw=>Qe _ g 0 w (l3 _ _)) (λw=>ZC _ g 4 w (l3 _ _))<|(k0 (JH (QU (w0:=W) (g:=g) (t:=69) (cs:=(HH6 q1 d.1 z1)) (M:=d.1.M') (λD H=>Js D 8 H rfl)) (QU (w0:=W) (g:=g) (t:=69) (cs:=(HH6 q1 d.1 z1)) (M:=d.1.M') (λD H=>Y7 D 5 H rfl)) (Dq d.1.M' g (Yk q1 d.1 z1) (z8 q1 d.1 z1) (HH2 z1 d.1 q1) z1.v ((I.i.ln (QP B.down)).nx) (L9 G.v2 x4) W Z)<|ai (λ(C:{y:Hp // (Qz z1.v) (Yk q1 d.1 z1).fd=.ok (HHh z1 q1 d.1)})=>ai (Jc g 69 (TW q1 d.1 z1) d.1.M' (Qc 56 4 QG (QI z1.v (Yk q1 d.1 z1)).ts C.1.1 C.1.2) Vd)<|ai (Jh (w0:=W) (ty:=28) (bt:=52) (c:=QG) (pre:=(λi=>[Θ (CR z1.v d.1.t i).vars])) (ls:=(λi=>(CR z1.v d.1.t i).ts)) (A:=q1.2.1) (cp:=q1.2.2) (n:=q1.1) (n':=q1.1+1) (A2:=C.1.1) (cq:=C.1.2) (e2:=56) (k:=4) (cp2:=1) (cs:=(HHF z1 q1 d.1 C.1)) (R3:=(HHu z1 q1 d.1 C.1)) (λ_ _ _ h=>.inl h) Xx (by intro u O;simp only[Ll,Rf,or_false]at O;first|exact O.elim|(rcases O with rfl<;>rfl)) rfl (y7 (QM hl) (Ji z1.δ G.v2)) rfl rfl) λ(q:Hp)=>X7 (λw=>Qe _ g 0 w (l3 _ _)) (λw=>Jd g 4 w (l3 _ _))<|ai (Yy W prog g 69 (TW q1 d.1 z1) d.1.M' 28 (HHZ q q1) 8 (Ω q.1 (q1.1+1) q.2) (Qu 28 _ rfl) rfl rfl (L3 rfl) (HHm q q1)) λ(L:Unit)=>DM (QQ q1.1 (y7 (QM hl) (Ji z1.δ G.v2))) (qV (HHf g)) (qI (HHL z1)) (qI (((q1.1+1):Nat):Int)) (Zo (HHO g z1 q1 d.1 q) (HHg g z1 q1 d.1 q) λ_ _ _ h=>h) (Yu F) (Yu HHK)<|ai (show PlI (Q2 z1.δ z1.v).toNat z1.v d.1.t d.1.M' (q1.1+1)from I.at (QM hl) B.down C.2) (show(Q2 z1.δ z1.v).toNat-(q1.1+1)<(Q2 z1.δ z1.v).toNat-q1.1 from y6 (QM hl))) (X9 F (Xl (Qz z1.v) (Yk q1 d.1 z1)) (Xl Q5 s) λ_ h=>h.imp λ_ h=>⟨(kI G d.2).trans (Q3 (I.trm_e (QM hl) B.down h.1)),h.2⟩)) (ai (QU (w0:=W) (g:=g) (t:=69) (cs:=(HH6 q1 d.1 z1)) (M:=d.1.M') (λD H=>Y7 D 5 H rfl))<|(k0 (X7 (QU (w0:=W) (g:=g) (t:=69) (cs:=(HH6 q1 d.1 z1)) (M:=d.1.M') (λD H=>Js D 8 H rfl)) (Dq d.1.M' g (Yk q1 d.1 z1) (z8 q1 d.1 z1) (HH2 z1 d.1 q1) z1.v ((I.i.ln (QP B.down)).nx) (L9 G.v2 x4) W Z)<|ai (λ(C:{y:Hp // (Qz z1.v) (Yk q1 d.1 z1).fd=.ok (HHh z1 q1 d.1)})=>ai (Jc g 69 (TW q1 d.1 z1) d.1.M' (Qc 56 4 QG (QI z1.v (Yk q1 d.1 z1)).ts C.1.1 C.1.2) Vd)<|ai (Jh (w0:=W) (ty:=28) (bt:=52) (c:=QG) (pre:=(λi=>[Θ (CR z1.v d.1.t i).vars])) (ls:=(λi=>(CR z1.v d.1.t i).ts)) (A:=q1.2.1) (cp:=q1.2.2) (n:=q1.1) (n':=q1.1+1) (A2:=C.1.1) (cq:=C.1.2) (e2:=56) (k:=4) (cp2:=1) (cs:=(HHF z1 q1 d.1 C.1)) (R3:=(HHu z1 q1 d.1 C.1)) (λ_ _ _ h=>.inl h) Xx (by intro u O;simp only[Ll,Rf,or_false]at O;first|exact O.elim|(rcases O with rfl<;>rfl)) rfl (y7 (QM hl) (Ji z1.δ G.v2)) rfl rfl) λ(q:Hp)=>X7 (λw=>Qe _ g 0 w (l3 _ _)) (λw=>Jd g 4 w (l3 _ _))<|ai (Yy W prog g 69 (TW q1 d.1 z1) d.1.M' 28 (HHZ q q1) 8 (Ω q.1 (q1.1+1) q.2) (Qu 28 _ rfl) rfl rfl (L3 rfl) (HHm q q1)) λ(L:Unit)=>DM (QQ q1.1 (y7 (QM hl) (Ji z1.δ G.v2))) (qV (HHf g)) (qI (HHL z1)) (qI (((q1.1+1):Nat):Int)) (Zo (HHO g z1 q1 d.1 q) (HHg g z1 q1 d.1 q) λ_ _ _ h=>h) (Yu F) (Yu HHK)<|ai (show PlI (Q2 z1.δ z1.v).toNat z1.v d.1.t d.1.M' (q1.1+1)from I.at (QM hl) B.down C.2) (show(Q2 z1.δ z1.v).toNat-(q1.1+1)<(Q2 z1.δ z1.v).toNat-q1.1 from y6 (QM hl))) (X9 F (Xl (Qz z1.v) (Yk q1 d.1 z1)) (Xl Q5 s) λ_ h=>h.imp λ_ h=>⟨(kI G d.2).trans (Q3 (I.trm_e (QM hl) B.down h.1)),h.2⟩)) (ai (Dq d.1.M' g (Yk q1 d.1 z1) (z8 q1 d.1 z1) (HH2 z1 d.1 q1) z1.v ((I.i.ln (QP B.down)).nx) (L9 G.v2 x4) W Z)<|ai (λ(C:{y:Hp // (Qz z1.v) (Yk q1 d.1 z1).fd=.ok (HHh z1 q1 d.1)})=>(k0 (X7 (QU (w0:=W) (g:=g) (t:=69) (cs:=(TW q1 d.1 z1)) (M:=(Qk d.1.M' (HHu z1 q1 d.1 C.1))) (λD H=>Js D 8 H rfl)) (Jc g 69 (TW q1 d.1 z1) d.1.M' (Qc 56 4 QG (QI z1.v (Yk q1 d.1 z1)).ts C.1.1 C.1.2) Vd)<|ai (Jh (w0:=W) (ty:=28) (bt:=52) (c:=QG) (pre:=(λi=>[Θ (CR z1.v d.1.t i).vars])) (ls:=(λi=>(CR z1.v d.1.t i).ts)) (A:=q1.2.1) (cp:=q1.2.2) (n:=q1.1) (n':=q1.1+1) (A2:=C.1.1) (cq:=C.1.2) (e2:=56) (k:=4) (cp2:=1) (cs:=(HHF z1 q1 d.1 C.1)) (R3:=(HHu z1 q1 d.1 C.1)) (λ_ _ _ h=>.inl h) Xx (by intro u O;simp only[Ll,Rf,or_false]at O;first|exact O.elim|(rcases O with rfl<;>rfl)) rfl (y7 (QM hl) (Ji z1.δ G.v2)) rfl rfl) λ(q:Hp)=>X7 (λw=>Qe _ g 0 w (l3 _ _)) (λw=>Jd g 4 w (l3 _ _))<|ai (Yy W prog g 69 (TW q1 d.1 z1) d.1.M' 28 (HHZ q q1) 8 (Ω q.1 (q1.1+1) q.2) (Qu 28 _ rfl) rfl rfl (L3 rfl) (HHm q q1)) λ(L:Unit)=>DM (QQ q1.1 (y7 (QM hl) (Ji z1.δ G.v2))) (qV (HHf g)) (qI (HHL z1)) (qI (((q1.1+1):Nat):Int)) (Zo (HHO g z1 q1 d.1 q) (HHg g z1 q1 d.1 q) λ_ _ _ h=>h) (Yu F) (Yu HHK)<|ai (show PlI (Q2 z1.δ z1.v).toNat z1.v d.1.t d.1.M' (q1.1+1)from I.at (QM hl) B.down C.2) (show(Q2 z1.δ z1.v).toNat-(q1.1+1)<(Q2 z1.δ z1.v).toNat-q1.1 from y6 (QM hl))) (X7 (Jc g 69 (TW q1 d.1 z1) d.1.M' (Qc 56 4 QG (QI z1.v (Yk q1 d.1 z1)).ts C.1.1 C.1.2) Vd) (QU (w0:=W) (g:=g) (t:=69) (cs:=(TW q1 d.1 z1)) (M:=d.1.M') (λD H=>Js D 8 H rfl))<|ai (Jh (w0:=W) (ty:=28) (bt:=52) (c:=QG) (pre:=(λi=>[Θ (CR z1.v d.1.t i).vars])) (ls:=(λi=>(CR z1.v d.1.t i).ts)) (A:=q1.2.1) (cp:=q1.2.2) (n:=q1.1) (n':=q1.1+1) (A2:=C.1.1) (cq:=C.1.2) (e2:=56) (k:=4) (cp2:=1) (cs:=(HHF z1 q1 d.1 C.1)) (R3:=(HHu z1 q1 d.1 C.1)) (λ_ _ _ h=>.inl h) Xx (by intro u O;simp only[Ll,Rf,or_false]at O;first|exact O.elim|(rcases O with rfl<;>rfl)) rfl (y7 (QM hl) (Ji z1.δ G.v2)) rfl rfl) λ(q:Hp)=>X7 (λw=>Qe _ g 0 w (l3 _ _)) (λw=>Jd g 4 w (l3 _ _))<|ai (Yy W prog g 69 (TW q1 d.1 z1) d.1.M' 28 (HHZ q q1) 8 (Ω q.1 (q1.1+1) q.2) (Qu 28 _ rfl) rfl rfl (L3 rfl) (HHm q q1)) λ(L:Unit)=>DM (QQ q1.1 (y7 (QM hl) (Ji z1.δ G.v2))) (qV (HHf g)) (qI (HHL z1)) (qI (((q1.1+1):Nat):Int)) (Zo (HHO g z1 q1 d.1 q) (HHg g z1 q1 d.1 q) λ_ _ _ h=>h) (Yu F) (Yu HHK)<|ai (show PlI (Q2 z1.δ z1.v).toNat z1.v d.1.t d.1.M' (q1.1+1)from I.at (QM hl) B.down C.2) (show(Q2 z1.δ z1.v).toNat-(q1.1+1)<(Q2 z1.δ z1.v).toNat-q1.1 from y6 (QM hl))))) (X9 F (Xl (Qz z1.v) (Yk q1 d.1 z1)) (Xl Q5 s) λ_ h=>h.imp λ_ h=>⟨(kI G d.2).trans (Q3 (I.trm_e (QM hl) B.down h.1)),h.2⟩)))))) (X9 F (Xl (Qq HHad) (HHT z1 q1 d.1)) (Xl Q5 s) λ_ h=>h.imp λ_ h=>⟨(kI G d.2).trans (Q3 (I.line_e (QM hl) h.1)),h.2⟩)) λhl=>Km (qV (HHf g)) (Zo (Qk (Qh g 69 (HHab z1 q1 d.1) d.1.M') (HHz q1 z1 d.1)) (Qh g 69 (χ.cs (HH7 z1 q1 d.1) (PC.l (PC.P z1.δ (z1.v:Int) (HHR d.1) (HHQ d.1) (Ω (⟨(HHT z1 q1 d.1),(HH2 z1 d.1 q1),q1.2.1,q1.2.2,KV z1.v d.1.t q1.1,Qk d.1.M' (HHz q1 z1 d.1)⟩:Z2).A (⟨(HHT z1 q1 d.1),(HH2 z1 d.1 q1),q1.2.1,q1.2.2,KV z1.v d.1.t q1.1,Qk d.1.M' (HHz q1 z1 d.1)⟩:Z2).l.length (⟨(HHT z1 q1 d.1),(HH2 z1 d.1 q1),q1.2.1,q1.2.2,KV z1.v d.1.t q1.1,Qk d.1.M' (HHz q1 z1 d.1)⟩:Z2).c) HHq) ((⟨(HHT z1 q1 d.1),(HH2 z1 d.1 q1),q1.2.1,q1.2.2,KV z1.v d.1.t q1.1,Qk d.1.M' (HHz q1 z1 d.1)⟩:Z2).m))) ((⟨(HHT z1 q1 d.1),(HH2 z1 d.1 q1),q1.2.1,q1.2.2,KV z1.v d.1.t q1.1,Qk d.1.M' (HHz q1 z1 d.1)⟩:Z2).M')) λ_ _ _ h=>(pJ (KL Bz h))) (Yu F) (Zo (Qc 52 2 kT ([]:List Unit) none 0) (Qt 52 2 0 (ZX z1.v (HH7 z1 q1 d.1)) none 0) λ_ _ _ h=>(by exact BA _ _ _ kT _ _ _ _ h))<|(show Z2.Ok (⟨(χ.pls z1.v q1.1 d.1.t),(ZH z1.v d.1.t false q1.1),q1.2.1,q1.2.2,KV z1.v d.1.t q1.1,Qk d.1.M' (Qt 52 2 q1.1 (ZX z1.v d.1.t) q1.2.1 q1.2.2)⟩:Z2) z1 d.1 s from zO G d.2 I (K8 hl))) λ(j:Z2) (E:j.Ok z1 d.1 s)=>k0 (Km (qV (HHf g)) (Zo (HH8 g j z1 d.1) (Qh g 69 (χ.cs (χ.pls z1.v HHs.1 j.t) (PC.l (PC.P z1.δ (z1.v:Int) (HHR d.1) (HHQ d.1) (HHM j) (Ω HHs.2.1 HHs.1 HHs.2.2)) (ZH z1.v j.t j.m HHs.1))) j.M') λ_ _ _ h=>h) (Yu F) (Zo (Qt 52 2 0 (ZX z1.v j.t) none 0) (Qt 52 2 HHs.1 (ZX z1.v j.t) HHs.2.1 HHs.2.2) λ_ _ _ h=>h)<|ai (show RuI z1.δ z1.v j.t j.m j.M' 0 from⟨rfl,E.i,Lj _,G.v2,λ_ h=>absurd h (R6 _)⟩) λ(q1:Nat×Hp) (I:RuI z1.δ z1.v j.t j.m j.M' q1.1)=>JH (Qe W g 0) (ZB W g 4) (QU (w0:=W) (g:=g) (t:=69) (cs:=(m3 q1 d.1 z1 j)) (M:=j.M') (λD H=>Y7 D 4 H rfl))<|ZG (z1.δ==4) true (λV=>Kr (Qm W g 0) func76 (λa w=>call76 a w) (XL W g 0) (QU (w0:=W) (g:=g) (t:=69) (cs:=(m3 q1 d.1 z1 j)) (M:=j.M') (λD H=>X8 D 0 H rfl))<|ZG (decide ((((χ.pls z1.v q1.1 j.t).ls.length:Nat):Int)>0)) true (λJ=>Zb (XL W g 0) (QU (w0:=W) (g:=g) (t:=69) (cs:=(m3 q1 d.1 z1 j)) (M:=j.M') (λD H=>X8 D 0 H rfl)) (Yo W g 69 (m3 q1 d.1 z1 j) j.M' (λD x S Q=>have T:=I.i.ok x S D Q;Ka D ((HHB z1 q1 j).c0) 0 T.r0 (Zu J))) (K4 W ((HHB z1 q1 j).A0) 2 0 0) (Yo W g 69 (m3 q1 d.1 z1 j) j.M' (λD x S Q=>have T:=I.i.ok x S D Q;VN D 0 0 T.r0 (Zu J) x4 rfl)) (Yo W g 69 (m3 q1 d.1 z1 j) j.M' (λD x S Q=>have T:=I.i.ok x S D Q;YO D ((HHB z1 q1 j).cl 0) 0 (T.rl 0 (Zu J)) (DZ I.i (Zu J)))) (Dy W ((HHB z1 q1 j).Al 0) 2 0 0) (Yo W g 69 (m3 q1 d.1 z1 j) j.M' (λD x S Q=>have T:=I.i.ok x S D Q;BG D 0 0 (T.rl 0 (Zu J)) (DZ I.i (Zu J)) x4 rfl))<|ai (FP W (.tmp 21) (.tmp 22) ((Qf (Xj (HHB z1 q1 j).ls 0).l 0).s) ⟨#[114,117,108,101]⟩)<|XA (decide (((Qf (Xj (χ.pls z1.v q1.1 j.t).ls 0).l 0).s)=⟨#[114,117,108,101]⟩)) (λX=>X7 (Qm W g 0) (Dd g j.M' (HHB z1 q1 j) (PC.l (wN q1 d.1 z1 j) (ZH z1.v j.t j.m q1.1)) ([XJ]) 1 1 I.i 9 x4 x4 W)<|ai (λ(B:PLift (HHp z1 q1 j))=>Km (λw=>Qe _ g 0 w (l3 _ _)) (λw=>Je g 4 w (l3 _ _)) (λw=>Qe _ g 0 w (l3 _ _)) (λw=>ZC _ g 4 w (l3 _ _))<|(k0 (JH (QU (w0:=W) (g:=g) (t:=69) (cs:=(mZ q1 d.1 z1 j)) (M:=j.M') (λD H=>Js D 9 H rfl)) (QU (w0:=W) (g:=g) (t:=69) (cs:=(mZ q1 d.1 z1 j)) (M:=j.M') (λD H=>Y7 D 5 H rfl)) (Dq j.M' g (Ym q1 z1 j) (wN q1 d.1 z1 j) (ZH z1.v j.t j.m q1.1) z1.v ((I.i.ln (QP B.down)).nx) (L9 G.v2 x4) W Z)<|ai (λ(C:{y:Hp // (Qz z1.v) (Ym q1 z1 j).fd=.ok (HHi z1 q1 j)})=>ai (Jc g 69 (TX q1 d.1 z1 j) j.M' (Qc 56 4 QG (QI z1.v (Ym q1 z1 j)).ts C.1.1 C.1.2) Vd)<|ai (Jh (w0:=W) (ty:=28) (bt:=52) (c:=QG) (pre:=(λi=>[Θ (CR z1.v j.t i).vars])) (ls:=(λi=>(CR z1.v j.t i).ts)) (A:=q1.2.1) (cp:=q1.2.2) (n:=q1.1) (n':=q1.1+1) (A2:=C.1.1) (cq:=C.1.2) (e2:=56) (k:=4) (cp2:=1) (cs:=(HHG z1 q1 j C.1)) (R3:=(HHt z1 q1 j C.1)) (λ_ _ _ h=>.inl h) Xx (by intro u O;simp only[Ll,Rf,or_false]at O;first|exact O.elim|(rcases O with rfl<;>rfl)) rfl (y6 (I.lt E.i.f.n)) rfl rfl) λ(q:Hp)=>X7 (λw=>Qe _ g 0 w (l3 _ _)) (λw=>Je g 4 w (l3 _ _))<|ai (Yy W prog g 69 (TX q1 d.1 z1 j) j.M' 28 (HHZ q q1) 9 (Ω q.1 (q1.1+1) q.2) (Qu 28 _ rfl) rfl rfl (L3 rfl) (HHm q q1)) λ(L:Unit)=>Km (qV (HHf g)) (Zo (Qh g 69 (HHd z1 q1 j d.1 q) j.M') (HHk g z1 q1 j d.1 q) λ_ _ _ h=>h) (Yu F) (Zo (HHP q1 z1 j q) (HHP q1 z1 j q) λ_ _ _ h=>h)<|ai (show RuI z1.δ z1.v j.t j.m j.M' (q1.1+1)from I.at E.i.f.n V (Dx J X) B.down C.2) (show(χ.pls z1.v (q1.1+1) j.t).ls.length<(χ.pls z1.v q1.1 j.t).ls.length from by have h1:=I.n;have h2:=(I.at E.i.f.n V (Dx J X) B.down C.2).n;omega)) (X9 F (Xl (Qz z1.v) (Ym q1 z1 j)) (Xl Q5 s) λ_ h=>h.imp λ_ h=>⟨qr E (I.trm_e E.i.f.n V (Dx J X) B.down h.1),h.2⟩)) (ai (QU (w0:=W) (g:=g) (t:=69) (cs:=(mZ q1 d.1 z1 j)) (M:=j.M') (λD H=>Y7 D 5 H rfl))<|(k0 (X7 (QU (w0:=W) (g:=g) (t:=69) (cs:=(mZ q1 d.1 z1 j)) (M:=j.M') (λD H=>Js D 9 H rfl)) (Dq j.M' g (Ym q1 z1 j) (wN q1 d.1 z1 j) (ZH z1.v j.t j.m q1.1) z1.v ((I.i.ln (QP B.down)).nx) (L9 G.v2 x4) W Z)<|ai (λ(C:{y:Hp // (Qz z1.v) (Ym q1 z1 j).fd=.ok (HHi z1 q1 j)})=>ai (Jc g 69 (TX q1 d.1 z1 j) j.M' (Qc 56 4 QG (QI z1.v (Ym q1 z1 j)).ts C.1.1 C.1.2) Vd)<|ai (Jh (w0:=W) (ty:=28) (bt:=52) (c:=QG) (pre:=(λi=>[Θ (CR z1.v j.t i).vars])) (ls:=(λi=>(CR z1.v j.t i).ts)) (A:=q1.2.1) (cp:=q1.2.2) (n:=q1.1) (n':=q1.1+1) (A2:=C.1.1) (cq:=C.1.2) (e2:=56) (k:=4) (cp2:=1) (cs:=(HHG z1 q1 j C.1)) (R3:=(HHt z1 q1 j C.1)) (λ_ _ _ h=>.inl h) Xx (by intro u O;simp only[Ll,Rf,or_false]at O;first|exact O.elim|(rcases O with rfl<;>rfl)) rfl (y6 (I.lt E.i.f.n)) rfl rfl) λ(q:Hp)=>X7 (λw=>Qe _ g 0 w (l3 _ _)) (λw=>Je g 4 w (l3 _ _))<|ai (Yy W prog g 69 (TX q1 d.1 z1 j) j.M' 28 (HHZ q q1) 9 (Ω q.1 (q1.1+1) q.2) (Qu 28 _ rfl) rfl rfl (L3 rfl) (HHm q q1)) λ(L:Unit)=>Km (qV (HHf g)) (Zo (Qh g 69 (HHd z1 q1 j d.1 q) j.M') (HHk g z1 q1 j d.1 q) λ_ _ _ h=>h) (Yu F) (Zo (HHP q1 z1 j q) (HHP q1 z1 j q) λ_ _ _ h=>h)<|ai (show RuI z1.δ z1.v j.t j.m j.M' (q1.1+1)from I.at E.i.f.n V (Dx J X) B.down C.2) (show(χ.pls z1.v (q1.1+1) j.t).ls.length<(χ.pls z1.v q1.1 j.t).ls.length from by have h1:=I.n;have h2:=(I.at E.i.f.n V (Dx J X) B.down C.2).n;omega)) (X9 F (Xl (Qz z1.v) (Ym q1 z1 j)) (Xl Q5 s) λ_ h=>h.imp λ_ h=>⟨qr E (I.trm_e E.i.f.n V (Dx J X) B.down h.1),h.2⟩)) (ai (Dq j.M' g (Ym q1 z1 j) (wN q1 d.1 z1 j) (ZH z1.v j.t j.m q1.1) z1.v ((I.i.ln (QP B.down)).nx) (L9 G.v2 x4) W Z)<|ai (λ(C:{y:Hp // (Qz z1.v) (Ym q1 z1 j).fd=.ok (HHi z1 q1 j)})=>(k0 (X7 (QU (w0:=W) (g:=g) (t:=69) (cs:=(TX q1 d.1 z1 j)) (M:=(Qk j.M' (HHt z1 q1 j C.1))) (λD H=>Js D 9 H rfl)) (Jc g 69 (TX q1 d.1 z1 j) j.M' (Qc 56 4 QG (QI z1.v (Ym q1 z1 j)).ts C.1.1 C.1.2) Vd)<|ai (Jh (w0:=W) (ty:=28) (bt:=52) (c:=QG) (pre:=(λi=>[Θ (CR z1.v j.t i).vars])) (ls:=(λi=>(CR z1.v j.t i).ts)) (A:=q1.2.1) (cp:=q1.2.2) (n:=q1.1) (n':=q1.1+1) (A2:=C.1.1) (cq:=C.1.2) (e2:=56) (k:=4) (cp2:=1) (cs:=(HHG z1 q1 j C.1)) (R3:=(HHt z1 q1 j C.1)) (λ_ _ _ h=>.inl h) Xx (by intro u O;simp only[Ll,Rf,or_false]at O;first|exact O.elim|(rcases O with rfl<;>rfl)) rfl (y6 (I.lt E.i.f.n)) rfl rfl) λ(q:Hp)=>X7 (λw=>Qe _ g 0 w (l3 _ _)) (λw=>Je g 4 w (l3 _ _))<|ai (Yy W prog g 69 (TX q1 d.1 z1 j) j.M' 28 (HHZ q q1) 9 (Ω q.1 (q1.1+1) q.2) (Qu 28 _ rfl) rfl rfl (L3 rfl) (HHm q q1)) λ(L:Unit)=>Km (qV (HHf g)) (Zo (Qh g 69 (HHd z1 q1 j d.1 q) j.M') (HHk g z1 q1 j d.1 q) λ_ _ _ h=>h) (Yu F) (Zo (HHP q1 z1 j q) (HHP q1 z1 j q) λ_ _ _ h=>h)<|ai (show RuI z1.δ z1.v j.t j.m j.M' (q1.1+1)from I.at E.i.f.n V (Dx J X) B.down C.2) (show(χ.pls z1.v (q1.1+1) j.t).ls.length<(χ.pls z1.v q1.1 j.t).ls.length from by have h1:=I.n;have h2:=(I.at E.i.f.n V (Dx J X) B.down C.2).n;omega)) (X7 (Jc g 69 (TX q1 d.1 z1 j) j.M' (Qc 56 4 QG (QI z1.v (Ym q1 z1 j)).ts C.1.1 C.1.2) Vd) (QU (w0:=W) (g:=g) (t:=69) (cs:=(TX q1 d.1 z1 j)) (M:=j.M') (λD H=>Js D 9 H rfl))<|ai (Jh (w0:=W) (ty:=28) (bt:=52) (c:=QG) (pre:=(λi=>[Θ (CR z1.v j.t i).vars])) (ls:=(λi=>(CR z1.v j.t i).ts)) (A:=q1.2.1) (cp:=q1.2.2) (n:=q1.1) (n':=q1.1+1) (A2:=C.1.1) (cq:=C.1.2) (e2:=56) (k:=4) (cp2:=1) (cs:=(HHG z1 q1 j C.1)) (R3:=(HHt z1 q1 j C.1)) (λ_ _ _ h=>.inl h) Xx (by intro u O;simp only[Ll,Rf,or_false]at O;first|exact O.elim|(rcases O with rfl<;>rfl)) rfl (y6 (I.lt E.i.f.n)) rfl rfl) λ(q:Hp)=>X7 (λw=>Qe _ g 0 w (l3 _ _)) (λw=>Je g 4 w (l3 _ _))<|ai (Yy W prog g 69 (TX q1 d.1 z1 j) j.M' 28 (HHZ q q1) 9 (Ω q.1 (q1.1+1) q.2) (Qu 28 _ rfl) rfl rfl (L3 rfl) (HHm q q1)) λ(L:Unit)=>Km (qV (HHf g)) (Zo (Qh g 69 (HHd z1 q1 j d.1 q) j.M') (HHk g z1 q1 j d.1 q) λ_ _ _ h=>h) (Yu F) (Zo (HHP q1 z1 j q) (HHP q1 z1 j q) λ_ _ _ h=>h)<|ai (show RuI z1.δ z1.v j.t j.m j.M' (q1.1+1)from I.at E.i.f.n V (Dx J X) B.down C.2) (show(χ.pls z1.v (q1.1+1) j.t).ls.length<(χ.pls z1.v q1.1 j.t).ls.length from by have h1:=I.n;have h2:=(I.at E.i.f.n V (Dx J X) B.down C.2).n;omega)))) (X9 F (Xl (Qz z1.v) (Ym q1 z1 j)) (Xl Q5 s) λ_ h=>h.imp λ_ h=>⟨qr E (I.trm_e E.i.f.n V (Dx J X) B.down h.1),h.2⟩)))))) (X9 F (Xl (Qq HHac) (HHB z1 q1 j)) (Xl Q5 s) λ_ h=>h.imp λ_ h=>⟨qr E (I.line_e E.i.f.n V (Dx J X) h.1),h.2⟩)) λX=>Km (qV (HHf g)) (Zo (Qh g 69 (m3 q1 d.1 z1 j) j.M') (HHb g z1 q1 j d.1) λ_ _ _ h=>(OC h)) (Yu F) (Zo (HH4 q1 z1 j) (HHE z1 q1 j) λ_ _ _ h=>h)<|(show Z2.Ok3 (⟨(χ.pls z1.v q1.1 j.t),(ZH z1.v j.t j.m q1.1),q1.2.1,q1.2.2,KV z1.v j.t q1.1,Qt 52 2 q1.1 (ZX z1.v j.t) q1.2.1 q1.2.2⟩:Z2) j z1 d.1 s from m6 E I (.inr ⟨V,xp J X⟩))) λJ=>Km (qV (HHf g)) (Zo (Qh g 69 (m3 q1 d.1 z1 j) j.M') (HHb g z1 q1 j d.1) λ_ _ _ h=>(OC h)) (Yu F) (Zo (HH4 q1 z1 j) (HHE z1 q1 j) λ_ _ _ h=>h)<|(show Z2.Ok3 (⟨(χ.pls z1.v q1.1 j.t),(ZH z1.v j.t j.m q1.1),q1.2.1,q1.2.2,KV z1.v j.t q1.1,Qt 52 2 q1.1 (ZX z1.v j.t) q1.2.1 q1.2.2⟩:Z2) j z1 d.1 s from m6 E I (.inr ⟨V,xo J⟩))) λV=>Km (qV (HHf g)) (Zo (Qh g 69 (m3 q1 d.1 z1 j) j.M') (HHb g z1 q1 j d.1) λ_ _ _ h=>(OC h)) (Yu F) (Zo (HH4 q1 z1 j) (HHE z1 q1 j) λ_ _ _ h=>h)<|(show Z2.Ok3 (⟨(χ.pls z1.v q1.1 j.t),(ZH z1.v j.t j.m q1.1),q1.2.1,q1.2.2,KV z1.v j.t q1.1,Qt 52 2 q1.1 (ZX z1.v j.t) q1.2.1 q1.2.2⟩:Z2) j z1 d.1 s from m6 E I (.inl V))) λ(r:Z2) (K:r.Ok3 j z1 d.1 s)=>Km (λ(x:z0) (S:Nat->Prop) (w:y9) (h:(Qk (Qh g 69 (rP d.1 z1 j r) j.M') r.M').φ x S w)=>KL K.f h) (Qe W g 0) (ZB W g 4) (QU (w0:=W) (g:=g) (t:=69) (cs:=(rP d.1 z1 j r)) (M:=(Qk j.M' r.M')) (λD H=>Y7 D 4 H rfl))<|XA (z1.δ==6) (λh6=>ai (ph g (Qk j.M' r.M') r.t (⟨PC.P z1.δ z1.v HHq HHq (HHM j) (HHV r),d.1.A1,d.1.bx.length,d.1.c1,d.1.A2,d.1.κ.length,d.1.c2⟩:NX) r.m (K.i.up (Up.pair j.M' r.M')) (L9 d.2.n1 (L9 G.v2 x4)) (L9 d.2.n2 (L9 (Si G.v2) x4)) W Z)<|ai (λ(B:{y:NdY // y.Ok (⟨PC.P z1.δ z1.v HHq HHq (HHM j) (HHV r),d.1.A1,d.1.bx.length,d.1.c1,d.1.A2,d.1.κ.length,d.1.c2⟩:NX) r.m r.t (Qk j.M' r.M')})=>X7 (Qm W g 0) (NL g B.1.M' B.1.t (HHa z1 d.1 j r B.1) B.2.i W)<|ai (λ(C:PLift (HH3 B.1))=>JH (Qm W g 0) (XL W g 0) (QU (w0:=W) (g:=g) (t:=69) (cs:=(HH1 B.1 z1 d.1 j r)) (M:=B.1.M') (λD H=>X8 D 0 H rfl))<|XA (decide ((B.1.t.ls.length:Int)>0)) (λU=>Zb (Qm W g 0) (XL W g 0) (QU (w0:=W) (g:=g) (t:=69) (cs:=(HH1 B.1 z1 d.1 j r)) (M:=B.1.M') (λD H=>X8 D 0 H rfl)) (Yo W g 69 (HH1 B.1 z1 d.1 j r) B.1.M' (λD x S Q=>have T:=B.2.i.ok x S D Q;Ka D B.1.t.c0 0 T.r0 (Zu U))) (K4 W B.1.t.A0 2 0 0) (Yo W g 69 (HH1 B.1 z1 d.1 j r) B.1.M' (λD x S Q=>have T:=B.2.i.ok x S D Q;VN D 0 0 T.r0 (Zu U) x4 rfl)) (Yo W g 69 (HH1 B.1 z1 d.1 j r) B.1.M' (λD x S Q=>have T:=B.2.i.ok x S D Q;YO D (B.1.t.cl 0) 0 (T.rl 0 (Zu U)) (DZ B.2.i (Zu U)))) (JE W (B.1.t.Al 0) 2 0 0)<|Km (Yo W g 69 (HH1 B.1 z1 d.1 j r) B.1.M' (λD x S Q=>have T:=B.2.i.ok x S D Q;C8 D 0 1 (T.rl 0 (Zu U)) (DZ B.2.i (Zu U)) x4 rfl)) func73 HHaa (Kc W (HHX B.1))<|(J8 F (.iface 103 (HHX B.1)) (Xl Q5 s) (show Xl Q5 s (.iface 103 (Θ ((Qf (Xj B.1.t.ls 0).l 0).a)))from⟨_,(K.e.trans ((OG h6).trans ((Qv B.2.e).trans (Q3 (jF C.down U (DZ B.2.i (Zu U))))))),rfl⟩))) λU=>(Zs (F:=F) (v:=.tuple #[]) (val:=λ_:{y:PrY // y.Ok s M}=>Value.tuple #[]) (R1:=Qh g 69 (HH1 B.1 z1 d.1 j r) B.1.M') (R:=λy:{y:PrY // y.Ok s M}=>Qh g 69 (χ.cs y.1.t (PC.l ⟨y.1.pv.δ,y.1.pv.vars,y.1.vb,y.1.vs,y.1.vp,y.1.vr,y.1.pv.ν,y.1.pv.ε,y.1.pv.ζ,y.1.vc⟩ y.1.m)) y.1.M') ⟨⟨B.1.t,⟨z1.δ,z1.v,d.1.bx,d.1.κ,j.l,r.l,nm0,nm0,0,B.1.l⟩,B.1.m,Ω d.1.A1 d.1.bx.length d.1.c1,Ω d.1.A2 d.1.κ.length d.1.c2,Ω j.A j.l.length j.c,Ω r.A r.l.length r.c,Ω B.1.A B.1.l.length B.1.c,B.1.M'⟩,⟨(K.e.trans ((OG h6).trans ((Qv B.2.e).trans (Qv (jG C.down U))))),(bA d.2.b d.2.s E.p K.p B.2.c E.u ((Up.pair _ _).trans B.2.u) ((Up.snd _ _).trans B.2.u) (Up.refl _)),kv G d.2 E.n E.o K.n K.o RN RN B.2.n B.2.o⟩⟩ rfl λ_ _ _ h=>h)) (X9 F (Xl XK B.1.t) (Xl Q5 s) λ_ h=>h.imp λ_ h=>⟨(K.e.trans ((OG h6).trans ((Qv B.2.e).trans (Q3 (Q3 h.1))))),h.2⟩)) (X9 F (Xl (XO (Vn d.1.bx.length d.1.κ.length) 70000 1 [] r.m) r.t) (Xl Q5 s) λ_ h=>h.imp λ_ h=>⟨K.e.trans ((OG h6).trans (Q3 h.1)),h.2⟩)) λh6=>ai (zz g (Qk j.M' r.M') r.t (PC.P z1.δ z1.v (HHR d.1) (HHQ d.1) (HHM j) (HHV r)) r.m (K.i.up (Up.pair j.M' r.M')) W Z)<|ai (λ(B:PLift (HHl z1 r j))=>X7 (Qm W g 0) (NL g (Qk j.M' r.M') (HHr z1 r) (PC.l ⟨z1.δ,(z1.v:Int),Ω d.1.A1 d.1.bx.length d.1.c1,Ω d.1.A2 d.1.κ.length d.1.c2,Ω j.A j.l.length j.c,Ω r.A r.l.length r.c,(JA r.t),(Jz (z1.δ==4) r.t),(G0 (z1.δ==4) r.t),x01⟩ r.m) B.down.2.1 W)<|ai (λ(C:PLift (HHY z1 r))=>JH (Qm W g 0) (XL W g 0) (QU (w0:=W) (g:=g) (t:=69) (cs:=(rS d.1 z1 j r)) (M:=(Qk j.M' r.M')) (λD H=>X8 D 0 H rfl))<|XA (decide ((((XS (z1.δ==4) r.t).ls.length:Nat):Int)>0)) (λU=>Zb (Qm W g 0) (XL W g 0) (QU (w0:=W) (g:=g) (t:=69) (cs:=(rS d.1 z1 j r)) (M:=(Qk j.M' r.M')) (λD H=>X8 D 0 H rfl)) (Yo W g 69 (rS d.1 z1 j r) (Qk j.M' r.M') (λD x S Q=>have T:=B.down.2.1.ok x S D Q;Ka D ((HHr z1 r).c0) 0 T.r0 (Zu U))) (K4 W ((HHr z1 r).A0) 2 0 0) (Yo W g 69 (rS d.1 z1 j r) (Qk j.M' r.M') (λD x S Q=>have T:=B.down.2.1.ok x S D Q;VN D 0 0 T.r0 (Zu U) x4 rfl)) (Yo W g 69 (rS d.1 z1 j r) (Qk j.M' r.M') (λD x S Q=>have T:=B.down.2.1.ok x S D Q;YO D ((HHr z1 r).cl 0) 0 (T.rl 0 (Zu U)) (DZ B.down.2.1 (Zu U)))) (JE W ((HHr z1 r).Al 0) 2 0 0)<|Km (Yo W g 69 (rS d.1 z1 j r) (Qk j.M' r.M') (λD x S Q=>have T:=B.down.2.1.ok x S D Q;C8 D 0 1 (T.rl 0 (Zu U)) (DZ B.down.2.1 (Zu U)) x4 rfl)) func73 HHaa (Kc W (HHW z1 r))<|(J8 F (.iface 103 (HHW z1 r)) (Xl Q5 s) (show Xl Q5 s (.iface 103 (Θ ((Qf (Xj (XS (z1.δ==4) r.t).ls 0).l 0).a)))from⟨_,(K.e.trans ((OH h6).trans ((Qv B.down.1).trans (Q3 (jF C.down U (DZ B.down.2.1 (Zu U))))))),rfl⟩))) λU=>(Zs (F:=F) (v:=.tuple #[]) (val:=λ_:{y:PrY // y.Ok s M}=>Value.tuple #[]) (R1:=Qh g 69 (rS d.1 z1 j r) (Qk j.M' r.M')) (R:=λy:{y:PrY // y.Ok s M}=>Qh g 69 (χ.cs y.1.t (PC.l ⟨y.1.pv.δ,y.1.pv.vars,y.1.vb,y.1.vs,y.1.vp,y.1.vr,y.1.pv.ν,y.1.pv.ε,y.1.pv.ζ,y.1.vc⟩ y.1.m)) y.1.M') ⟨⟨(HHr z1 r),⟨z1.δ,z1.v,d.1.bx,d.1.κ,j.l,r.l,JA r.t,Jz (z1.δ==4) r.t,G0 (z1.δ==4) r.t,[]⟩,r.m,Ω d.1.A1 d.1.bx.length d.1.c1,Ω d.1.A2 d.1.κ.length d.1.c2,Ω j.A j.l.length j.c,Ω r.A r.l.length r.c,x01,(Qk j.M' r.M')⟩,⟨(K.e.trans ((OH h6).trans ((Qv B.down.1).trans (Qv (jG C.down U))))),(bA d.2.b d.2.s E.p K.p (wl _) E.u ((Up.pair _ _).trans (Up.refl _)) ((Up.snd _ _).trans (Up.refl _)) (Up.refl _)),kv G d.2 E.n E.o K.n K.o B.down.2.2.1 B.down.2.2.2 (La _) (λ_ h=>nomatch h)⟩⟩ rfl λ_ _ _ h=>h)) (X9 F (Xl XK (HHr z1 r)) (Xl Q5 s) λ_ h=>h.imp λ_ h=>⟨(K.e.trans ((OH h6).trans ((Qv B.down.1).trans (Q3 (Q3 h.1))))),h.2⟩)) (X9 F (Xl (K1 z1.δ) r.t) (Xl Q5 s) λ_ h=>h.imp λ_ h=>⟨K.e.trans ((OH h6).trans (Q3 h.1)),h.2⟩)) (X9 F (Xl (J7 z1.δ z1.v) z1.t) (Xl Q5 s) λ_ h=>h.imp λ_ h=>⟨QaG G h.1,h.2⟩)) (X9 F (Xl (QL 99) (χ.nx (χ.ln s))) (Xl Q5 s) λ_ h=>h.imp λ_ h=>⟨vo Y.down h.1,h.2⟩)) (X9 F (Xl (Qq (List.take 7 X0)) s) (Xl Q5 s) λ_ h=>h.imp λ_ h=>⟨vn h.1,h.2⟩)) λF=>x5
