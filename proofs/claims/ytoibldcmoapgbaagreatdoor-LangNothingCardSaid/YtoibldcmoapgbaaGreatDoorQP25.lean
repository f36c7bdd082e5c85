/- Laws beneath the statement. -/
import Derived.Test.YtoibldcmoapgbaaGreatDoorQP22
import Derived.Test.YtoibldcmoapgbaaGreatDoorQP23
import Derived.Test.YtoibldcmoapgbaaGreatDoorQP24
namespace Go.Proofs.YtoibldcmoapgbaaGreatDoor
open Tryz
set_option maxHeartbeats 4000000
set_option maxRecDepth 100000
open Go Go.RowKit
variable{w:World}{g i j:Nat}{xs:Nat->Nat->Dyadic}
theorem mU(z:Int)(W:y9): b9 prog 97 #[.agg #[.bool (neg z),.string (Qx z)]] W (.int .i64 (JZ z)):=by
 have c:=VD (Qx z) (neg z) W;rw[Xg]at c;exact c
theorem vW{z:Int}(h:z≠0): (JZ z != 0)=true:=by
 unfold JZ;rcases Ue z 0 with a|a|a
 ·rw[if_pos a];rfl
 ·exact absurd a h
 ·rw[if_neg x3,if_neg x3];rfl
theorem gX(b n c k:Nat)(g:Nat)(z:Int)(w:World)(u:k<n)(l:w.cell? ⟨g,0,none⟩=some (.int .i64 (k:Nat)))(m:w.cell? ⟨b,k*2,none⟩=some (.bool (neg z)))(o:w.cell? ⟨b,k*2+1,none⟩=some (.string (Qx z))):
  Calls prog 169 #[.slice (some ⟨b,0,none⟩) n c,.pointer (some ⟨g,0,none⟩)] w λe p=>(z=0->e=.returned (.bool false))/\(z≠0->e=.returned (.bool true))/\Below w.heap.size w p:=by
 have cS:=hV (mU z w);have q:(k:Int)<(n:Int):=x3;have r:(0:Int)<=(k:Int):=x3;go_enter func169,ntmps169
 go_wp2_with fail
 refine cS.out.mono ?_
 rintro e v ⟨rfl,i⟩;have j:=hV i;clear i cS l m o;by_cases a:z=0
 ·have d:JZ z=0:=by rw[a];rfl
  have f:=hV a;clear a;rw[d];go_wp2
  go_ret
  exact⟨λ_=>rfl,λh=>absurd f.out h,j.out⟩
 ·have d:=vW a;have f:=hV a;clear a;generalize JZ z=s at *;have t:¬ s=0:=y8 d;go_wp2
  go_ret
  exact⟨λh=>absurd h f.out,λ_=>rfl,j.out⟩
theorem jp(base top g n k m G:Nat)(z cs:Nat->Nat)(M:Nat->Nat->Int)(v a:Nat)(w:World)(o:k+m=n)(U:0<m)(H:n<=1000)(V:a<=m)(A:∀j,j<a->M (k+j) k=0)(B:a<m->M (k+a) k≠0)(C:TabI w base top g n 242 30 z cs M)(d:top<=w.heap.size)(I:w.cell? ⟨v,0,none⟩=some (.int .i64 (k:Nat))):
  b9 prog 168 #[.slice (some ⟨g,k,none⟩) m G,.func (Fn.func 169) #[] #[.pointer (some ⟨v,0,none⟩)]] w (.int .i64 (if a<m then(a:Int)else -1)):=by
 have K:=hV A;have L:=hV B;have N:=hV C;have x:=hV (k0 o (k0 H d));have O:m<=1000:=x3;clear A B C o d;go_enter func168,ntmps168
 go_wp2_with fail
 go_loopw [8] (λi wr=>∃q:Nat,q<=a/\i=.int .i64 (q:Nat)/\Below w.heap.size w wr) (λi _=>m-(intOf i).toNat)
 case atStart=>exact⟨0,La _,rfl,l3 _ _⟩
 case round =>
  obtain⟨q,P,rfl,p⟩:=hrel;by_cases y:q<m
  ·have f:=N.out.later p x.out.2.2;have b:k+q<n:=y6 x.out;have W:=(f.row b).1;have c:k<n:=y6 x.out;obtain⟨D,E,_,_⟩:=f.at b c;have u:=hV (gX (z (k+q)) n (cs (k+q)) k v (M (k+q) k) wr c (Ld p I) D E);have r:(q:Int)<(m:Int):=x3;have Q:(0:Int)<=(q:Int):=x3;have F:=hV p;have R:=hV (k0 b c);clear f D E p b c;by_cases S:q=a
   ·subst S;go_wp2_with fail
    refine u.out.mono ?_
    rintro e T ⟨_,s,t⟩;obtain rfl:=s (L.out y);have l:=nxt F.out t;clear t s u;go_wp2
    go_ret
    exact⟨rfl,l⟩
   ·go_wp2_with fail
    refine u.out.mono ?_
    rintro e T ⟨s,_,t⟩;obtain rfl:=s (K.out q x3);have l:=nxt F.out t;clear t s u;go_wp2
    exact⟨⟨q+1,x3,by go_num,l⟩,by simp[intOf];omega⟩
  ·obtain rfl:q=m:=x3;obtain rfl:q=a:=x3;have r:¬(q:Int)<(q:Int):=x3;go_wp2
   go_ret
   exact⟨x6,p⟩
theorem yY{s t:u4}{b c:Bool}(h:Bx w g 30 #[.bool b,.string s,.bool c,.string t]): xh w (some ⟨g,0,none⟩) 2 (λj=>if j=0 then b else c) (λj=>if j=0 then s else t):=λ_ =>
 ⟨g,0,rfl,λj d=>by
  have a:j=0\/j=1:=x3;rcases a with rfl|rfl
  ·exact⟨h.cel 0,h.cel 1⟩
  ·exact⟨h.cel 2,h.cel 3⟩⟩
theorem dX{x y:Int}(W:y9)(b:Zq x<=134217728)(c:Zq y<=134217728)(h:Bx W g 30 #[.bool (neg x),.string (Qx x),.bool (neg y),.string (Qx y)]):
  b9 prog 170 #[.slice (some ⟨g,0,none⟩) 2 2] W (.agg #[.bool (neg (x*y)),.string (Qx (x*y))]):=by
 have h:=mT _ 2 2 _ _ 134217728 W x4 x4 (λj=>by split<;>(rw[XF];assumption)) x4 (yY h)
 have e:Kt (λj=>Qi (if j=0 then neg x else neg y) (Qa (if j=0 then Qx x else Qx y))) 2=x*y:=by
  show(1*Qi (neg x) (Qa (Qx x)))*Qi (neg y) (Qa (Qx y))=_;rw[Int.one_mul,Xg,Xg]
 rwa [e]at h
theorem rK{x y:Int}(W:y9)(a:Zq x<=536870912)(b:Zq y<=536870912):
  b9 prog 130 #[.agg #[.bool (neg x),.string (Qx x)],.agg #[.bool (neg y),.string (Qx y)]] W (.agg #[.bool (neg (x-y)),.string (Qx (x-y))]):=by
 have c:=IV (Qx x) (Qx y) (neg x) (neg y) W (by rw[XF];exact a) (by rw[XF];exact b);rw[Xg,Xg]at c;exact c
theorem rG(x:Int)(W:y9): b9 prog 172 #[.agg #[.bool (neg x),.string (Qx x)]] W (.agg #[.bool (neg (-x)),.string (Qx (-x))]):=by
 have c:=IU (Qx x) (neg x) W;rw[Xg]at c;exact c
theorem TabI.far2{base top n:Nat}{e a:u6}{c cs:Nat->Nat}{M:Nat->Nat->Int}(h:TabI w base top g n e a c cs M){b:Nat}(d:top<=b)(u v:z0): TabI ((w.setCell ⟨b,i,none⟩ u).setCell ⟨b,j,none⟩ v) base top g n e a c cs M:=(h.far (p:=⟨b,i,none⟩) d u).far (p:=⟨b,j,none⟩) d v
theorem z6{B:Nat}{a:y9}(h:Below B a w)(b:B<=g)(u v:z0): Below B a ((w.setCell ⟨g,i,none⟩ u).setCell ⟨g,j,none⟩ v):=(h.setCell b u).setCell b v
theorem Pa(base g n c S:Nat)(cA cC:Nat->Nat)(M0:Nat->Nat->Int)(w:World)(hn:0<n)(bX:n<=4)(hS:256*(S+3)<=100000000)(cq:1<=S)(cr:∀i j,i<n->j<n->Zq (M0 i j)<=S)(bd:base<=w.heap.size)(fb:n<=c)(ht:TabI w base w.heap.size g n 242 30 cA cC M0):
  Calls prog 126 #[.slice (some ⟨g,0,none⟩) n c] w λe w'=>e=.returned (.agg #[.bool (neg (JJ n M0)),.string (Qx (JJ n M0))])/\Below base w w':=by
 have HS:=hV (k0 hS (k0 cq cr));have P:=hV bd;have cD:=hV (BInv.start cq cr);have cO:=hV (λW=>Dv 1 W x4 x4);clear hS cq cr bd;go_enter func126,ntmps126
 have X2:=Bx.new w 30 #[.bool false,.string ⟨#[]⟩];have o:=ht.later (b1 w (.cells #[.bool false,.string ⟨#[]⟩] 30)) (L8 _);have r:=b1 w (.cells #[.bool false,.string ⟨#[]⟩] 30);clear ht;go_wp2_with fail
 generalize w.alloc (.cells #[.bool false,.string ⟨#[]⟩] 30)=w0 at *;refine(cO.out _).mono ?_
 rintro e w1 ⟨rfl,V⟩;replace o:=o.later V (y6 r.size);replace X2:=X2.later V;replace r:=nxt r V;clear V cO w0;have L4:=X2.lt;have X4:=Bx.new w1 30 #[.bool (neg (1)),.string (Qx (1))];replace o:=o.later (b1 w1 (.cells #[.bool (neg (1)),.string (Qx (1))] 30)) x3;replace X2:=X2.alloc (.cells #[.bool (neg (1)),.string (Qx (1))] 30);replace r:=Vp r (.cells #[.bool (neg (1)),.string (Qx (1))] 30);have K:=hV (k0 o (k0 X2 (k0 X4 (k0 (r.mono P.out) L4))));clear o X2 X4 r L4;go_wp2_with fail
 obtain⟨o,X2,X4,r,L4⟩:=K.out;clear K;generalize w1.alloc (.cells #[.bool (neg (1)),.string (Qx (1))] 30)=w2 at *;generalize w1.heap.size=Y at *;have ct:=hV L4;clear L4;go_loopw [5,15] (λt i wr=>∃(k:Nat) (M:Nat->Nat->Int) (Z cs:Nat->Nat) (l:Int) (tb:Bool),k<=n/\i=.int .i64 (k:Nat)/\t=.bool tb/\TabI wr base w.heap.size g n 242 30 Z cs M/\Bx wr w.heap.size 30 #[.bool false,.string ⟨#[]⟩]/\Bx wr Y 30 #[.bool (neg l),.string (Qx l)]/\Below base w wr/\Hid (BInv n S M0 k M l tb)) (λ_ i _=>n-(RowKit.intOf i).toNat)
 case atStart=>exact⟨0,M0,cA,cC,1,false,La _,rfl,rfl,o,X2,X4,r,cD⟩
 case round =>
  clear o X2 X4 r cD;obtain⟨k,M,Z,cs,l,tb,hk,rfl,rfl,o,p,s,r,HI⟩:=hrel;by_cases H:k<n
  ·have ao:(k:Int)<(n:Int):=x3;have aB:(0:Int)<=(k:Int):=x3;have fc:(k:Int)<=(n:Int):=x3;have fl:¬ c=k:=x3;obtain⟨I,df,h1,h2⟩:=fe M k (n-k);have y:=Bx.new wr 3 #[.int .i64 (k:Nat)];have L2:=p.lt;have L5:=s.lt;replace o:=o.later (b1 wr (.cells #[.int .i64 (k:Nat)] 3)) x3;replace p:=p.alloc (.cells #[.int .i64 (k:Nat)] 3);replace s:=s.alloc (.cells #[.int .i64 (k:Nat)] 3);replace r:=QE r (b1 wr (.cells #[.int .i64 (k:Nat)] 3)) (y6 P.out);have K:=hV (k0 o (k0 p (k0 s (k0 y (k0 r (k0 L2 L5))))));clear o p s y r L2 L5;go_upto_region 6 with(fail)
   obtain⟨o,p,s,y,r,L2,L5⟩:=K.out;clear K;generalize wr.alloc (.cells #[.int .i64 (k:Nat)] 3)=w1 at *;generalize wr.heap.size=g6 at *;have U:=p.lt;have c1:=hV (jp base w.heap.size g n k (n-k) (c-k) Z cs M g6 I w1 x3 x3 x3 df h1 h2 o x3 (y.cel 0));have HP:=hV (k0 h1 h2);obtain⟨p1,_⟩:=y.k1;have HL:=hV (k0 L2 L5);have K:=hV (k0 o (k0 p (k0 s (k0 y r))));clear o p s y r h1 h2 U L2 L5;by_cases hp:I<n-k
   ·rw[if_pos hp]at c1;have es:¬(I:Int)<0:=x3;go_wp2_with fail
    refine c1.out.mono ?_
    rintro e w3 ⟨rfl,V⟩;obtain⟨o,p,s,y,r⟩:=K.out;have U:=p.lt;replace o:=o.later V x3;replace p:=p.later V;replace s:=s.later V;replace y:=y.later V;replace r:=QE r V (y6 P.out);clear V K U;clear c1 p1;have K:=hV (k0 o (k0 p (k0 s (k0 y r))));clear o p s y r;go_upto_if 27 with(fail)
    go_cut [5] (λs5 wx=>∃(z O:Nat->Nat),s5=.bool (if k+I=k then tb else !tb)/\TabI wx base w.heap.size g n 242 30 z O (λi j=>M (GB k (k+I) i) j)/\Bx wx w.heap.size 30 #[.bool false,.string ⟨#[]⟩]/\Bx wx Y 30 #[.bool (neg l),.string (Qx l)]/\Bx wx g6 3 #[.int .i64 (k:Nat)]/\Below base w wx)
    case first =>
     by_cases h0:I=0
     ·have dn:¬(0:Int)<(I:Int):=x3;have H0:=hV h0;clear h0;go_wp2_with fail
      go_meet
      obtain⟨o,p,s,y,r⟩:=K.out;obtain rfl:=H0.out;exact⟨Z,cs,x6,o.congr (λi j _ _=>by rw[Sw,TA]),p,s,y,r⟩
     ·have dn:(0:Int)<(I:Int):=x3;have fp:(k:Int)+(I:Int)<(n:Int):=x3;have ex:(0:Int)<=(k:Int)+(I:Int):=x3;have ey:(k:Int)+(I:Int)<=8:=x3;have fr:((k:Int)+(I:Int)).toNat=k+I:=x3;obtain⟨o,p,s,y,r⟩:=K.out;have cd:k+I<n:=x3;obtain⟨r1,r2⟩:=o.row H;obtain⟨r3,r4⟩:=o.row cd;obtain⟨p1,_⟩:=y.k1;have bY:=o.tb.2;have dp:=HL.out.1;have cf:¬ g6=g:=x3;have cF:¬ g=g6:=x3;have hw:IntKind.i64.wrap ((k:Int)+(I:Int))=(k:Int)+(I:Int):=Lg _ x3;have dr:¬ k+I=k:=x3;clear o p s y r bY dp;go_upto_region 10 with(fail)
      go_region
      obtain⟨o,p,s,y,r⟩:=K.out;have bY:=o.tb;have bi:=ct.out;have X:=P.out;have ad:TabI ((w3.setCell ⟨g,k,none⟩ (.slice (some ⟨Z (k+I),0,none⟩) n (cs (k+I)))).setCell ⟨g,k+I,none⟩ (.slice (some ⟨Z k,0,none⟩) n (cs k))).drew base w.heap.size g n 242 30 (λi=>Z (GB k (k+I) i)) (λi=>cs (GB k (k+I) i)) (λi j=>M (GB k (k+I) i) j):=(o.swap H cd).keep λ_ _=>rfl
      have ae:Bx ((w3.setCell ⟨g,k,none⟩ (.slice (some ⟨Z (k+I),0,none⟩) n (cs (k+I)))).setCell ⟨g,k+I,none⟩ (.slice (some ⟨Z k,0,none⟩) n (cs k))).drew w.heap.size 30 #[.bool false,.string ⟨#[]⟩]:=(p.far2 x3 _ _).drew;have ag:Bx ((w3.setCell ⟨g,k,none⟩ (.slice (some ⟨Z (k+I),0,none⟩) n (cs (k+I)))).setCell ⟨g,k+I,none⟩ (.slice (some ⟨Z k,0,none⟩) n (cs k))).drew Y 30 #[.bool (neg l),.string (Qx l)]:=(s.far2 x3 _ _).drew;have bk:Bx ((w3.setCell ⟨g,k,none⟩ (.slice (some ⟨Z (k+I),0,none⟩) n (cs (k+I)))).setCell ⟨g,k+I,none⟩ (.slice (some ⟨Z k,0,none⟩) n (cs k))).drew g6 3 #[.int .i64 (k:Nat)]:=(y.far2 cf _ _).drew;have al:Below base w ((w3.setCell ⟨g,k,none⟩ (.slice (some ⟨Z (k+I),0,none⟩) n (cs (k+I)))).setCell ⟨g,k+I,none⟩ (.slice (some ⟨Z k,0,none⟩) n (cs k))).drew:=(z6 r bY.1 _ _).drew;generalize ((w3.setCell ⟨g,k,none⟩ (.slice (some ⟨Z (k+I),0,none⟩) n (cs (k+I)))).setCell ⟨g,k+I,none⟩ (.slice (some ⟨Z k,0,none⟩) n (cs k))).drew=w4 at *;have dx:=hV (k0 ad (k0 ae (k0 ag (k0 bk al))));clear ad ae ag bk al o p s y r bY bi X r1 r2 r3 r4 p1 cf cF;have cG:(if k+I=k then tb else !tb)=!tb:=if_neg dr;have dT:=hV cG;clear cG;go_wp2_with fail
      go_meet
      obtain⟨o,p,s,y,r⟩:=dx.out;exact⟨_,_,by rw[dT.out],o,p,s,y,r⟩
    case rest =>
     clear K;obtain⟨z,O,rfl,o,p,s,y,r⟩:=hcut;obtain⟨b,ca⟩:∃x,x=(λi j=>M (GB k (k+I) i) j):=⟨_,rfl⟩
     rw[<- ca]at o;have cL:M (k+I) k≠0:=HP.out.2 hp;have cM:Hid ((∀i j,k<i->i<n->k<j->j<n->(b i j*b k k-b i k*b k j) % l=0)/\BInv n S M0 (k+1) (AX k l b) (b k k) (if k+I=k then tb else !tb)):=hV (by
      have h3:=HI.out.step bX H (show k<=k+I by omega) x3 cL;rw[ca];refine⟨h3.1,?_⟩;show BInv n S M0 (k+1) _ (M (GB k (k+I) k) k) _;rw[l8];exact h3.2)
     have Q:Hid (∀i j,i<n->j<n->Zq (b i j)<=100000000):=hV λi j hi hj=>by
      rw[ca];exact l9 x3 HS.out.1 (HI.out.sm _ _ (Ki H x3 hi) hj)
     have cR:Hid (Zq l<=100000000/\l≠0):=hV ⟨l9 x3 HS.out.1 HI.out.sl,HI.out.ne⟩;clear ca cL HP HI;generalize (if k+I=k then tb else !tb)=tb2 at *;obtain⟨w5,ea⟩:∃x,x=wc:=⟨_,rfl⟩
     subst ea;obtain⟨p1,_⟩:=y.k1;have K:=hV (k0 o (k0 p (k0 s (k0 y r))));clear o p s y r;go_wp2_with fail
     obtain⟨o,p,s,y,r⟩:=K.out;clear K;clear p1;go_loopw [8] (λi wr=>∃ii:Nat,k<ii/\ii<=n/\i=.int .i64 (ii:Nat)/\TabI wr base w.heap.size g n 242 30 z O (JT k l b ii (k+1))/\Bx wr w.heap.size 30 #[.bool false,.string ⟨#[]⟩]/\Bx wr Y 30 #[.bool (neg l),.string (Qx l)]/\Bx wr g6 3 #[.int .i64 (k:Nat)]/\Below base w wr) (λi _=>n-(RowKit.intOf i).toNat)
     case atStart=>exact⟨k+1,x3,x3,by go_num,o.congr (λi j _ _=>PG k l b i j),p,s,y,r⟩
     case round =>
      clear o p s y r;obtain⟨ii,ch,fs,rfl,o,p,s,y,r⟩:=hrel;by_cases J:ii<n
      ·have cb:(ii:Int)<(n:Int):=x3;have cu:(0:Int)<=(ii:Int):=x3;obtain⟨p1,_⟩:=y.k1;have K:=hV (k0 o (k0 p (k0 s (k0 y r))));clear o p s y r;go_wp2_with fail
       obtain⟨o,p,s,y,r⟩:=K.out;clear K;clear p1;obtain⟨wo,eb⟩:∃x,x=wr:=⟨_,rfl⟩
       subst eb;go_loopw [9] (λi wr=>∃f:Nat,k<f/\f<=n/\i=.int .i64 (f:Nat)/\TabI wr base w.heap.size g n 242 30 z O (JT k l b ii f)/\Bx wr w.heap.size 30 #[.bool false,.string ⟨#[]⟩]/\Bx wr Y 30 #[.bool (neg l),.string (Qx l)]/\Bx wr g6 3 #[.int .i64 (k:Nat)]/\Below base w wr) (λi _=>n-(RowKit.intOf i).toNat)
       case atStart=>exact⟨k+1,x3,x3,by go_num,o,p,s,y,r⟩
       case round =>
        clear o p s y r;obtain⟨f,cj,fv,rfl,o,p,s,y,r⟩:=hrel;by_cases L:f<n
        ·have cc:(f:Int)<(n:Int):=x3;have bl:(0:Int)<=(f:Int):=x3;have r1:=(o.row J).1;have r2:=(o.row H).1;obtain⟨a1,a2,_,_⟩:=o.at J L;obtain⟨b1,b2,_,_⟩:=o.at H H;obtain⟨c1,c2,_,_⟩:=o.at J H;obtain⟨d1,d2,_,_⟩:=o.at H L;rw[i6]at a1 a2;rw[eO]at b1 b2 c1 c2;rw[eR]at d1 d2;have U:=p.lt;have cU:=hV U;have K:=hV (k0 o (k0 p (k0 s r)));clear o p s r U;go_upto_region 18 with(fail)
         refine Gp [62,63,64,65,66,67,68,69,70,71,72,73,74,75,76,77,78,79,80,81,82,83,84,85,86,87,88,89,90,91,92,93,94,10] [.eq (.slice (some ⟨g,0,none⟩) n c),.eq (.int .i64 (ii:Nat)),.eq (.pointer (some ⟨g,ii,none⟩)),.eq (.slice (some ⟨z ii,0,none⟩) n (O ii)),.eq (.int .i64 (f:Nat)),.eq (.pointer (some ⟨z ii,f*2,none⟩)),.eq (.agg #[.bool (neg (b ii f)),.string (Qx (b ii f))]),.eq (.slice (some ⟨g,0,none⟩) n c),.eq (.int .i64 (k:Nat)),.eq (.pointer (some ⟨g,k,none⟩)),.eq (.slice (some ⟨z k,0,none⟩) n (O k)),.eq (.int .i64 (k:Nat)),.eq (.pointer (some ⟨z k,k*2,none⟩)),.eq (.agg #[.bool (neg (b k k)),.string (Qx (b k k))]),.sli wr.heap.size 30 2 #[.bool (neg (b ii f)),.string (Qx (b ii f)),.bool (neg (b k k)),.string (Qx (b k k))],.eq (.agg #[.bool (neg ((b ii f*b k k))),.string (Qx ((b ii f*b k k)))]),.eq (.slice (some ⟨g,0,none⟩) n c),.eq (.int .i64 (ii:Nat)),.eq (.pointer (some ⟨g,ii,none⟩)),.eq (.slice (some ⟨z ii,0,none⟩) n (O ii)),.eq (.int .i64 (k:Nat)),.eq (.pointer (some ⟨z ii,k*2,none⟩)),.eq (.agg #[.bool (neg (b ii k)),.string (Qx (b ii k))]),.eq (.slice (some ⟨g,0,none⟩) n c),.eq (.int .i64 (k:Nat)),.eq (.pointer (some ⟨g,k,none⟩)),.eq (.slice (some ⟨z k,0,none⟩) n (O k)),.eq (.int .i64 (f:Nat)),.eq (.pointer (some ⟨z k,f*2,none⟩)),.eq (.agg #[.bool (neg (b k f)),.string (Qx (b k f))]),.sli wr.heap.size 30 2 #[.bool (neg (b ii k)),.string (Qx (b ii k)),.bool (neg (b k f)),.string (Qx (b k f))],.eq (.agg #[.bool (neg ((b ii k*b k f))),.string (Qx ((b ii k*b k f)))]),.eq (.agg #[.bool (neg ((b ii f*b k k-b ii k*b k f))),.string (Qx ((b ii f*b k k-b ii k*b k f)))]),.ptr wr.heap.size 30 #[.bool false,.string ⟨#[]⟩]] 120 x5 (by exact λ_ _ _ _ _ h=>h) x5 (by rfl) ?hop ?htail
         case hop =>
          intro A R;have C:A.tmps.size=120:=by rw[R];rfl
          have q0:A.tmps.getD 0 undef=.slice (some ⟨g,0,none⟩) n c:=by rw[R];rfl
          have q8:A.tmps.getD 8 undef=.int .i64 (ii:Nat):=by rw[R];rfl
          have q9:A.tmps.getD 9 undef=.int .i64 (f:Nat):=by rw[R];rfl
          have q6:A.tmps.getD 6 undef=.pointer (some ⟨g6,0,none⟩):=by rw[R];rfl
          clear R;refine⟨?_,?_,?_,?_,?_,?_,?_,?_,?_,?_,?_,?_,?_,?_,?_,?_,?_,?_,?_,?_,?_,?_,?_,?_,?_,?_,?_,?_,?_,?_,?_,?_,?_,?_,trivial⟩
          ·refine Jl C λu W F G D E B d m=>?_
           exact Q9 _ rfl rfl d (by simp[go_sem,B 0 rfl rfl q0]) rfl
          ·refine Jl C λu W F G D E B d m=>?_
           exact Q9 _ rfl rfl d (by simp[go_sem,B 8 rfl rfl q8]) rfl
          ·refine Jl C λu W F G D E B d m=>?_
           exact Q9 _ rfl rfl d (by simp[go_sem,E 62 0 rfl rfl (m 0 rfl),E 63 1 rfl rfl (m 1 rfl),cb,cu]) rfl
          ·refine Jl C λu W F G D E B d m=>?_
           exact Q9 _ rfl rfl d (by simp[go_sem,E 64 2 rfl rfl (m 2 rfl),Ld d r1]) rfl
          ·refine Jl C λu W F G D E B d m=>?_
           exact Q9 _ rfl rfl d (by simp[go_sem,B 9 rfl rfl q9]) rfl
          ·refine Jl C λu W F G D E B d m=>?_
           exact Q9 _ rfl rfl d (by simp[go_sem,E 65 3 rfl rfl (m 3 rfl),E 66 4 rfl rfl (m 4 rfl),cc,bl]) rfl
          ·refine Jl C λu W F G D E B d m=>?_
           exact Q9 _ rfl rfl d (by simp[go_sem,E 67 5 rfl rfl (m 5 rfl),Ld d a1,Ld d a2]) rfl
          ·refine Jl C λu W F G D E B d m=>?_
           exact Q9 _ rfl rfl d (by simp[go_sem,B 0 rfl rfl q0]) rfl
          ·refine Jl C λu W F G D E B d m=>?_
           exact Q9 _ rfl rfl d (by simp[go_sem,B 6 rfl rfl q6,(y.later d).cel]) rfl
          ·refine Jl C λu W F G D E B d m=>?_
           exact Q9 _ rfl rfl d (by simp[go_sem,E 69 7 rfl rfl (m 7 rfl),E 70 8 rfl rfl (m 8 rfl),ao,aB]) rfl
          ·refine Jl C λu W F G D E B d m=>?_
           exact Q9 _ rfl rfl d (by simp[go_sem,E 71 9 rfl rfl (m 9 rfl),Ld d r2]) rfl
          ·refine Jl C λu W F G D E B d m=>?_
           exact Q9 _ rfl rfl d (by simp[go_sem,B 6 rfl rfl q6,(y.later d).cel]) rfl
          ·refine Jl C λu W F G D E B d m=>?_
           exact Q9 _ rfl rfl d (by simp[go_sem,E 72 10 rfl rfl (m 10 rfl),E 73 11 rfl rfl (m 11 rfl),ao,aB]) rfl
          ·refine Jl C λu W F G D E B d m=>?_
           exact Q9 _ rfl rfl d (by simp[go_sem,E 74 12 rfl rfl (m 12 rfl),Ld d b1,Ld d b2]) rfl
          ·refine Jl C λu W F G D E B d m=>?_
           exact PW _ _ rfl (by simp[go_sem,E 68 6 rfl rfl (m 6 rfl),E 75 13 rfl rfl (m 13 rfl)]) (Vp d _) ⟨_,rfl,DN d,Bx.new _ _ _⟩ rfl
          ·refine Jl C λu W F G D E B d m=>?_
           obtain⟨gf,ej,eS,cV⟩:=m 14 rfl;exact PU rfl rfl (by simp[go_sem,D,E 76 14 rfl rfl ej]) (dX W (L9 (Q.out _ _ J L) x4) (L9 (Q.out _ _ H H) x4) cV) d (λ_ _=>rfl)
          ·refine Jl C λu W F G D E B d m=>?_
           exact Q9 _ rfl rfl d (by simp[go_sem,B 0 rfl rfl q0]) rfl
          ·refine Jl C λu W F G D E B d m=>?_
           exact Q9 _ rfl rfl d (by simp[go_sem,B 8 rfl rfl q8]) rfl
          ·refine Jl C λu W F G D E B d m=>?_
           exact Q9 _ rfl rfl d (by simp[go_sem,E 78 16 rfl rfl (m 16 rfl),E 79 17 rfl rfl (m 17 rfl),cb,cu]) rfl
          ·refine Jl C λu W F G D E B d m=>?_
           exact Q9 _ rfl rfl d (by simp[go_sem,E 80 18 rfl rfl (m 18 rfl),Ld d r1]) rfl
          ·refine Jl C λu W F G D E B d m=>?_
           exact Q9 _ rfl rfl d (by simp[go_sem,B 6 rfl rfl q6,(y.later d).cel]) rfl
          ·refine Jl C λu W F G D E B d m=>?_
           exact Q9 _ rfl rfl d (by simp[go_sem,E 81 19 rfl rfl (m 19 rfl),E 82 20 rfl rfl (m 20 rfl),ao,aB]) rfl
          ·refine Jl C λu W F G D E B d m=>?_
           exact Q9 _ rfl rfl d (by simp[go_sem,E 83 21 rfl rfl (m 21 rfl),Ld d c1,Ld d c2]) rfl
          ·refine Jl C λu W F G D E B d m=>?_
           exact Q9 _ rfl rfl d (by simp[go_sem,B 0 rfl rfl q0]) rfl
          ·refine Jl C λu W F G D E B d m=>?_
           exact Q9 _ rfl rfl d (by simp[go_sem,B 6 rfl rfl q6,(y.later d).cel]) rfl
          ·refine Jl C λu W F G D E B d m=>?_
           exact Q9 _ rfl rfl d (by simp[go_sem,E 85 23 rfl rfl (m 23 rfl),E 86 24 rfl rfl (m 24 rfl),ao,aB]) rfl
          ·refine Jl C λu W F G D E B d m=>?_
           exact Q9 _ rfl rfl d (by simp[go_sem,E 87 25 rfl rfl (m 25 rfl),Ld d r2]) rfl
          ·refine Jl C λu W F G D E B d m=>?_
           exact Q9 _ rfl rfl d (by simp[go_sem,B 9 rfl rfl q9]) rfl
          ·refine Jl C λu W F G D E B d m=>?_
           exact Q9 _ rfl rfl d (by simp[go_sem,E 88 26 rfl rfl (m 26 rfl),E 89 27 rfl rfl (m 27 rfl),cc,bl]) rfl
          ·refine Jl C λu W F G D E B d m=>?_
           exact Q9 _ rfl rfl d (by simp[go_sem,E 90 28 rfl rfl (m 28 rfl),Ld d d1,Ld d d2]) rfl
          ·refine Jl C λu W F G D E B d m=>?_
           exact PW _ _ rfl (by simp[go_sem,E 84 22 rfl rfl (m 22 rfl),E 91 29 rfl rfl (m 29 rfl)]) (Vp d _) ⟨_,rfl,DN d,Bx.new _ _ _⟩ rfl
          ·refine Jl C λu W F G D E B d m=>?_
           obtain⟨gm,ek,fa,cZ⟩:=m 30 rfl;exact PU rfl rfl (by simp[go_sem,D,E 92 30 rfl rfl ek]) (dX W (L9 (Q.out _ _ J H) x4) (L9 (Q.out _ _ H L) x4) cZ) d (λ_ _=>rfl)
          ·refine Jl C λu W F G D E B d m=>?_
           exact PU rfl rfl (by simp[go_sem,D,E 77 15 rfl rfl (m 15 rfl),E 93 31 rfl rfl (m 31 rfl)]) (rK W (L9 (ZZ (Q.out _ _ J L) (Q.out _ _ H H)) x4) (L9 (ZZ (Q.out _ _ J H) (Q.out _ _ H L)) x4)) d (λ_ _=>rfl)
          ·refine Jl C λu W F G D E B d m=>?_
           exact PW _ _ rfl (by simp[go_sem]) (Vp d _) ⟨_,rfl,DN d,Bx.new _ _ _⟩ rfl
         case htail =>
         intro u w6 d hP _;have da:u 32=.agg #[.bool (neg ((b ii f*b k k-b ii k*b k f))),.string (Qx ((b ii f*b k k-b ii k*b k f)))]:=hP 32 x4;obtain⟨N,dc,aw,cl⟩:=hP 33 x4;simp only[KB,Act.put,Ru,Tf,U9,Rc,Sl,Nat.reduceAdd,U3,List.drop_zero,da,dc];obtain⟨o,p,s,r⟩:=K.out;have l2:=p.lt;have l4:=s.lt;have l6:=y.lt;have X:=P.out;replace o:=o.later d x3;replace p:=p.later d;replace s:=s.later d;replace y:=y.later d;replace r:=QE r d x3;have bs:=cl;clear hP d da dc cl r1 r2 a1 a2 b1 b2 c1 c2 d1 d2 K;obtain⟨q1,q2,q3,q4⟩:=bs.two;have K:=hV (k0 o (k0 p (k0 s (k0 y (k0 r (k0 l2 (k0 l4 (k0 l6 aw))))))));clear o p s y r l2 l4 l6 aw X;go_upto_region 19 with(fail)
         obtain⟨o,p,s,y,r,l2,l4,l6,aw⟩:=K.out;have X:=P.out;replace o:TabI ((w6.setCell ⟨N,0,none⟩ (.bool (neg ((b ii f*b k k-b ii k*b k f))))).setCell ⟨N,1,none⟩ (.string (Qx ((b ii f*b k k-b ii k*b k f))))) base w.heap.size g n 242 30 z O (JT k l b ii f):=o.far2 x3 _ _;replace p:Bx ((w6.setCell ⟨N,0,none⟩ (.bool (neg ((b ii f*b k k-b ii k*b k f))))).setCell ⟨N,1,none⟩ (.string (Qx ((b ii f*b k k-b ii k*b k f))))) w.heap.size 30 #[.bool false,.string ⟨#[]⟩]:=p.far2 x3 _ _;replace s:Bx ((w6.setCell ⟨N,0,none⟩ (.bool (neg ((b ii f*b k k-b ii k*b k f))))).setCell ⟨N,1,none⟩ (.string (Qx ((b ii f*b k k-b ii k*b k f))))) Y 30 #[.bool (neg l),.string (Qx l)]:=s.far2 x3 _ _;replace y:Bx ((w6.setCell ⟨N,0,none⟩ (.bool (neg ((b ii f*b k k-b ii k*b k f))))).setCell ⟨N,1,none⟩ (.string (Qx ((b ii f*b k k-b ii k*b k f))))) g6 3 #[.int .i64 (k:Nat)]:=y.far2 x3 _ _;replace bs:Bx ((w6.setCell ⟨N,0,none⟩ (.bool (neg ((b ii f*b k k-b ii k*b k f))))).setCell ⟨N,1,none⟩ (.string (Qx ((b ii f*b k k-b ii k*b k f))))) N 30 #[.bool (neg ((b ii f*b k k-b ii k*b k f))),.string (Qx ((b ii f*b k k-b ii k*b k f)))]:=bs.set2 _ _;replace r:Below base w ((w6.setCell ⟨N,0,none⟩ (.bool (neg ((b ii f*b k k-b ii k*b k f))))).setCell ⟨N,1,none⟩ (.string (Qx ((b ii f*b k k-b ii k*b k f))))):=z6 r x3 _ _;generalize ((w6.setCell ⟨N,0,none⟩ (.bool (neg ((b ii f*b k k-b ii k*b k f))))).setCell ⟨N,1,none⟩ (.string (Qx ((b ii f*b k k-b ii k*b k f)))))=w7 at *;clear K q1 q2 q3 q4 l2 l4 l6 aw X;have r1:=(o.row J).1;have K:=hV (k0 o (k0 p (k0 y r)));clear o p y r;have en:Hid (Zq (b ii f*b k k-b ii k*b k f)<=536870912):=hV (L9 (F2 (ZZ (Q.out _ _ J L) (Q.out _ _ H H)) (ZZ (Q.out _ _ J H) (Q.out _ _ H L))) x4);refine CP [96,97,98,99,100,101,102,103,95,104,105,106,107] [.eq (.slice (some ⟨g,0,none⟩) n c),.eq (.int .i64 (ii:Nat)),.eq (.pointer (some ⟨g,ii,none⟩)),.eq (.slice (some ⟨z ii,0,none⟩) n (O ii)),.eq (.int .i64 (f:Nat)),.eq (.agg #[.bool (neg ((b ii f*b k k-b ii k*b k f))),.string (Qx ((b ii f*b k k-b ii k*b k f)))]),.eq (.agg #[.bool (neg l),.string (Qx l)]),.eq (.tuple #[.agg #[.bool (neg ((b ii f*b k k-b ii k*b k f) / l)),.string (Qx ((b ii f*b k k-b ii k*b k f) / l))],.agg #[.bool (neg ((b ii f*b k k-b ii k*b k f) % l)),.string (Qx ((b ii f*b k k-b ii k*b k f) % l))],.bool true]),.eq (.tuple #[.agg #[.bool (neg ((b ii f*b k k-b ii k*b k f) / l)),.string (Qx ((b ii f*b k k-b ii k*b k f) / l))],.agg #[.bool (neg ((b ii f*b k k-b ii k*b k f) % l)),.string (Qx ((b ii f*b k k-b ii k*b k f) % l))],.bool true]),.eq (.agg #[.bool (neg ((b ii f*b k k-b ii k*b k f) / l)),.string (Qx ((b ii f*b k k-b ii k*b k f) / l))]),.eq (.agg #[.bool (neg ((b ii f*b k k-b ii k*b k f) % l)),.string (Qx ((b ii f*b k k-b ii k*b k f) % l))]),.eq (.bool true),.eq (.pointer (some ⟨z ii,f*2,none⟩))] [10,11] 120 x5 (by exact λ_ _ _ _ _ h=>h) x5 (by rfl) ?hop ?hlate ?htail
         case hop =>
          intro A R;have C:A.tmps.size=120:=by rw[R];rfl
          have q0:A.tmps.getD 0 undef=.slice (some ⟨g,0,none⟩) n c:=by rw[R];rfl
          have q8:A.tmps.getD 8 undef=.int .i64 (ii:Nat):=by rw[R];rfl
          have q9:A.tmps.getD 9 undef=.int .i64 (f:Nat):=by rw[R];rfl
          have eo:A.tmps.getD 10 undef=.pointer (some ⟨N,0,none⟩):=by rw[R];rfl
          have q4:A.tmps.getD 4 undef=.pointer (some ⟨Y,0,none⟩):=by rw[R];rfl
          clear R;refine⟨?_,?_,?_,?_,?_,?_,?_,?_,?_,?_,?_,?_,?_,trivial⟩
          ·refine Jl C λu W F G D E B d m=>?_
           exact Q9 _ rfl rfl d (by simp[go_sem,B 0 rfl rfl q0]) rfl
          ·refine Jl C λu W F G D E B d m=>?_
           exact Q9 _ rfl rfl d (by simp[go_sem,B 8 rfl rfl q8]) rfl
          ·refine Jl C λu W F G D E B d m=>?_
           exact Q9 _ rfl rfl d (by simp[go_sem,E 96 0 rfl rfl (m 0 rfl),E 97 1 rfl rfl (m 1 rfl),cb,cu]) rfl
          ·refine Jl C λu W F G D E B d m=>?_
           exact Q9 _ rfl rfl d (by simp[go_sem,E 98 2 rfl rfl (m 2 rfl),Ld d r1]) rfl
          ·refine Jl C λu W F G D E B d m=>?_
           exact Q9 _ rfl rfl d (by simp[go_sem,B 9 rfl rfl q9]) rfl
          ·refine Jl C λu W F G D E B d m=>?_
           exact Q9 _ rfl rfl d (by simp[go_sem,B 10 rfl rfl eo,(bs.later d).cel]) rfl
          ·refine Jl C λu W F G D E B d m=>?_
           exact Q9 _ rfl rfl d (by simp[go_sem,B 4 rfl rfl q4,(s.later d).cel]) rfl
          ·refine Jl C λu W F G D E B d m=>?_
           exact PU rfl rfl (by simp[go_sem,D,E 101 5 rfl rfl (m 5 rfl),E 102 6 rfl rfl (m 6 rfl)]) (rF W en.out (L9 cR.out.1 x4) cR.out.2 (cM.out.1 ii f ch J cj L)) d (λ_ _=>rfl)
          ·refine Jl C λu W F G D E B d m=>?_
           exact Q9 _ rfl rfl d (by simp[go_sem,E 103 7 rfl rfl (m 7 rfl)]) rfl
          ·refine Jl C λu W F G D E B d m=>?_
           exact Q9 _ rfl rfl d (by simp[go_sem,E 95 8 rfl rfl (m 8 rfl)]) rfl
          ·refine Jl C λu W F G D E B d m=>?_
           exact Q9 _ rfl rfl d (by simp[go_sem,E 95 8 rfl rfl (m 8 rfl)]) rfl
          ·refine Jl C λu W F G D E B d m=>?_
           exact Q9 _ rfl rfl d (by simp[go_sem,E 95 8 rfl rfl (m 8 rfl)]) rfl
          ·refine Jl C λu W F G D E B d m=>?_
           exact Q9 _ rfl rfl d (by simp[go_sem,E 99 3 rfl rfl (m 3 rfl),E 100 4 rfl rfl (m 4 rfl),cc,bl]) rfl
         case hlate =>
          intro A R;have C:A.tmps.size=120:=by rw[R];rfl
          clear R;refine⟨trivial,trivial,trivial,trivial,trivial,trivial,trivial,trivial,trivial,trivial,⟨rfl,?_⟩,⟨rfl,?_⟩,trivial,trivial⟩
          ·intro u W m;have cy:=DT (a:=A) (ds:=[96,97,98,99,100,101,102,103,95,104,105,106,107]) (u:=u) (k:=95) (i:=8) (by rw[C];decide) rfl (m 8 x4);generalize (Ah A [96,97,98,99,100,101,102,103,95,104,105,106,107] u).eval=F at *;exact⟨_,rfl,λw=>(by simp[go_sem,cy]),rfl⟩
          ·intro u W m;have cy:=DT (a:=A) (ds:=[96,97,98,99,100,101,102,103,95,104,105,106,107]) (u:=u) (k:=95) (i:=8) (by rw[C];decide) rfl (m 8 x4);generalize (Ah A [96,97,98,99,100,101,102,103,95,104,105,106,107] u).eval=F at *;exact⟨_,rfl,λw=>(by simp[go_sem,cy]),rfl⟩
         case htail =>
         intro u w8 d hP _;have cm:u 9=.agg #[.bool (neg ((b ii f*b k k-b ii k*b k f) / l)),.string (Qx ((b ii f*b k k-b ii k*b k f) / l))]:=hP 9 x4;have cn:u 12=.pointer (some ⟨z ii,f*2,none⟩):=hP 12 x4;simp only[KB,Act.put,Ru,Tf,U9,Rc,Sl,Nat.reduceAdd,U3,List.drop_zero,cm,cn];obtain⟨o,p,y,r⟩:=K.out;have l2:=p.lt;have l4:=s.lt;have X:=P.out;have hl:=HL.out;have bi:=ct.out;replace o:=o.later d x3;replace p:=p.later d;replace s:=s.later d;replace y:=y.later d;replace r:=QE r d x3;clear hP d cm cn r1 K bs;obtain⟨q1,q2,q3,q4⟩:=o.at J L;have R:=o.rb ii J;have ad:TabI ((w8.setCell ⟨z ii,f*2,none⟩ (.bool (neg ((b ii f*b k k-b ii k*b k f) / l)))).setCell ⟨z ii,f*2+1,none⟩ (.string (Qx ((b ii f*b k k-b ii k*b k f) / l)))) base w.heap.size g n 242 30 z O (JT k l b ii (f+1)):=(o.put J L ((b ii f*b k k-b ii k*b k f) / l)).congr (λi j _ _=>eP k l b ii f i j ch cj);have ae:Bx ((w8.setCell ⟨z ii,f*2,none⟩ (.bool (neg ((b ii f*b k k-b ii k*b k f) / l)))).setCell ⟨z ii,f*2+1,none⟩ (.string (Qx ((b ii f*b k k-b ii k*b k f) / l)))) w.heap.size 30 #[.bool false,.string ⟨#[]⟩]:=p.far2 x3 _ _;have ag:Bx ((w8.setCell ⟨z ii,f*2,none⟩ (.bool (neg ((b ii f*b k k-b ii k*b k f) / l)))).setCell ⟨z ii,f*2+1,none⟩ (.string (Qx ((b ii f*b k k-b ii k*b k f) / l)))) Y 30 #[.bool (neg l),.string (Qx l)]:=s.far2 x3 _ _;have bk:Bx ((w8.setCell ⟨z ii,f*2,none⟩ (.bool (neg ((b ii f*b k k-b ii k*b k f) / l)))).setCell ⟨z ii,f*2+1,none⟩ (.string (Qx ((b ii f*b k k-b ii k*b k f) / l)))) g6 3 #[.int .i64 (k:Nat)]:=y.far2 x3 _ _;have al:Below base w ((w8.setCell ⟨z ii,f*2,none⟩ (.bool (neg ((b ii f*b k k-b ii k*b k f) / l)))).setCell ⟨z ii,f*2+1,none⟩ (.string (Qx ((b ii f*b k k-b ii k*b k f) / l)))):=z6 r R.1 _ _;have T:=hV (k0 ad (k0 ae (k0 ag (k0 bk al))));clear o p s y r ad ae ag bk al l2 l4 X R hl bi;go_wp2
         exact⟨⟨f+1,x3,x3,by go_num,T.out.1,T.out.2.1,T.out.2.2.1,T.out.2.2.2.1,T.out.2.2.2.2⟩,by simp[RowKit.intOf];omega⟩
        ·obtain rfl:f=n:=x3;have cc:¬(f:Int)<(f:Int):=x3;replace o:=o.congr (λi j _ hj=>eQ k l b ii f i j hj);have K:=hV (k0 o (k0 p (k0 s (k0 y r))));clear o p s y r;go_wp2
         obtain⟨o,p,s,y,r⟩:=K.out;exact⟨⟨ii+1,x3,x3,by go_num,o,p,s,y,r⟩,by simp[RowKit.intOf];omega⟩
      ·obtain rfl:ii=n:=x3;have cb:¬(ii:Int)<(ii:Int):=x3;replace o:=o.congr (λi j hi _=>eN k l b ii i j hi);have r2:=(o.row H).1;obtain⟨b1,b2,_,_⟩:=o.at H H;rw[oa]at b1 b2;have K:=hV (k0 o (k0 p (k0 s r)));clear o p s r;go_upto_region 20 with(fail)
       refine Gp [108,109,110,111,112,113,114] [.eq (.slice (some ⟨g,0,none⟩) ii c),.eq (.int .i64 (k:Nat)),.eq (.pointer (some ⟨g,k,none⟩)),.eq (.slice (some ⟨z k,0,none⟩) ii (O k)),.eq (.int .i64 (k:Nat)),.eq (.pointer (some ⟨z k,k*2,none⟩)),.eq (.agg #[.bool (neg (b k k)),.string (Qx (b k k))])] 120 x5 (by exact λ_ _ _ _ _ h=>h) x5 (by rfl) ?hop ?htail
       case hop =>
        intro A R;have C:A.tmps.size=120:=by rw[R];rfl
        have q0:A.tmps.getD 0 undef=.slice (some ⟨g,0,none⟩) ii c:=by rw[R];rfl
        have q6:A.tmps.getD 6 undef=.pointer (some ⟨g6,0,none⟩):=by rw[R];rfl
        clear R;refine⟨?_,?_,?_,?_,?_,?_,?_,trivial⟩
        ·refine Jl C λu W F G D E B d m=>?_
         exact Q9 _ rfl rfl d (by simp[go_sem,B 0 rfl rfl q0]) rfl
        ·refine Jl C λu W F G D E B d m=>?_
         exact Q9 _ rfl rfl d (by simp[go_sem,B 6 rfl rfl q6,(y.later d).cel]) rfl
        ·refine Jl C λu W F G D E B d m=>?_
         exact Q9 _ rfl rfl d (by simp[go_sem,E 108 0 rfl rfl (m 0 rfl),E 109 1 rfl rfl (m 1 rfl),ao,aB]) rfl
        ·refine Jl C λu W F G D E B d m=>?_
         exact Q9 _ rfl rfl d (by simp[go_sem,E 110 2 rfl rfl (m 2 rfl),Ld d r2]) rfl
        ·refine Jl C λu W F G D E B d m=>?_
         exact Q9 _ rfl rfl d (by simp[go_sem,B 6 rfl rfl q6,(y.later d).cel]) rfl
        ·refine Jl C λu W F G D E B d m=>?_
         exact Q9 _ rfl rfl d (by simp[go_sem,E 111 3 rfl rfl (m 3 rfl),E 112 4 rfl rfl (m 4 rfl),ao,aB]) rfl
        ·refine Jl C λu W F G D E B d m=>?_
         exact Q9 _ rfl rfl d (by simp[go_sem,E 113 5 rfl rfl (m 5 rfl),Ld d b1,Ld d b2]) rfl
       case htail =>
       intro u w8 d hP _;have cp:u 6=.agg #[.bool (neg (b k k)),.string (Qx (b k k))]:=hP 6 x4;simp only[KB,Act.put,Ru,Tf,U9,Rc,Sl,Nat.reduceAdd,U3,List.drop_zero,cp];obtain⟨o,p,s,r⟩:=K.out;have l2:=p.lt;have X:=P.out;have bi:=ct.out;replace o:=o.later d x3;replace p:=p.later d;replace s:=s.later d;replace r:=QE r d x3;clear hP d cp r2 b1 b2 K y;obtain⟨q1,q2,q3,q4⟩:=s.two;have ad:TabI ((w8.setCell ⟨Y,0,none⟩ (.bool (neg (b k k)))).setCell ⟨Y,1,none⟩ (.string (Qx (b k k)))) base w.heap.size g ii 242 30 z O (AX k l b):=o.far2 x3 _ _;have ae:Bx ((w8.setCell ⟨Y,0,none⟩ (.bool (neg (b k k)))).setCell ⟨Y,1,none⟩ (.string (Qx (b k k)))) w.heap.size 30 #[.bool false,.string ⟨#[]⟩]:=p.far2 x3 _ _;have ag:Bx ((w8.setCell ⟨Y,0,none⟩ (.bool (neg (b k k)))).setCell ⟨Y,1,none⟩ (.string (Qx (b k k)))) Y 30 #[.bool (neg (b k k)),.string (Qx (b k k))]:=s.set2 _ _;have al:Below base w ((w8.setCell ⟨Y,0,none⟩ (.bool (neg (b k k)))).setCell ⟨Y,1,none⟩ (.string (Qx (b k k)))):=z6 r x3 _ _;have T:=hV (k0 ad (k0 ae (k0 ag al)));clear o p s r ad ae ag al l2 X bi;go_wp2
       exact⟨⟨k+1,_,z,O,_,tb2,x3,by go_num,rfl,T.out.1,T.out.2.1,T.out.2.2.1,T.out.2.2.2,hV cM.out.2⟩,by simp[RowKit.intOf];omega⟩
   ·rw[if_neg hp]at c1;go_wp2_with fail
    refine c1.out.mono ?_
    rintro e w3 ⟨rfl,V⟩;obtain⟨o,p,s,y,r⟩:=K.out;have U:=p.lt;replace o:=o.later V x3;replace p:=p.later V;replace s:=s.later V;replace y:=y.later V;replace r:=QE r V (y6 P.out);clear V K U;obtain⟨q1,q2,q3,q4⟩:=p.two;have hz:JJ n M0=0:=HI.out.zero bX H λq h1 h2=>by
     have h3:=HP.out.1 (q-k) x3;rwa [show k+(q-k)=q by omega]at h3
    have T:=hV (k0 hz (k0 p r));clear o p s y r hz c1 p1;go_wp2
    exact bodyPost_ret (v:=.agg #[.bool false,.string ⟨#[]⟩]) (by simp[results,results126,go_sem,(T.out.2.1.set2 _ _).cel]) rfl ⟨by rw[T.out.1,show neg 0=false from rfl,P3],Mh T.out.2.2 P.out _ _⟩
  ·obtain rfl:k=n:=x3;have ao:¬(k:Int)<(k:Int):=x3;obtain⟨q1,q2,q3,q4⟩:=p.two;obtain⟨r1,r2,_,_⟩:=s.two;cases tb with
   | false =>
    have T:=hV (k0 (HI.out.done bX) (k0 p r));clear o p s r HI;go_wp2
    exact bodyPost_ret (v:=.agg #[.bool (neg l),.string (Qx l)]) (by simp[results,results126,go_sem,(T.out.2.1.set2 _ _).cel]) rfl ⟨by rw[T.out.1];rfl,Mh T.out.2.2 P.out _ _⟩
   | true =>
    have cN:=hV (λW=>rG l W);have T:=hV (k0 (HI.out.done bX) (k0 p r));have U:=p.lt;have cU:=hV U;clear o p s r HI U q1 q2 q3 q4;go_wp2_with fail
    refine(cN.out _).mono ?_
    rintro e w3 ⟨rfl,V⟩;obtain⟨h1,p,r⟩:=T.out;replace p:=p.later V;replace r:=QE r V (y7 P.out cU.out);clear V cN r1 r2 T;obtain⟨q1,q2,q3,q4⟩:=p.two;have T:=hV (k0 h1 (k0 p r));clear h1 p r;go_wp2
    exact bodyPost_ret (v:=.agg #[.bool (neg (-l)),.string (Qx (-l))]) (by simp[results,results126,go_sem,(T.out.2.1.set2 _ _).cel]) rfl ⟨by rw[T.out.1];rfl,Mh T.out.2.2 P.out _ _⟩
theorem NF(A:Option Addr)(c:Nat)(w:World):
  b9 prog 126 #[.slice A 0 c] w (.agg #[.bool (neg (1)),.string (Qx (1))]):=by
 have j:=hV (λW=>Dv 1 W x4 x4);go_enter func126,ntmps126
 have a:=Bx.new w 30 #[.bool false,.string ⟨#[]⟩];have b:=b1 w (.cells #[.bool false,.string ⟨#[]⟩] 30);go_wp2_with fail
 generalize w.alloc (.cells #[.bool false,.string ⟨#[]⟩] 30)=o at *;refine(j.out _).mono ?_
 rintro e f ⟨rfl,g⟩;replace a:=a.later g;replace b:=nxt b g;clear g j;have d:=Bx.new f 30 #[.bool (neg (1)),.string (Qx (1))];replace a:=a.alloc (.cells #[.bool (neg (1)),.string (Qx (1))] 30);replace b:=Vp b (.cells #[.bool (neg (1)),.string (Qx (1))] 30);have k:=hV (k0 a (k0 d b));clear a d b;go_wp2_with fail
 obtain⟨a,d,b⟩:=k.out;clear k;generalize f.alloc (.cells #[.bool (neg (1)),.string (Qx (1))] 30)=n at *;generalize f.heap.size=p at *;go_loopw [5,15] (λt i wr=>t=.bool false/\i=.int .i64 0/\wr=n) (λ_ _ _=>0)
 case atStart=>exact⟨rfl,rfl,rfl⟩
 case round =>
  obtain⟨rfl,rfl,rfl⟩:=hrel;obtain⟨q1,q,r,s⟩:=a.two;obtain⟨r1,u,_,_⟩:=d.two;have l:=hV (k0 a b);clear a d b;go_wp2
  exact bodyPost_ret (v:=.agg #[.bool (neg (1)),.string (Qx (1))]) (by simp[results,results126,go_sem,(l.out.1.set2 _ _).cel]) rfl ⟨rfl,Mh l.out.2 (L8 _) _ _⟩
theorem UI(z n:Int): Zq (Xo z n)<=Zq z+n.toNat / 8+1:=by
 unfold Xo;split
 ·exact F0 (L8 _)
 ·exact L9 (KG (Tu z _)) x3
theorem iz{z e:Int}{W:y9}(d:Zq z<=536870912)(a:-4611686018427387904<=e)(b:e<=4611686018427387904)(f:TabAt 4 Lib.deBruijn64tab W):
  b9 prog 90 #[.agg #[.bool (neg z),.string (Qx z)],.int .i64 e] W (.agg #[.bool (neg (dm (dy z e))),.string (Qx (dm (dy z e))),.int .i64 (de (dy z e))]):=by
 have c:=GG (Qx z) (neg z) e W (by rw[XF];exact d) a b f;rw[Xg]at c;exact c
theorem zP{low:Int}(h:low<=de (xs i j)): dy (zI low xs i j) low=xs i j:=by
 unfold zI Xo;rw[if_pos x3,C1,show low+((de (xs i j)-low).toNat:Int)=de (xs i j)by omega,Mz]
theorem Wb{n:Nat}: ∀ {xs ys:Nat->Nat->Dyadic},(∀i j,i<n->j<n->xs i j=ys i j)->ZS n xs=ZS n ys:=by
 induction n with
 | zero=>intro _ _ _;rfl
 | succ n b =>
  intro xs ys h;have key:∀m,m<=n+1->Gw (λk=>gG k (xs 0 k*ZS n (gF 0 k xs))) m=Gw (λk=>gG k (ys 0 k*ZS n (gF 0 k ys))) m:=by
   intro m;induction m with
   | zero=>intro _;rfl
   | succ m a =>
    intro c;show Gw _ m+gG m (xs 0 m*ZS n (gF 0 m xs))=Gw _ m+gG m (ys 0 m*ZS n (gF 0 m ys));rw[a x3,h 0 m x3 x3,b (xs:=gF 0 m xs) (ys:=gF 0 m ys) (λi j d e=>by
     unfold gF Ux;exact h _ _ (by split<;>omega) (by split<;>omega))]
  exact key (n+1) (L8 _)
theorem jZ(L H:Nat)(s:L+H<=1000000)(N:Nat)(K:N<=4)(A:Option Addr)(c:Nat)(bs:Nat->Nat->Bool)(M:Nat->Nat->ByteArray)(O:Nat->Nat->Int)(xs:Nat->Nat->Dyadic)(w:World)(hx:∀i j,ND (bs i j) (M i j) (O i j) (xs i j))(t:∀i j,DB L H (xs i j))(hr:RdM w A N (λ_=>N) bs M O)(I:TabAt 4 Lib.deBruijn64tab w):
  b9 prog 95 #[.slice A N c] w (.tuple #[.agg #[.bool (neg (dm (ZS N xs))),.string (Qx (dm (ZS N xs))),.int .i64 (de (ZS N xs))],.int .i64 0]):=by
 have HR:=hV hr;have HX:=hV hx;have l:=hV t;have HT:=hV I;have p:=hV s;have cc:=hV (λW h=>WC A N c (λ_=>N) W x3 h);have P:=hV (show z5 N (λ_=>N)from⟨x3,λ_ _=>rfl⟩);clear hr hx t I s;go_enter func95,ntmps95
 have a:=Bx.new w 32 #[.bool false,.string ⟨#[]⟩,.int .i64 0];have b:=b1 w (.cells #[.bool false,.string ⟨#[]⟩,.int .i64 0] 32);go_wp2_with fail
 generalize w.alloc (.cells #[.bool false,.string ⟨#[]⟩,.int .i64 0] 32)=w0 at *;refine(cc.out _ (HR.out.below b).len).mono ?_
 rintro e x ⟨m,_,d⟩;obtain rfl:=m P.out;replace a:=a.later d;replace b:=nxt b d;have Q:=hV a.lt;clear d m cc;have cs:=hV (aj N L H p.out x3 A c bs M O xs x HX.out l.out (HR.out.below b) (Ql HT.out b));have n:=hV (k0 a b);clear a b;go_wp2_with fail
 refine cs.out.mono ?_
 rintro e y ⟨⟨v,low,rfl,z,B,C,R⟩,d⟩;obtain⟨a,b⟩:=n.out;replace a:=a.later d;have D:=nxt b d;clear cs n;have S:=hV (k0 z (k0 B C));have ae:-1000000<=low:=y6 p.out;have E:Hid (∀i j,Zq (zI low xs i j)<=380000):=hV λi j=>by
  have m:=V4 (l.out i j);have q:=Ft (l.out i j);have h4:=p.out;have h3:=UI (dm (xs i j)) (de (xs i j)-low);rw[XF]at q;have h6:(de (xs i j)-low).toNat<=1000000:=y7 m.2.1 S.out.1;show Zq (Xo _ _)<=_;omega
 have cb:Hid (Calls prog 126 #[v] y λe u=>e=.returned (.agg #[.bool (neg (JJ N (zI low xs))),.string (Qx (JJ N (zI low xs)))])/\Below x.heap.size y u):=hV (by
  rcases So N with J|J
  ·subst J;rcases R with⟨As,cs,m,_⟩
   obtain⟨A',T,rfl,_⟩:=OwnK.rd (k:=1) (λ_=>rfl) m;exact(NF A' T y).mono λe u ⟨q,h3⟩=>⟨q,h3.mono d.size⟩
  ·obtain⟨g,T,As,cs,rfl,U,I⟩:=R.tab J;exact(Pa x.heap.size g N T 380000 As cs (zI low xs) y J x3 x4 x4 (λi j _ _=>E.out i j) d.size U I).mono λe u h=>h)
 have F:=hV (show w.heap.size<x.heap.size/\x.heap.size<=y.heap.size from⟨by have m:=b.size;have q:=Q.out;omega,d.size⟩);have n:=hV (k0 a D);clear a D b d R z B C;have f:low<=0:=S.out.2.1;go_wp2_with fail
 refine cb.out.mono ?_
 rintro e w3 ⟨rfl,d⟩;obtain⟨a,b⟩:=n.out;replace a:Bx w3 w.heap.size 32 #[.bool false,.string ⟨#[]⟩,.int .i64 0]:=(d.block w.heap.size (y6 F.out)).trans a;replace b:=tv b d (y6 F.out);clear d cb n;have V:DB (L*N) ((H+8)*N+1) (ZS N xs):=iD N xs x3 l.out;have o:dy (JJ N (zI low xs)) (low*N)=ZS N xs:=by
  rw[<- iG];exact Wb λi j hi hj=>zP (S.out.2.2 i j hi hj)
 have HV:=hV o;have X:(N:Int)<=4:=x3;have Y:(0:Int)<=(N:Int):=x3;have ad:low*(N:Int)<=0:=Int.mul_nonpos_of_nonpos_of_nonneg f Y;have Z:-4000000<=low*(N:Int):=by
  have m:(-1000000)*4<=low*(N:Int):=by
   have q:low*4<=low*(N:Int):=Int.mul_le_mul_of_nonpos_left f X;omega
  omega
 have G:Zq (JJ N (zI low xs))<=536870912:=L9 (aR N _ E.out) (by
  have m:380000*N<=380000*4:=R4 _ K;have q:N*N<=4*4:=Nat.mul_le_mul K K;omega)
 have cM:=hV (λW h=>iz (e:=low*(N:Int)) (W:=W) G x3 x3 h);have n:=hV (k0 a b);clear a b V o G;go_wp2_with fail
 refine(cM.out _ (Ql HT.out n.out.2)).mono ?_
 rintro e w4 ⟨rfl,d⟩;rw[HV.out];obtain⟨a,b⟩:=n.out;replace a:=a.later d;replace b:=nxt b d;clear d cM n;obtain⟨q1,q2,q3,q4,q5,q6⟩:=a.three;have HZ:=hV (k0 a b);clear a b;go_wp2
 exact bodyPost_ret (v:=.tuple #[.agg #[.bool (neg (dm (ZS N xs))),.string (Qx (dm (ZS N xs))),.int .i64 (de (ZS N xs))],.int .i64 0]) (by simp[results,results95,go_sem,(HZ.out.1.set3 _ _ _).cel]) rfl ⟨rfl,wj HZ.out.2 (L8 _) _ _ _⟩
