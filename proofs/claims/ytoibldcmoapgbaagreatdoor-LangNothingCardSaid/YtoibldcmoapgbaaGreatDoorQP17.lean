/- Laws beneath the statement. -/
import Derived.Test.YtoibldcmoapgbaaGreatDoorQP16
namespace Go.Proofs.YtoibldcmoapgbaaGreatDoor
open Tryz
set_option maxHeartbeats 4000000
set_option maxRecDepth 100000
open Go.RowKit
def Xo(z n:Int): Int:=if 0<=n then z*2^n.toNat else z / 2^(-n).toNat
theorem jw(b:Bool)(v k:Nat): Qi b (v*2^k)=Qi b v*2^k:=by
 cases b
 ·simp[Qi]
 ·simp[Qi,Int.neg_mul]
theorem qE{z:Int}{k a:Nat}(h:z.natAbs<2^k)(b:k<=a): z / 2^k=z / 2^a:=by
 have key:∀j:Nat,z.natAbs<2^j->z / 2^j=if z<0 then -1 else 0:=by
  intro j d;have c:((2^j:Nat):Int)=2^j:=x6;rw[<- c];generalize 2^j=M at *;split
  ·have e:z=((M:Int)-z.natAbs)+(M:Int)*(-1):=x3;rw[e,Int.add_mul_ediv_left _ _ x3,Int.ediv_eq_zero_of_lt x3 x3];rfl
  ·exact Int.ediv_eq_zero_of_lt x3 x3
 rw[key k h,key a (Lb h (Li x4 b))]
theorem mK{v m:Nat}(e:v≠0): (tz v<m↔v % 2^m≠0):=by
 obtain⟨r,b⟩:=B5 e;generalize tz v=t at *;constructor
 ·intro f h;have c:=Nat.dvd_of_mod_eq_zero h;obtain⟨d,rfl⟩:∃d,m=t+1+d:=⟨m-t-1,x3⟩
  rw[b,Sc,Lt]at c;have a:=Nat.dvd_of_mul_dvd_mul_left (Lv t) c;rw[Lt]at a;have i:2 ∣ 2*r+1:=Nat.dvd_trans ⟨2^d,by rw[To]⟩ a;omega
 ·intro h;apply Ul;intro g;apply h;obtain⟨d,rfl⟩:∃d,t=m+d:=⟨t-m,x3⟩
  rw[b,Lt,R5];exact Nat.mul_mod_right _ _
theorem gB(s:ByteArray)(b:Bool)(n:Int)(w:World)(o:s.size<=4294967296)(y:0<=n)(p:n<=68719476736):
  b9 prog 121 #[.agg #[.bool b,.string s],.int .i64 n] w (.agg #[.bool (neg (Qi b (Qa s)*2^n.toNat)),.string (Qx (Qi b (Qa s)*2^n.toNat))]):=by
 have q:=hV (λW=>j9 s n W o p);have k:=hV (λW=>Zy (QK (Qa s*2^n.toNat)) b W);rw[Yl,jw]at k;go_enter func121,ntmps121
 go_wp2_with fail
 have l:=(Bx.new w 30 #[.bool b,.string s]).alloc (.cells #[.bool false,.string ⟨#[]⟩] 30);have j:=Bx.at1 w (.cells #[.bool b,.string s] 30) 30 #[.bool false,.string ⟨#[]⟩];have r:=b2 w (.cells #[.bool b,.string s] 30) (.cells #[.bool false,.string ⟨#[]⟩] 30);generalize (w.alloc (.cells #[.bool b,.string s] 30)).alloc (.cells #[.bool false,.string ⟨#[]⟩] 30)=t at *;have u:=l.lt;have x:=j.lt;obtain⟨d,f,z,A⟩:=(l).two;obtain⟨q1,B,C,D⟩:=(j).two;go_region_held3 (λi=>i.cell? ⟨w.heap.size,0,none⟩=some (.bool b)/\i.cell? ⟨w.heap.size,1,none⟩=some (.string s)) (first|exact⟨d,f⟩|exact⟨Ld c d,Ld c f⟩|exact⟨Ld a (Ld c d),Ld a (Ld c f)⟩|exact⟨ZM (Ld a (Ld c d)) x3 _ _,ZM (Ld a (Ld c f)) x3 _ _⟩|exact⟨Ld (b1 m _) (Ld a (Ld c d)),Ld (b1 m _) (Ld a (Ld c f))⟩)
  (first
   | (go_at_call 161;refine(q.out t.drew).mono ?_;rintro e wn ⟨rfl,g⟩;have c:=EK g;clear g)
   | (go_at_call 162;refine(k.out wn).mono ?_;rintro e m ⟨rfl,a⟩;obtain⟨E,F,G,H⟩:=((j.later c).later a).two))
 go_wp2
 exact bodyPost_ret (v:=.agg #[.bool (neg (Qi b (Qa s)*2^n.toNat)),.string (Qx (Qi b (Qa s)*2^n.toNat))]) (by simp[results,results121,go_sem,(((j.later c).later a).set2 _ _).cel]) rfl ⟨rfl,Mh (nxt (nxt r c) a) (Rg _ 1) _ _⟩
theorem aE(s:u4)(n:Int)(m:Nat)(w:y9)(f:s.size<=4294967296)(_hs2:s.size<=536870912)(l:n<0)(g:max n (-1099511627776)=-(m:Int))(h:m<=1099511627776)(b:TabAt 4 Lib.deBruijn64tab w):
  b9 prog 121 #[.agg #[Ξ false,Ψ s],Θ n] w (.agg #[Ξ (neg (Qi false (Qa s / 2^m))),Ψ (Qx (Qi false (Qa s / 2^m)))]):=by
 have c:=λW=>Cr s (m:Int) W f x3
 simp only[S9]at c;have d:=λW=>Zy (QK (Qa s / 2^m)) false W
 rw[Yl]at d;have a:IntKind.i64.wrap (- -(m:Int))=(m:Int):=by rw[Tx];exact Lg _ x3
 exact
 RetAt.at<|rk [.br false,.o 3 1 (.set (Θ ((-(m:Int))))),.reg 10 [],.o 4 3 (.eq (iV (m:Int))),.o 4 4 (.ret (sV (QK (Qa s / 2^m)))),.o 4 8 (.ret (.agg [bV (neg (Qi false (Qa s / 2^m))),sV (Qx (Qi false (Qa s / 2^m)))]))] λW j k=>(λ(b:Q0 W)=>Kr (Lh x3:decide (n>=0)=false) (show Qn prog W (Builtin.max_ #[3,3] 3 #[Θ n,Θ (-1099511627776)]) (Θ ((-(m:Int))))from by rw[<- g];exact K5 _ _ _ _ _ _ _) (wn a) (O3 W c) (O3 W d)<|k) (Ql b j)
theorem TT(s:u4)(n:Int)(m:Nat)(w:y9)(a:s.size<=4294967296)(_hs2:s.size<=536870912)(r:n<0)(h:max n (-1099511627776)=-(m:Int))(i:m<=1099511627776)(j:Qa s=0)(c:TabAt 4 Lib.deBruijn64tab w):
  b9 prog 121 #[.agg #[Ξ true,Ψ s],Θ n] w (.agg #[Ξ (neg (Qi true (Qa s / 2^m))),Ψ (Qx (Qi true (Qa s / 2^m)))]):=by
 have d:=λW=>Cr s (m:Int) W a x3
 simp only[S9]at d;have f:=λW=>Zy (QK (Qa s / 2^m)) true W
 rw[Yl]at f;have b:IntKind.i64.wrap (- -(m:Int))=(m:Int):=by rw[Tx];exact Lg _ x3
 have l:=λW=>Cq s W a
 have t:=λW=>Dg s W a
 have u:nd 1 (Qa s)=0:=by rw[j];rfl
 exact
 RetAt.at<|rk [.br false,.o 3 1 (.set (Θ ((-(m:Int))))),.reg 10 [],.o 4 3 (.eq (iV (m:Int))),.o 4 4 (.ret (sV (QK (Qa s / 2^m)))),.o 4 8 (.ret (.agg [bV (neg (Qi true (Qa s / 2^m))),sV (Qx (Qi true (Qa s / 2^m)))])),.o 5 5 (.ret (iV ((nd 1 (Qa s):Nat):Int))),.g 5 9 false] λW p q=>(λ(c:Q0 W)=>DM (Lh x3:decide (n>=0)=false) (show Qn prog W (Builtin.max_ #[3,3] 3 #[Θ n,Θ (-1099511627776)]) (Θ ((-(m:Int))))from by rw[<- h];exact K5 _ _ _ _ _ _ _) (wn b) (O3 W d) (O3 W f) (O3 W l) (show(decide (((nd 1 (Qa s):Nat):Int)>0))=false from Lh x3)<|q) (Ql c p)
theorem TS(s:u4)(n:Int)(m:Nat)(w:y9)(b:s.size<=4294967296)(_hs2:s.size<=536870912)(t:n<0)(i:max n (-1099511627776)=-(m:Int))(j:m<=1099511627776)(d:Qa s≠0)(u:Qa s % 2^m=0)(c:TabAt 4 Lib.deBruijn64tab w):
  b9 prog 121 #[.agg #[Ξ true,Ψ s],Θ n] w (.agg #[Ξ (neg (Qi true (Qa s / 2^m))),Ψ (Qx (Qi true (Qa s / 2^m)))]):=by
 have f:=λW=>Cr s (m:Int) W b x3
 simp only[S9]at f;have h:=λW=>Zy (QK (Qa s / 2^m)) true W
 rw[Yl]at h;have a:IntKind.i64.wrap (- -(m:Int))=(m:Int):=by rw[Tx];exact Lg _ x3
 have l:=λW=>Cq s W b
 have p:=λW=>Dg s W b
 have v:0<nd 1 (Qa s):=VP _ d;have x:=@mK (Qa s) m d;exact
 RetAt.at<|rk [.br false,.o 3 1 (.set (Θ ((-(m:Int))))),.reg 10 [],.o 4 3 (.eq (iV (m:Int))),.o 4 4 (.ret (sV (QK (Qa s / 2^m)))),.o 4 8 (.ret (.agg [bV (neg (Qi true (Qa s / 2^m))),sV (Qx (Qi true (Qa s / 2^m)))])),.o 5 5 (.ret (iV ((nd 1 (Qa s):Nat):Int))),.g 5 9 true,.o 5 11 (.ret (iV ((tz (Qa s):Nat):Int))),.o 5 13 (.eq (iV (m:Int))),.br false] λW q r=>(λ(c:Q0 W)=>Zb (Lh x3:decide (n>=0)=false) (show Qn prog W (Builtin.max_ #[3,3] 3 #[Θ n,Θ (-1099511627776)]) (Θ ((-(m:Int))))from by rw[<- i];exact K5 _ _ _ _ _ _ _) (wn a) (O3 W f) (O3 W h) (O3 W l) (show(decide (((nd 1 (Qa s):Nat):Int)>0))=true from Lz x3) (rtx c p)<|X7 (wn a) (show(decide (((tz (Qa s):Nat):Int)<(m:Int)))=false from Lh x3)<|r) (Ql c q)
theorem aD(s:u4)(n:Int)(m:Nat)(w:y9)(b:s.size<=4294967296)(c:s.size<=536870912)(v:n<0)(k:max n (-1099511627776)=-(m:Int))(l:m<=1099511627776)(h:Qa s≠0)(x:Qa s % 2^m≠0)(d:TabAt 4 Lib.deBruijn64tab w):
  b9 prog 121 #[.agg #[Ξ true,Ψ s],Θ n] w (.agg #[Ξ (neg (Qi true (Qa s / 2^m)-1)),Ψ (Qx (Qi true (Qa s / 2^m)-1))]):=by
 have i:=λW=>Cr s (m:Int) W b x3
 simp only[S9]at i;have j:=λW=>Zy (QK (Qa s / 2^m)) true W
 rw[Yl]at j;have a:IntKind.i64.wrap (- -(m:Int))=(m:Int):=by rw[Tx];exact Lg _ x3
 have q:=λW=>Cq s W b
 have r:=λW=>Dg s W b
 have z:0<nd 1 (Qa s):=VP _ h;have A:=@mK (Qa s) m h;have f:(Qx (Qi true (Qa s / 2^m))).size<=536870912:=by
   rw[XF];refine L9 (KG (y:=Qi true (Qa s)) ?_) (L9 (GD _ _) c);rw[Xv,Xv];exact Rn _ _
 have cS:=λW=>IV (Qx (Qi true (Qa s / 2^m))) (Qx 1) (neg (Qi true (Qa s / 2^m))) (neg 1) W f x4
 rw[Xg,Xg]at cS;exact
 RetAt.at<|rk [.br false,.o 3 1 (.set (Θ ((-(m:Int))))),.reg 10 [],.o 4 3 (.eq (iV (m:Int))),.o 4 4 (.ret (sV (QK (Qa s / 2^m)))),.o 4 8 (.ret (.agg [bV (neg (Qi true (Qa s / 2^m))),sV (Qx (Qi true (Qa s / 2^m)))])),.o 5 5 (.ret (iV ((nd 1 (Qa s):Nat):Int))),.g 5 9 true,.o 5 11 (.ret (iV ((tz (Qa s):Nat):Int))),.o 5 13 (.eq (iV (m:Int))),.br true,.reg 3 [],.o 6 1 (.ret (.agg [bV (neg 1),sV (Qx 1)])),.o 6 2 (.ret (.agg [bV (neg ((Qi true (Qa s / 2^m))-1)),sV (Qx ((Qi true (Qa s / 2^m))-1))]))] λW t u=>(λ(d:Q0 W)=>Zb (Lh x3:decide (n>=0)=false) (show Qn prog W (Builtin.max_ #[3,3] 3 #[Θ n,Θ (-1099511627776)]) (Θ ((-(m:Int))))from by rw[<- k];exact K5 _ _ _ _ _ _ _) (wn a) (O3 W i) (O3 W j) (O3 W q) (show(decide (((nd 1 (Qa s):Nat):Int)>0))=true from Lz x3) (rtx d r)<|Km (wn a) (show(decide (((tz (Qa s):Nat):Int)<(m:Int)))=true from Lz x3) (O3 W λW=>Dv 1 W x4 x4) (O3 W cS)<|u) (Ql d t)
theorem AJ(s:u4)(b:Bool)(n:Int)(w:y9)(f:s.size<=536870912)(l:n<=68719476736)(o:-9223372036854775808<=n)(g:TabAt 4 Lib.deBruijn64tab w):
  b9 prog 121 #[.agg #[.bool b,.string s],.int .i64 n] w (.agg #[.bool (neg (Xo (Qi b (Qa s)) n)),.string (Qx (Xo (Qi b (Qa s)) n))]):=by
 have a:s.size<=4294967296:=x3;by_cases k:0<=n
 ·have e:Xo (Qi b (Qa s)) n=Qi b (Qa s)*2^n.toNat:=by unfold Xo;rw[if_pos k]
  rw[e];exact gB s b n w a k l
 ·obtain⟨m,h⟩:∃m:Nat,max n (-1099511627776)=-(m:Int):=⟨(max n (-1099511627776)).natAbs,x3⟩
  have c:m<=1099511627776:=x3;obtain⟨K,q⟩:∃K:Nat,K=1099511627776:=⟨_,rfl⟩
  have d:Qa s<2^K:=by
   refine Lb (FQ s) ?_
   rw[show 256=2^8 from rfl,<- Sn];exact Li x4 x3
  have e:Xo (Qi b (Qa s)) n=Qi b (Qa s) / 2^m:=by
   unfold Xo;rw[if_neg k]
   by_cases r:-1099511627776<=n
   ·congr 2;omega
   ·obtain rfl:m=K:=x3;exact(qE (by rw[Xv];exact d) x3).symm
  rw[e,ga];clear e d;cases b
  ·rw[if_neg x6,Int.sub_zero];exact aE s n m w a f x3 h c g
  ·by_cases i:Qa s=0
   ·rw[if_neg (by rw[i];simp),Int.sub_zero];exact TT s n m w a f x3 h c i g
   ·by_cases j:Qa s % 2^m=0
    ·rw[if_neg (by simp[j]),Int.sub_zero];exact TS s n m w a f x3 h c i j g
    ·rw[if_pos ⟨rfl,j⟩];exact aD s n m w a f x3 h c i j g
theorem SJ(z:Int)(t:Nat): Xo z (-(t:Int))=z / 2^t:=by
 unfold Xo;by_cases h:t=0
 ·subst h;simp
 ·rw[if_neg x3,Tx,S9]
theorem dV{s:u4}(h:Qa s≠0): tz (Qa s)<=8*s.size:=by
 obtain⟨q,c⟩:=B5 h;have a:=FQ s;rw[show 256=2^8 from rfl,<- Sn]at a;have d:2^tz (Qa s)<=Qa s:=by
  have b:2^tz (Qa s)*1<=2^tz (Qa s)*(2*q+1):=R4 _ x3;rw[Sm,<- c]at b;exact b
 have e:=(U0 (by decide:1<2)).1 (Lw d a);omega
theorem nW(s:ByteArray)(b:Bool)(e k:Int)(w:World)(g:s.size<=536870912)(i:-9223372036854775808<=e-k)(j:e-k<=68719476736)(l:TabAt 4 Lib.deBruijn64tab w):
  b9 prog 129 #[.int .i64 k,.agg #[.bool b,.string s,.int .i64 e]] w (.agg #[.bool (neg (Xo (Qi b (Qa s)) (e-k))),.string (Qx (Xo (Qi b (Qa s)) (e-k)))]):=by
 have A:=hV l;have D:IntKind.i64.wrap (e-k)=e-k:=Lg _ x3;have cS:=hV (λW (h:TabAt 4 Lib.deBruijn64tab W)=>AJ s b (e-k) W g j i h);clear l g i j;go_enter func129,ntmps129
 go_upto_region 1 with(fail)
 have c:=(Bx.new w 32 #[.bool b,.string s,.int .i64 e]).alloc (.cells #[.bool false,.string ⟨#[]⟩] 30);have a:=Bx.at1 w (.cells #[.bool b,.string s,.int .i64 e] 32) 30 #[.bool false,.string ⟨#[]⟩];have d:=b2 w (.cells #[.bool b,.string s,.int .i64 e] 32) (.cells #[.bool false,.string ⟨#[]⟩] 30);generalize (w.alloc (.cells #[.bool b,.string s,.int .i64 e] 32)).alloc (.cells #[.bool false,.string ⟨#[]⟩] 30)=E at *;have B:=c.lt;have C:=a.lt;obtain⟨m,n,o,p,q,t⟩:=c.three;obtain⟨q1,u,x,y⟩:=a.two;go_wp2_with fail
 refine(cS.out _ (Ql A.out d)).mono ?_
 rintro e F ⟨rfl,f⟩;replace c:=c.later f;replace a:=a.later f;replace d:=nxt d f;clear f;clear m n p q o t q1 u x y;obtain⟨m,n,o,p,q,t⟩:=c.three;obtain⟨q1,u,x,y⟩:=a.two;go_wp2_with fail
 exact bodyPost_ret (v:=.agg #[.bool (neg (Xo (Qi b (Qa s)) (e-k))),.string (Qx (Xo (Qi b (Qa s)) (e-k)))]) (by simp[results,results129,go_sem,(a.set2 _ _).cel]) rfl ⟨rfl,Mh d (Rg _ 1) _ _⟩
theorem UV(s:ByteArray)(b:Bool)(e:Int)(w:World)(g:Qi b (Qa s)=0):
  b9 prog 90 #[.agg #[.bool b,.string s],.int .i64 e] w (.agg #[.bool false,.string ⟨#[]⟩,.int .i64 0]):=by
 have i:=hV (λW=>VD s b W);rw[g,show JZ 0=0 from rfl]at i;clear g;go_enter func90,ntmps90
 go_upto_region 1 with(fail)
 have c:=(Bx.new w 30 #[.bool b,.string s]).alloc (.cells #[.bool false,.string ⟨#[]⟩,.int .i64 (0)] 32);have a:=Bx.at1 w (.cells #[.bool b,.string s] 30) 32 #[.bool false,.string ⟨#[]⟩,.int .i64 (0)];have f:=b2 w (.cells #[.bool b,.string s] 30) (.cells #[.bool false,.string ⟨#[]⟩,.int .i64 (0)] 32);generalize (w.alloc (.cells #[.bool b,.string s] 30)).alloc (.cells #[.bool false,.string ⟨#[]⟩,.int .i64 (0)] 32)=z at *;have x:=c.lt;have y:=a.lt;obtain⟨j,k,l,m⟩:=c.two;obtain⟨q1,n,o,p,q,t⟩:=a.three;go_wp2_with fail
 refine(i.out _).mono ?_
 rintro e A ⟨rfl,d⟩;replace c:=c.later d;replace a:=a.later d;replace f:=nxt f d;clear d;clear j k l m q1 n p q o t;obtain⟨j,k,l,m⟩:=c.two;obtain⟨q1,n,o,p,q,t⟩:=a.three;go_wp2_with fail
 exact bodyPost_ret (v:=.agg #[.bool false,.string ⟨#[]⟩,.int .i64 0]) (by simp[results,results90,go_sem,(a.set3 _ _ _).cel]) rfl ⟨rfl,wj f (Rg _ 1) _ _ _⟩
theorem UU(s:ByteArray)(b:Bool)(e g q:Int)(t:Nat)(w:World)(J:g≠0)(y:-4611686018427387904<=e)(z:e<=4611686018427387904)(C:t<=68719476736)(A:TabAt 4 Lib.deBruijn64tab w)(D:Hid (∀W:World,b9 prog 97 #[.agg #[.bool b,.string s]] W (.int .i64 g)))(E:Hid (∀W:World,TabAt 4 Lib.deBruijn64tab W->b9 prog 120 #[.string s] W (.int .i64 (t:Nat))))(cS:Hid (∀W:World,TabAt 4 Lib.deBruijn64tab W->b9 prog 121 #[.agg #[.bool b,.string s],.int .i64 (-(t:Int))] W (.agg #[.bool (neg q),.string (Qx q)]))):
  b9 prog 90 #[.agg #[.bool b,.string s],.int .i64 e] w (.agg #[.bool (neg q),.string (Qx q),.int .i64 (e+t)]):=by
 have B:=hV A;have F:IntKind.i64.wrap (e+t)=e+t:=Lg _ x3;have G:IntKind.i64.wrap (-(t:Int))=-(t:Int):=Lg _ x3;clear A y z C;go_enter func90,ntmps90
 go_upto_region 1 with(fail)
 have d:=(Bx.new w 30 #[.bool b,.string s]).alloc (.cells #[.bool false,.string ⟨#[]⟩,.int .i64 (0)] 32);have c:=Bx.at1 w (.cells #[.bool b,.string s] 30) 32 #[.bool false,.string ⟨#[]⟩,.int .i64 (0)];have f:=b2 w (.cells #[.bool b,.string s] 30) (.cells #[.bool false,.string ⟨#[]⟩,.int .i64 (0)] 32);generalize (w.alloc (.cells #[.bool b,.string s] 30)).alloc (.cells #[.bool false,.string ⟨#[]⟩,.int .i64 (0)] 32)=K at *;have H:=d.lt;have I:=c.lt;obtain⟨j,k,l,m⟩:=d.two;obtain⟨q1,n,o,p,u,x⟩:=c.three;go_wp2_with fail
 refine(D.out _).mono ?_
 rintro e L ⟨rfl,a⟩;replace d:=d.later a;replace c:=c.later a;replace f:=nxt f a;clear a;clear j k l m q1 n p u o x;obtain⟨j,k,l,m⟩:=d.two;obtain⟨q1,n,o,p,u,x⟩:=c.three;go_wp2_with fail
 refine(E.out _ (Ql B.out f)).mono ?_
 rintro e M ⟨rfl,a⟩;replace d:=d.later a;replace c:=c.later a;replace f:=nxt f a;clear a;clear j k l m q1 n p u o x;obtain⟨j,k,l,m⟩:=d.two;obtain⟨q1,n,o,p,u,x⟩:=c.three;go_wp2_with fail
 refine(cS.out _ (Ql B.out f)).mono ?_
 rintro e N ⟨rfl,a⟩;replace d:=d.later a;replace c:=c.later a;replace f:=nxt f a;clear a;clear j k l m q1 n p u o x;obtain⟨j,k,l,m⟩:=d.two;obtain⟨q1,n,o,p,u,x⟩:=c.three;go_wp2_with fail
 exact bodyPost_ret (v:=.agg #[.bool (neg q),.string (Qx q),.int .i64 (e+t)]) (by simp[results,results90,go_sem,(c.set3 _ _ _).cel]) rfl ⟨rfl,wj f (Rg _ 1) _ _ _⟩
theorem GG(s:u4)(b:Bool)(e:Int)(w:y9)(i:s.size<=536870912)(c:-4611686018427387904<=e)(d:e<=4611686018427387904)(j:TabAt 4 Lib.deBruijn64tab w):
  b9 prog 90 #[.agg #[.bool b,.string s],.int .i64 e] w (.agg #[.bool (neg (dm (dy (Qi b (Qa s)) e))),.string (Qx (dm (dy (Qi b (Qa s)) e))),.int .i64 (de (dy (Qi b (Qa s)) e))]):=by
 by_cases a:Qi b (Qa s)=0
 ·have h:=UV s b e w a;rw[a,JD];exact h
 ·have l:Qa s≠0:=λh=>a (by rw[h,MP])
  have m:=dV l;obtain⟨f,g⟩:=bn e a;rw[Xv]at f g;rw[f,g];have cS:=hV (λW (h:TabAt 4 Lib.deBruijn64tab W)=>AJ s b (-(tz (Qa s):Nat)) W i x3 x3 h);rw[SJ]at cS;exact UU s b e _ _ (tz (Qa s)) w (λh=>a (sgn_eq.1 h)) c d x3 j (hV (λW=>VD s b W)) (hV (λW h=>Dg s W x3 h)) cS
theorem nV(s:ByteArray)(b:Bool)(e:Int)(x:Dyadic)(w:World)(i:TabAt 4 Lib.deBruijn64tab w)(z:Hid (∀W:World,TabAt 4 Lib.deBruijn64tab W->b9 prog 90 #[.agg #[.bool b,.string s],.int .i64 e] W (.agg #[.bool (neg (dm x)),.string (Qx (dm x)),.int .i64 (de x)]))):
  b9 prog 52 #[.agg #[.bool b,.string s,.int .i64 e]] w (.agg #[.bool (neg (dm x)),.string (Qx (dm x)),.int .i64 (de x)]):=by
 have A:=hV i;clear i;go_enter func52,ntmps52
 go_upto_region 1 with(fail)
 have c:=(Bx.new w 32 #[.bool b,.string s,.int .i64 e]).alloc (.cells #[.bool false,.string ⟨#[]⟩,.int .i64 (0)] 32);have a:=Bx.at1 w (.cells #[.bool b,.string s,.int .i64 e] 32) 32 #[.bool false,.string ⟨#[]⟩,.int .i64 (0)];have d:=b2 w (.cells #[.bool b,.string s,.int .i64 e] 32) (.cells #[.bool false,.string ⟨#[]⟩,.int .i64 (0)] 32);generalize (w.alloc (.cells #[.bool b,.string s,.int .i64 e] 32)).alloc (.cells #[.bool false,.string ⟨#[]⟩,.int .i64 (0)] 32)=D at *;have B:=c.lt;have C:=a.lt;obtain⟨j,k,l,m,n,o⟩:=c.three;obtain⟨q1,p,q,t,u,y⟩:=a.three;go_wp2_with fail
 refine(z.out _ (Ql A.out d)).mono ?_
 rintro e E ⟨rfl,f⟩;replace c:=c.later f;replace a:=a.later f;replace d:=nxt d f;clear f;clear j k m n l o q1 p t u q y;obtain⟨j,k,l,m,n,o⟩:=c.three;obtain⟨q1,p,q,t,u,y⟩:=a.three;go_wp2_with fail
 exact bodyPost_ret (v:=.agg #[.bool (neg (dm x)),.string (Qx (dm x)),.int .i64 (de x)]) (by simp[results,results52,go_sem,(a.set3 _ _ _).cel]) rfl ⟨rfl,wj d (Rg _ 1) _ _ _⟩
theorem JS(s:u4)(b:Bool)(e:Int)(w:y9)(d:s.size<=536870912)(a:-4611686018427387904<=e)(c:e<=4611686018427387904)(f:TabAt 4 Lib.deBruijn64tab w):
  b9 prog 52 #[.agg #[.bool b,.string s,.int .i64 e]] w (.agg #[.bool (neg (dm (dy (Qi b (Qa s)) e))),.string (Qx (dm (dy (Qi b (Qa s)) e))),.int .i64 (de (dy (Qi b (Qa s)) e))]):=by
 exact nV s b e _ w f (hV (λW h=>GG s b e W d a c h))
theorem Vx(s:ByteArray)(b:Bool)(e:Int)(w:World):
  b9 prog 58 #[.agg #[.bool b,.string s,.int .i64 e]] w (.int .i64 (VH (dy (Qi b (Qa s)) e))):=by
 rw[Fw];have o:=hV (λW=>VD s b W);generalize JZ (Qi b (Qa s))=g at *;go_enter func58,ntmps58
 go_upto_region 1 with(fail)
 have a:=Bx.new w 32 #[.bool b,.string s,.int .i64 e];have c:=b1 w (.cells #[.bool b,.string s,.int .i64 e] 32);generalize w.alloc (.cells #[.bool b,.string s,.int .i64 e] 32)=q at *;have p:=a.lt;obtain⟨f,i,j,k,l,m⟩:=a.three;go_wp2_with fail
 refine(o.out _).mono ?_
 rintro e t ⟨rfl,d⟩;replace a:=a.later d;replace c:=nxt c d;clear d;clear f i k l j m;obtain⟨f,i,j,k,l,m⟩:=a.three;go_wp2
 go_ret
 exact⟨rfl,c⟩
