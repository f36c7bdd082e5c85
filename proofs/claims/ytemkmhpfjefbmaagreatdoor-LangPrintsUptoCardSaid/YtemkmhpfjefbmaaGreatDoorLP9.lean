/- Laws beneath the statement. -/
import Derived.Test.YtemkmhpfjefbmaaGreatDoorLP8
import Derived.Test.YtemkmhpfjefbmaaGreatDoorLP5
namespace Go.Proofs.YtemkmhpfjefbmaaGreatDoor
set_option linter.defProp false
open Tryz
set_option maxRecDepth 100000
open Go.RowKit
section
set_option maxHeartbeats 4000000
def XA(z n:Int):Int:=if 0<=n then z*2^n.toNat else z / 2^(-n).toNat
def nF(b:Bool)(v k:Nat):Qe b (v*2^k)=Qe b v*2^k:=by
 grind[Qe]
theorem wG{z:Int}{k a:Nat}(h:z.natAbs<2^k)(c:k<=a):z / 2^k=z / 2^a:=by
 have key:∀j:Nat,z.natAbs<2^j->z / 2^j=if z<0 then -1 else 0:=by
  intro j d;have b:((2^j:Nat):Int)=2^j:=x6;rw[<- b];generalize 2^j=M at *;split
  ·have e:z=((M:Int)-z.natAbs)+(M:Int)*(-1):=x3;rw[e,Int.add_mul_ediv_left _ _ x3,Int.ediv_eq_zero_of_lt x3 x3];rfl
  ·exact Int.ediv_eq_zero_of_lt x3 x3
 grind[L9,Lh]
def rS{v m:Nat}(e:v≠0):(tz v<m↔v % 2^m≠0):=by
 let⟨r,b⟩:=Ck e;generalize tz v=t at *;constructor
 ·intro f h;have c:=Nat.dvd_of_mod_eq_zero h;obtain⟨d,rfl⟩:∃d,m=t+1+d:=⟨m-t-1,x3⟩
  rw[b,Sf,Lz]at c;have a:=Nat.dvd_of_mul_dvd_mul_left (R6 t) c;rw[Lz]at a;have i:2 ∣ 2*r+1:=Nat.dvd_trans ⟨2^d,by rw[Tu]⟩ a;omega
 ·intro h;apply Uw;intro g;apply h;obtain⟨d,rfl⟩:∃d,t=m+d:=⟨t-m,x3⟩
  rw[b,Lz,R9];exact Nat.mul_mod_right _ _
theorem lg(s:ByteArray)(b:Bool)(n:Int)(w:World)(o:s.size<=4294967296)(y:0<=n)(p:n<=68719476736):
  xP prog 144 #[.agg #[.bool b,.string s],.int .i64 n] w (.agg #[.bool (neg (Qe b (Qa s)*2^n.toNat)),.string (QJ (Qe b (Qa s)*2^n.toNat))]):=by
 have q:=x0f (λW=>oC s n W o p);have k:=x0f (λW=>ZM (QL (Qa s*2^n.toNat)) b W);rw[XT,nF]at k;go_enter func144,ntmps144
 go_wp2_with fail
 have l:=(Bx.new w 30 #[.bool b,.string s]).alloc (.cells #[.bool false,.string ⟨#[]⟩] 30);have j:=Bx.at1 w (.cells #[.bool b,.string s] 30) 30 #[.bool false,.string ⟨#[]⟩];have r:=b2 w (.cells #[.bool b,.string s] 30) (.cells #[.bool false,.string ⟨#[]⟩] 30);generalize (w.alloc (.cells #[.bool b,.string s] 30)).alloc (.cells #[.bool false,.string ⟨#[]⟩] 30)=t at *;have u:=l.lt;have x:=j.lt;let⟨d,f,z,A⟩:=(l).two;let⟨q1,B,C,D⟩:=(j).two;go_region_held3 (λi=>i.cell? ⟨w.heap.size,0,none⟩=some (.bool b)/\i.cell? ⟨w.heap.size,1,none⟩=some (.string s)) (first|exact⟨d,f⟩|exact⟨Lj c d,Lj c f⟩|exact⟨Lj a (Lj c d),Lj a (Lj c f)⟩|exact⟨Jb (Lj a (Lj c d)) x3 _ _,Jb (Lj a (Lj c f)) x3 _ _⟩|exact⟨Lj (b1 m _) (Lj a (Lj c d)),Lj (b1 m _) (Lj a (Lj c f))⟩)
  (first
   |(go_at_call 193;refine(q.out t.drew).mono ?_;rintro e wn ⟨rfl,g⟩;have c:=F5 g;clear g)
   |(go_at_call 194;refine(k.out wn).mono ?_;rintro e m ⟨rfl,a⟩;let⟨E,F,G,H⟩:=((j.later c).later a).two))
 go_wp2
 exact bodyPost_ret (v:=.agg #[.bool (neg (Qe b (Qa s)*2^n.toNat)),.string (QJ (Qe b (Qa s)*2^n.toNat))]) (by simp[results,results144,go_sem,(((j.later c).later a).set2 _ _).cel]) rfl ⟨rfl,aq (nxt (nxt r c) a) (Rm _ 1) _ _⟩
def eP(s:xM)(n:Int)(m:Nat)(w:xH)(f:s.size<=4294967296)(_hs2:s.size<=536870912)(l:n<0)(g:max n (-1099511627776)=-(m:Int))(h:m<=1099511627776)(b:TabAt 4 Lib.deBruijn64tab w):
  xP prog 144 #[.agg #[Ξ false,Ψ s],Θ n] w (.agg #[Ξ (neg (Qe false (Qa s / 2^m))),Ψ (QJ (Qe false (Qa s / 2^m)))]):=by
 have c:=λW=>EE s (m:Int) W f x3
 simp only[Sm]at c;have d:=λW=>ZM (QL (Qa s / 2^m)) false W
 rw[XT]at d;have a:IntKind.i64.wrap (- -(m:Int))=(m:Int):=by rw[U6];exact Le _ x3
 exact
 RetAt.at<|rk [.br false,x03 3 1 (Θ ((-(m:Int)))),.reg 10 [],x05 4 3 (iV (m:Int)),x04 4 4 (sV (QL (Qa s / 2^m))),x04 4 8 (.agg [bV (neg (Qe false (Qa s / 2^m))),sV (QJ (Qe false (Qa s / 2^m)))])] λW j k=>(λ(b:QV W)=>KJ (Lc x3:decide (n>=0)=false) (show Qp prog W (Builtin.max_ #[3,3] 3 #[Θ n,Θ (-1099511627776)]) (Θ ((-(m:Int))))from by rw[<- g];exact VW _ _ _ _ _ _ _) (wn a) (Cr W c) (Cr W d)<|k) (Ql b j)
def aW(s:xM)(n:Int)(m:Nat)(w:xH)(a:s.size<=4294967296)(_hs2:s.size<=536870912)(r:n<0)(h:max n (-1099511627776)=-(m:Int))(i:m<=1099511627776)(j:Qa s=0)(c:TabAt 4 Lib.deBruijn64tab w):
  xP prog 144 #[.agg #[Ξ true,Ψ s],Θ n] w (.agg #[Ξ (neg (Qe true (Qa s / 2^m))),Ψ (QJ (Qe true (Qa s / 2^m)))]):=by
 have d:=λW=>EE s (m:Int) W a x3
 simp only[Sm]at d;have f:=λW=>ZM (QL (Qa s / 2^m)) true W
 rw[XT]at f;have b:IntKind.i64.wrap (- -(m:Int))=(m:Int):=by rw[U6];exact Le _ x3
 have l:=λW=>ED s W a
 have t:=λW=>Be s W a
 have u:nd 1 (Qa s)=0:=by rw[j];rfl
 exact
 RetAt.at<|rk [.br false,x03 3 1 (Θ ((-(m:Int)))),.reg 10 [],x05 4 3 (iV (m:Int)),x04 4 4 (sV (QL (Qa s / 2^m))),x04 4 8 (.agg [bV (neg (Qe true (Qa s / 2^m))),sV (QJ (Qe true (Qa s / 2^m)))]),x04 5 5 (iV ((nd 1 (Qa s):Nat):Int)),.g 5 9 false] λW p q=>(λ(c:QV W)=>GL (Lc x3:decide (n>=0)=false) (show Qp prog W (Builtin.max_ #[3,3] 3 #[Θ n,Θ (-1099511627776)]) (Θ ((-(m:Int))))from by rw[<- h];exact VW _ _ _ _ _ _ _) (wn b) (Cr W d) (Cr W f) (Cr W l) (show(decide (((nd 1 (Qa s):Nat):Int)>0))=false from Lc x3)<|q) (Ql c p)
def aV(s:xM)(n:Int)(m:Nat)(w:xH)(b:s.size<=4294967296)(_hs2:s.size<=536870912)(t:n<0)(i:max n (-1099511627776)=-(m:Int))(j:m<=1099511627776)(d:Qa s≠0)(u:Qa s % 2^m=0)(c:TabAt 4 Lib.deBruijn64tab w):
  xP prog 144 #[.agg #[Ξ true,Ψ s],Θ n] w (.agg #[Ξ (neg (Qe true (Qa s / 2^m))),Ψ (QJ (Qe true (Qa s / 2^m)))]):=by
 have f:=λW=>EE s (m:Int) W b x3
 simp only[Sm]at f;have h:=λW=>ZM (QL (Qa s / 2^m)) true W
 rw[XT]at h;have a:IntKind.i64.wrap (- -(m:Int))=(m:Int):=by rw[U6];exact Le _ x3
 have l:=λW=>ED s W b
 have p:=λW=>Be s W b
 have v:0<nd 1 (Qa s):=GV _ d;have x:=@rS (Qa s) m d;exact
 RetAt.at<|rk [.br false,x03 3 1 (Θ ((-(m:Int)))),.reg 10 [],x05 4 3 (iV (m:Int)),x04 4 4 (sV (QL (Qa s / 2^m))),x04 4 8 (.agg [bV (neg (Qe true (Qa s / 2^m))),sV (QJ (Qe true (Qa s / 2^m)))]),x04 5 5 (iV ((nd 1 (Qa s):Nat):Int)),.g 5 9 true,x04 5 11 (iV ((tz (Qa s):Nat):Int)),x05 5 13 (iV (m:Int)),.br false] λW q r=>(λ(c:QV W)=>Yx (Lc x3:decide (n>=0)=false) (show Qp prog W (Builtin.max_ #[3,3] 3 #[Θ n,Θ (-1099511627776)]) (Θ ((-(m:Int))))from by rw[<- i];exact VW _ _ _ _ _ _ _) (wn a) (Cr W f) (Cr W h) (Cr W l) (show(decide (((nd 1 (Qa s):Nat):Int)>0))=true from Lk x3) (sa c p)<|X0 (wn a) (show(decide (((tz (Qa s):Nat):Int)<(m:Int)))=false from Lc x3)<|r) (Ql c q)
def eO(s:xM)(n:Int)(m:Nat)(w:xH)(b:s.size<=4294967296)(c:s.size<=536870912)(v:n<0)(k:max n (-1099511627776)=-(m:Int))(l:m<=1099511627776)(h:Qa s≠0)(x:Qa s % 2^m≠0)(d:TabAt 4 Lib.deBruijn64tab w):
  xP prog 144 #[.agg #[Ξ true,Ψ s],Θ n] w (.agg #[Ξ (neg (Qe true (Qa s / 2^m)-1)),Ψ (QJ (Qe true (Qa s / 2^m)-1))]):=by
 have i:=λW=>EE s (m:Int) W b x3
 simp only[Sm]at i;have j:=λW=>ZM (QL (Qa s / 2^m)) true W
 rw[XT]at j;have a:IntKind.i64.wrap (- -(m:Int))=(m:Int):=by rw[U6];exact Le _ x3
 have q:=λW=>ED s W b
 have r:=λW=>Be s W b
 have z:0<nd 1 (Qa s):=GV _ h;have A:=@rS (Qa s) m h;have f:(QJ (Qe true (Qa s / 2^m))).size<=536870912:=by
   rw[XU];refine L6 (J0 (y:=Qe true (Qa s)) ?_) (L6 (GN _ _) c);rw[Xd,Xd];exact Rn _ _
 have cS:=λW=>Nw (QJ (Qe true (Qa s / 2^m))) (QJ 1) (neg (Qe true (Qa s / 2^m))) (neg 1) W f x4
 rw[Xp,Xp]at cS;exact
 RetAt.at<|rk [.br false,x03 3 1 (Θ ((-(m:Int)))),.reg 10 [],x05 4 3 (iV (m:Int)),x04 4 4 (sV (QL (Qa s / 2^m))),x04 4 8 (.agg [bV (neg (Qe true (Qa s / 2^m))),sV (QJ (Qe true (Qa s / 2^m)))]),x04 5 5 (iV ((nd 1 (Qa s):Nat):Int)),.g 5 9 true,x04 5 11 (iV ((tz (Qa s):Nat):Int)),x05 5 13 (iV (m:Int)),.br true,.reg 3 [],x04 6 1 (.agg [bV (neg 1),sV (QJ 1)]),x04 6 2 (.agg [bV (neg ((Qe true (Qa s / 2^m))-1)),sV (QJ ((Qe true (Qa s / 2^m))-1))])] λW t u=>(λ(d:QV W)=>Yx (Lc x3:decide (n>=0)=false) (show Qp prog W (Builtin.max_ #[3,3] 3 #[Θ n,Θ (-1099511627776)]) (Θ ((-(m:Int))))from by rw[<- k];exact VW _ _ _ _ _ _ _) (wn a) (Cr W i) (Cr W j) (Cr W q) (show(decide (((nd 1 (Qa s):Nat):Int)>0))=true from Lk x3) (sa d r)<|Ky (wn a) (show(decide (((tz (Qa s):Nat):Int)<(m:Int)))=true from Lk x3) (Cr W λW=>Cm 1 W x4 x4) (Cr W cS)<|u) (Ql d t)
theorem CZ(s:xM)(b:Bool)(n:Int)(w:xH)(d:s.size<=536870912)(p:n<=68719476736)(k:-9223372036854775808<=n)(f:TabAt 4 Lib.deBruijn64tab w):
  xP prog 144 #[.agg #[.bool b,.string s],.int .i64 n] w (.agg #[.bool (neg (XA (Qe b (Qa s)) n)),.string (QJ (XA (Qe b (Qa s)) n))]):=by
 have a:s.size<=4294967296:=x3;by_cases o:0<=n
 ·have e:XA (Qe b (Qa s)) n=Qe b (Qa s)*2^n.toNat:=by unfold XA;rw[if_pos o]
  rw[e]
  grind[lg]
 ·obtain⟨m,g⟩:∃m:Nat,max n (-1099511627776)=-(m:Int):=⟨(max n (-1099511627776)).natAbs,x3⟩
  have c:m<=1099511627776:=x3;obtain⟨K,q⟩:∃K:Nat,K=1099511627776:=⟨_,rfl⟩
  have j:Qa s<2^K:=by
   refine L9 (Dk s) ?_
   rw[show 256=2^8 from rfl,<- T1];exact Lh x4 x3
  have e:XA (Qe b (Qa s)) n=Qe b (Qa s) / 2^m:=by
   grind[XA,wG,Xd]
  rw[e,kI];clear e j;cases b
  ·rw[if_neg x6,Int.sub_zero];exact eP s n m w a d x3 g c f
  ·by_cases h:Qa s=0
   ·rw[if_neg (by rw[h];simp),Int.sub_zero];exact aW s n m w a d x3 g c h f
   ·by_cases i:Qa s % 2^m=0
    ·rw[if_neg (by simp[i]),Int.sub_zero];exact aV s n m w a d x3 g c h i f
    ·rw[if_pos ⟨rfl,i⟩];exact eO s n m w a d x3 g c h i f
def ah(z:Int)(t:Nat):XA z (-(t:Int))=z / 2^t:=by
 grind[XA]
def iS{s:xM}(h:Qa s≠0):tz (Qa s)<=8*s.size:=by
 let⟨q,c⟩:=Ck h;have a:=Dk s;rw[show 256=2^8 from rfl,<- T1]at a;have b:2^tz (Qa s)<=Qa s:=by
  grind
 have d:=(Ud (by decide:1<2)).1 (Lw b a);omega
def tB(s:ByteArray)(b:Bool)(e k:Int)(w:World)(g:s.size<=536870912)(i:-9223372036854775808<=e-k)(j:e-k<=68719476736)(l:TabAt 4 Lib.deBruijn64tab w):
  xP prog 152 #[.int .i64 k,.agg #[.bool b,.string s,.int .i64 e]] w (.agg #[.bool (neg (XA (Qe b (Qa s)) (e-k))),.string (QJ (XA (Qe b (Qa s)) (e-k)))]):=by
 have A:=x0f l;have D:IntKind.i64.wrap (e-k)=e-k:=Le _ x3;have cS:=x0f (λW (h:TabAt 4 Lib.deBruijn64tab W)=>CZ s b (e-k) W g j i h);clear l g i j;go_enter func152,ntmps152
 go_upto_region 1 with(fail)
 have c:=(Bx.new w 32 #[.bool b,.string s,.int .i64 e]).alloc (.cells #[.bool false,.string ⟨#[]⟩] 30);have a:=Bx.at1 w (.cells #[.bool b,.string s,.int .i64 e] 32) 30 #[.bool false,.string ⟨#[]⟩];have d:=b2 w (.cells #[.bool b,.string s,.int .i64 e] 32) (.cells #[.bool false,.string ⟨#[]⟩] 30);generalize (w.alloc (.cells #[.bool b,.string s,.int .i64 e] 32)).alloc (.cells #[.bool false,.string ⟨#[]⟩] 30)=E at *;have B:=c.lt;have C:=a.lt;let⟨m,n,o,p,q,t⟩:=c.three;let⟨q1,u,x,y⟩:=a.two;go_wp2_with fail
 refine(cS.out _ (Ql A.out d)).mono ?_
 rintro e F ⟨rfl,f⟩;replace c:=c.later f;replace a:=a.later f;replace d:=nxt d f;clear f;clear m n p q o t q1 u x y;let⟨m,n,o,p,q,t⟩:=c.three;let⟨q1,u,x,y⟩:=a.two;go_wp2_with fail
 exact bodyPost_ret (v:=.agg #[.bool (neg (XA (Qe b (Qa s)) (e-k))),.string (QJ (XA (Qe b (Qa s)) (e-k)))]) (by simp[results,results152,go_sem,(a.set2 _ _).cel]) rfl ⟨rfl,aq d (Rm _ 1) _ _⟩
def bK(s:ByteArray)(b:Bool)(e:Int)(w:World)(g:Qe b (Qa s)=0):
  xP prog 106 #[.agg #[.bool b,.string s],.int .i64 e] w (.agg #[.bool false,.string ⟨#[]⟩,.int .i64 0]):=by
 have i:=x0f (λW=>GI s b W);rw[g,show JZ 0=0 from rfl]at i;clear g;go_enter func106,ntmps106
 go_upto_region 1 with(fail)
 have c:=(Bx.new w 30 #[.bool b,.string s]).alloc (.cells #[.bool false,.string ⟨#[]⟩,.int .i64 (0)] 32);have a:=Bx.at1 w (.cells #[.bool b,.string s] 30) 32 #[.bool false,.string ⟨#[]⟩,.int .i64 (0)];have f:=b2 w (.cells #[.bool b,.string s] 30) (.cells #[.bool false,.string ⟨#[]⟩,.int .i64 (0)] 32);generalize (w.alloc (.cells #[.bool b,.string s] 30)).alloc (.cells #[.bool false,.string ⟨#[]⟩,.int .i64 (0)] 32)=z at *;have x:=c.lt;have y:=a.lt;let⟨j,k,l,m⟩:=c.two;let⟨q1,n,o,p,q,t⟩:=a.three;go_wp2_with fail
 refine(i.out _).mono ?_
 rintro e A ⟨rfl,d⟩;replace c:=c.later d;replace a:=a.later d;replace f:=nxt f d;clear d;clear j k l m q1 n p q o t;let⟨j,k,l,m⟩:=c.two;let⟨q1,n,o,p,q,t⟩:=a.three;go_wp2_with fail
 exact bodyPost_ret (v:=.agg #[.bool false,.string ⟨#[]⟩,.int .i64 0]) (by simp[results,results106,go_sem,(a.set3 _ _ _).cel]) rfl ⟨rfl,m6 f (Rm _ 1) _ _ _⟩
def bJ(s:ByteArray)(b:Bool)(e g q:Int)(t:Nat)(w:World)(J:g≠0)(y:-4611686018427387904<=e)(z:e<=4611686018427387904)(C:t<=68719476736)(A:TabAt 4 Lib.deBruijn64tab w)(D:Hid (∀W:World,xP prog 113 #[.agg #[.bool b,.string s]] W (.int .i64 g)))(E:Hid (∀W:World,TabAt 4 Lib.deBruijn64tab W->xP prog 143 #[.string s] W (.int .i64 (t:Nat))))(cS:Hid (∀W:World,TabAt 4 Lib.deBruijn64tab W->xP prog 144 #[.agg #[.bool b,.string s],.int .i64 (-(t:Int))] W (.agg #[.bool (neg q),.string (QJ q)]))):
  xP prog 106 #[.agg #[.bool b,.string s],.int .i64 e] w (.agg #[.bool (neg q),.string (QJ q),.int .i64 (e+t)]):=by
 have B:=x0f A;have F:IntKind.i64.wrap (e+t)=e+t:=Le _ x3;have G:IntKind.i64.wrap (-(t:Int))=-(t:Int):=Le _ x3;clear A y z C;go_enter func106,ntmps106
 go_upto_region 1 with(fail)
 have d:=(Bx.new w 30 #[.bool b,.string s]).alloc (.cells #[.bool false,.string ⟨#[]⟩,.int .i64 (0)] 32);have c:=Bx.at1 w (.cells #[.bool b,.string s] 30) 32 #[.bool false,.string ⟨#[]⟩,.int .i64 (0)];have f:=b2 w (.cells #[.bool b,.string s] 30) (.cells #[.bool false,.string ⟨#[]⟩,.int .i64 (0)] 32);generalize (w.alloc (.cells #[.bool b,.string s] 30)).alloc (.cells #[.bool false,.string ⟨#[]⟩,.int .i64 (0)] 32)=K at *;have H:=d.lt;have I:=c.lt;let⟨j,k,l,m⟩:=d.two;let⟨q1,n,o,p,u,x⟩:=c.three;go_wp2_with fail
 refine(D.out _).mono ?_
 rintro e L ⟨rfl,a⟩;replace d:=d.later a;replace c:=c.later a;replace f:=nxt f a;clear a;clear j k l m q1 n p u o x;let⟨j,k,l,m⟩:=d.two;let⟨q1,n,o,p,u,x⟩:=c.three;go_wp2_with fail
 refine(E.out _ (Ql B.out f)).mono ?_
 rintro e M ⟨rfl,a⟩;replace d:=d.later a;replace c:=c.later a;replace f:=nxt f a;clear a;clear j k l m q1 n p u o x;let⟨j,k,l,m⟩:=d.two;let⟨q1,n,o,p,u,x⟩:=c.three;go_wp2_with fail
 refine(cS.out _ (Ql B.out f)).mono ?_
 rintro e N ⟨rfl,a⟩;replace d:=d.later a;replace c:=c.later a;replace f:=nxt f a;clear a;clear j k l m q1 n p u o x;let⟨j,k,l,m⟩:=d.two;let⟨q1,n,o,p,u,x⟩:=c.three;go_wp2_with fail
 exact bodyPost_ret (v:=.agg #[.bool (neg q),.string (QJ q),.int .i64 (e+t)]) (by simp[results,results106,go_sem,(c.set3 _ _ _).cel]) rfl ⟨rfl,m6 f (Rm _ 1) _ _ _⟩
def AF(s:xM)(b:Bool)(e:Int)(w:xH)(i:s.size<=536870912)(c:-4611686018427387904<=e)(d:e<=4611686018427387904)(j:TabAt 4 Lib.deBruijn64tab w):
  xP prog 106 #[.agg #[.bool b,.string s],.int .i64 e] w (.agg #[.bool (neg (dm (dy (Qe b (Qa s)) e))),.string (QJ (dm (dy (Qe b (Qa s)) e))),.int .i64 (de (dy (Qe b (Qa s)) e))]):=by
 by_cases a:Qe b (Qa s)=0
 ·have h:=bK s b e w a;rw[a,Jj];exact h
 ·have l:Qa s≠0:=λh=>a (by rw[h,Ox])
  have m:=iS l;let⟨f,g⟩:=UQ e a;rw[Xd]at f g;rw[f,g];have cS:=x0f (λW (h:TabAt 4 Lib.deBruijn64tab W)=>CZ s b (-(tz (Qa s):Nat)) W i x3 x3 h);rw[ah]at cS;exact bJ s b e _ _ (tz (Qa s)) w (λh=>a (sgn_eq.1 h)) c d x3 j (x0f (λW=>GI s b W)) (x0f (λW h=>Be s W x3 h)) cS
def tx(s:ByteArray)(b:Bool)(e:Int)(x:Dyadic)(w:World)(i:TabAt 4 Lib.deBruijn64tab w)(z:Hid (∀W:World,TabAt 4 Lib.deBruijn64tab W->xP prog 106 #[.agg #[.bool b,.string s],.int .i64 e] W (.agg #[.bool (neg (dm x)),.string (QJ (dm x)),.int .i64 (de x)]))):
  xP prog 59 #[.agg #[.bool b,.string s,.int .i64 e]] w (.agg #[.bool (neg (dm x)),.string (QJ (dm x)),.int .i64 (de x)]):=by
 have A:=x0f i;clear i;go_enter func59,ntmps59
 go_upto_region 1 with(fail)
 have c:=(Bx.new w 32 #[.bool b,.string s,.int .i64 e]).alloc (.cells #[.bool false,.string ⟨#[]⟩,.int .i64 (0)] 32);have a:=Bx.at1 w (.cells #[.bool b,.string s,.int .i64 e] 32) 32 #[.bool false,.string ⟨#[]⟩,.int .i64 (0)];have d:=b2 w (.cells #[.bool b,.string s,.int .i64 e] 32) (.cells #[.bool false,.string ⟨#[]⟩,.int .i64 (0)] 32);generalize (w.alloc (.cells #[.bool b,.string s,.int .i64 e] 32)).alloc (.cells #[.bool false,.string ⟨#[]⟩,.int .i64 (0)] 32)=D at *;have B:=c.lt;have C:=a.lt;let⟨j,k,l,m,n,o⟩:=c.three;let⟨q1,p,q,t,u,y⟩:=a.three;go_wp2_with fail
 refine(z.out _ (Ql A.out d)).mono ?_
 rintro e E ⟨rfl,f⟩;replace c:=c.later f;replace a:=a.later f;replace d:=nxt d f;clear f;clear j k m n l o q1 p t u q y;let⟨j,k,l,m,n,o⟩:=c.three;let⟨q1,p,q,t,u,y⟩:=a.three;go_wp2_with fail
 exact bodyPost_ret (v:=.agg #[.bool (neg (dm x)),.string (QJ (dm x)),.int .i64 (de x)]) (by simp[results,results59,go_sem,(a.set3 _ _ _).cel]) rfl ⟨rfl,m6 d (Rm _ 1) _ _ _⟩
def KA(s:xM)(b:Bool)(e:Int)(w:xH)(d:s.size<=536870912)(a:-4611686018427387904<=e)(c:e<=4611686018427387904)(f:TabAt 4 Lib.deBruijn64tab w):
  xP prog 59 #[.agg #[.bool b,.string s,.int .i64 e]] w (.agg #[.bool (neg (dm (dy (Qe b (Qa s)) e))),.string (QJ (dm (dy (Qe b (Qa s)) e))),.int .i64 (de (dy (Qe b (Qa s)) e))]):=by
 exact tx s b e _ w f (x0f (λW h=>AF s b e W d a c h))
def GB(s:ByteArray)(b:Bool)(e:Int)(w:World):
  xP prog 65 #[.agg #[.bool b,.string s,.int .i64 e]] w (.int .i64 (GP (dy (Qe b (Qa s)) e))):=by
 rw[Ig];have o:=x0f (λW=>GI s b W);generalize JZ (Qe b (Qa s))=g at *;go_enter func65,ntmps65
 go_upto_region 1 with(fail)
 have a:=Bx.new w 32 #[.bool b,.string s,.int .i64 e];have c:=b1 w (.cells #[.bool b,.string s,.int .i64 e] 32);generalize w.alloc (.cells #[.bool b,.string s,.int .i64 e] 32)=q at *;have p:=a.lt;let⟨f,i,j,k,l,m⟩:=a.three;go_wp2_with fail
 refine(o.out _).mono ?_
 rintro e t ⟨rfl,d⟩;replace a:=a.later d;replace c:=nxt c d;clear d;clear f i k l j m;let⟨f,i,j,k,l,m⟩:=a.three;go_wp2
 go_ret
 exact⟨rfl,c⟩
end
def TM(W:World)(x y:Operand)(a b:Bool):Qp prog W (do eqGuard .neq 4 x y (.bool a) (.bool b);binOp .neq 4 (.bool a) (.bool b)) (.bool (a != b)):=λc _=>by
 simp[go_sem];cases a<;>cases b<;>rfl
def wQ(W:World)(x y:Operand):Qp prog W (do eqGuard .neq 9 x y (.string ⟨#[]⟩) (.string ⟨#[]⟩);binOp .neq 9 (.string ⟨#[]⟩) (.string ⟨#[]⟩)) (.bool false):=λa _=>by
 simp[go_sem]
def Qca{s t:xM}{b c:Bool}{q:Nat}(j:∀W,xP prog 160 #[Ψ s,Ψ t] W (.tuple #[Ψ (QL q),x00,Ξ true]))(w:xH):RetAt prog w 203 #[.agg #[Ξ b,Ψ s],.agg #[Ξ c,Ψ t]] (.tuple #[.agg #[Ξ (neg (Qe (b != c) q)),Ψ (QJ (Qe (b != c) q))],.agg #[Ξ false,x00],Ξ true]):=by
 have i:=λW=>E4 (QL q) false W
 have f:=λW=>Cl (QL q) false W
 have g:=λW=>Cl (QJ (-(q:Int))) (neg (-(q:Int))) W
 rw[XT]at i f;rw[Xp]at g;have a:(b != c)=true->(.tuple #[.agg #[Ξ (neg (-(q:Int))),Ψ (QJ (-(q:Int)))],.agg #[Ξ false,x00],Ξ true]:y9)=.tuple #[.agg #[Ξ (neg (Qe (b != c) q)),Ψ (QJ (Qe (b != c) q))],.agg #[Ξ false,x00],Ξ true]:=λh=>by rw[h];rfl
 have d:(b != c)=false->(.tuple #[.agg #[Ξ (neg (q:Int)),Ψ (QJ (q:Int))],.agg #[Ξ false,x00],Ξ true]:y9)=.tuple #[.agg #[Ξ (neg (Qe (b != c) q)),Ψ (QJ (Qe (b != c) q))],.agg #[Ξ false,x00],Ξ true]:=λh=>by rw[h];rfl
 exact
 rk [x04 1 4 (.tup [sV (QL q),sV ⟨#[]⟩,bV true]),.gb 5 3 [x03 5 4 (Ξ false),x03 8 4 (Ξ (b != c)),.both [x04 9 1 (.agg [bV (neg (-(q:Int))),sV (QJ (-(q:Int)))]),.ord,.both [.both [x04 10 1 (.agg [bV (neg (-(q:Int))),sV (QJ (-(q:Int)))]),.both [] []] [x04 10 1 (.agg [bV (neg (-(q:Int))),sV (QJ (-(q:Int)))])]] [x04 10 1 (.agg [bV (neg (-(q:Int))),sV (QJ (-(q:Int)))])]] [.ord,.both [.both [x04 10 1 (.agg [bV (neg (q:Int)),sV (QJ (q:Int))]),.both [] []] [x04 10 1 (.agg [bV (neg (q:Int)),sV (QJ (q:Int))])]] [x04 10 1 (.agg [bV (neg (q:Int)),sV (QJ (q:Int))])]]] [x03 8 4 (Ξ (b != c)),.both [x04 9 1 (.agg [bV (neg (-(q:Int))),sV (QJ (-(q:Int)))]),.ord,.both [.both [x04 10 1 (.agg [bV (neg (-(q:Int))),sV (QJ (-(q:Int)))]),.both [] []] [x04 10 1 (.agg [bV (neg (-(q:Int))),sV (QJ (-(q:Int)))])]] [x04 10 1 (.agg [bV (neg (-(q:Int))),sV (QJ (-(q:Int)))])]] [.ord,.both [.both [x04 10 1 (.agg [bV (neg (q:Int)),sV (QJ (q:Int))]),.both [] []] [x04 10 1 (.agg [bV (neg (q:Int)),sV (QJ (q:Int))])]] [x04 10 1 (.agg [bV (neg (q:Int)),sV (QJ (q:Int))])]]]] λW m n=>ai (Cr W j)<|ZD b true (λl=>X0 (wQ W (.tmp 29) (.const (x00))) (TM W (.tmp 42) (.tmp 44) b c)<|Xi (b != c) (λh=>ai (Cr W i)<|(p0 ((p0 (ai (Cr W g)<|(p0 ((a h)) ((a h)))) (ai (Cr W g)<|(a h)))) (ai (Cr W g)<|(a h)))) λh=>(p0 ((p0 (ai (Cr W f)<|(p0 ((d h)) ((d h)))) (ai (Cr W f)<|(d h)))) (ai (Cr W f)<|(d h)))) λl=>ai (TM W (.tmp 42) (.tmp 44) b c)<|Xi (b != c) (λh=>ai (Cr W i)<|(p0 ((p0 (ai (Cr W g)<|(p0 ((a h)) ((a h)))) (ai (Cr W g)<|(a h)))) (ai (Cr W g)<|(a h)))) λh=>(p0 ((p0 (ai (Cr W f)<|(p0 ((d h)) ((d h)))) (ai (Cr W f)<|(d h)))) (ai (Cr W f)<|(d h)))
def xz{x y:Int}(W:xH)(i:Zr x<=536870912)(j:Zr y<=536870912)(k:y≠0)(a:x % y=0):
  xP prog 203 #[.agg #[.bool (neg x),.string (QJ x)],.agg #[.bool (neg y),.string (QJ y)]] W (.tuple #[.agg #[.bool (neg (x / y)),.string (QJ (x / y))],.agg #[.bool (neg (x % y)),.string (QJ (x % y))],.bool true]):=by
 have g:0<Qa (QJ y):=by rw[VM];omega
 have b:Qa (QJ x) % Qa (QJ y)=0:=by
  grind[VM,Nat.mod_eq_zero_of_dvd,Int.natAbs_dvd_natAbs,Int.dvd_of_emod_eq_zero]
 have d:=(Od (neg x) (neg y) (Qa (QJ x)) (Qa (QJ y)) g).1;rw[if_neg (λh=>h.2 b),Xp,Xp]at d;rw[d,show QJ (x % y)=⟨#[]⟩by rw[a];rfl,show neg (x % y)=false by rw[a];rfl];exact(Qca (λW=>by
  have c:=Wx (QJ x) (QJ y) W (by rw[XU];omega) (by rw[XU];omega);rw[if_neg x3,b]at c;exact c) W).at
