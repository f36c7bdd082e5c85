/- Laws beneath the statement. -/
import Derived.Test.YtoibldcmoapgbaaGreatDoorQP17
namespace Go.Proofs.YtoibldcmoapgbaaGreatDoor
open Tryz
set_option maxHeartbeats 4000000
set_option maxRecDepth 100000
open Go.RowKit
variable{w:World}{g L:Nat}{k e f:Int}{t s:ByteArray}{x y:Dyadic}{b c:Bool}
theorem Bx.far3{a i j k:Nat}{t:u6}{cs:b7}(h:Bx w g t cs)(b:g≠a)(u v s:z0): Bx (((w.setCell ⟨a,i,none⟩ u).setCell ⟨a,j,none⟩ v).setCell ⟨a,k,none⟩ s) g t cs:=(h.far2 b u v).far (p:=⟨a,k,none⟩) b s
theorem tP(s:u4)(b:Bool)(e m:Int)(x:Dyadic)(w:y9)(c:TabAt 4 Lib.deBruijn64tab w)(d:Hid (∀W:y9,b9 prog 172 #[.agg #[Ξ b,Ψ s]] W (.agg #[Ξ (neg m),Ψ (Qx m)])))(f:Hid (∀W:y9,TabAt 4 Lib.deBruijn64tab W->b9 prog 90 #[.agg #[Ξ (neg m),Ψ (Qx m)],Θ e] W (.agg #[Ξ (neg (dm x)),Ψ (Qx (dm x)),Θ (de x)])))
  :
  b9 prog 174 #[.agg #[Ξ b,Ψ s,Θ e]] w (.agg #[Ξ (neg (dm x)),Ψ (Qx (dm x)),Θ (de x)]) :=
 RetAt.at<|rk [.reg 6 [],.o 1 2 (.ret (.agg [bV (neg m),sV (Qx m)])),.o 1 5 (.ret (.val (vN x)))] λW g i=>(λ(c:Q0 W)=>X7 (rc W call172 λW=>d.out W) (rt c call90 λW h=>f.out W h)<|i) (Ql c g)
theorem iA(s:u4)(b:Bool)(e:Int)(w:y9)(f:s.size<=536870912)(a:-4611686018427387904<=e)(d:e<=4611686018427387904)(g:TabAt 4 Lib.deBruijn64tab w):
  b9 prog 174 #[.agg #[.bool b,.string s,.int .i64 e]] w (.agg #[.bool (neg (dm (-dy (Qi b (Qa s)) e))),.string (Qx (dm (-dy (Qi b (Qa s)) e))),.int .i64 (de (-dy (Qi b (Qa s)) e))]):=by
 rw[Wh];have j:(Qx (-Qi b (Qa s))).size<=536870912:=by rw[XF,Fp];exact L9 (GD b s) f
 have c:=hV (λW h=>GG (Qx (-Qi b (Qa s))) (neg (-Qi b (Qa s))) e W j a d h);rw[Xg]at c;exact tP s b e _ _ w g (hV (λW=>IU s b W)) c
theorem iw(s t:u4)(b c:Bool)(e f:Int)(b2:Bool)(i:u4)(d:Int)(X Y:Int)(w:y9)(g:TabAt 4 Lib.deBruijn64tab w)(j:Hid (∀W:y9,TabAt 4 Lib.deBruijn64tab W->b9 prog 52 #[.agg #[Ξ b,Ψ s,Θ e]] W (.agg #[Ξ false,x00,Θ 0])))(k:Hid (∀W:y9,TabAt 4 Lib.deBruijn64tab W->b9 prog 52 #[.agg #[Ξ c,Ψ t,Θ f]] W (.agg #[Ξ b2,Ψ i,Θ d])))(l:Hid (∀W:y9,TabAt 4 Lib.deBruijn64tab W->b9 prog 129 #[Θ d,.agg #[Ξ false,x00,Θ 0]] W (.agg #[Ξ (neg X),Ψ (Qx X)])))(m:Hid (∀W:y9,TabAt 4 Lib.deBruijn64tab W->b9 prog 129 #[Θ d,.agg #[Ξ b2,Ψ i,Θ d]] W (.agg #[Ξ (neg Y),Ψ (Qx Y)])))
  :
  b9 prog 98 #[.agg #[Ξ b,Ψ s,Θ e],.agg #[Ξ c,Ψ t,Θ f]] w (.agg #[Θ d,Ξ (neg X),Ψ (Qx X),Ξ (neg Y),Ψ (Qx Y)]) :=
 RetAt.at<|rk [.reg 4 [],.o 1 1 (.ret (.val (rN false ⟨#[]⟩ 0))),.o 1 3 (.ret (.val (rN b2 i d))),.o 2 4 (.set (Θ (min 0 d))),.o 3 2 (.set (Ξ true)),.reg 9 [],.o 8 3 (.ret (.agg [bV (neg X),sV (Qx X)])),.o 8 7 (.ret (.agg [bV (neg Y),sV (Qx Y)]))] λW n p=>(λ(g:Q0 W)=>Gz (rt g call52 λW h=>j.out W h) (rt g call52 λW h=>k.out W h) (Df prog W #[3,3] 3 .i64 0 d) (RJ W (.tmp 17) (.tmp 18) false ⟨#[]⟩ 0) (rt g call129 λW h=>l.out W h) (rt g call129 λW h=>m.out W h)<|p) (Ql g n)
theorem ix(s t:u4)(b c:Bool)(e f:Int)(b1:Bool)(s1:u4)(a:Int)(i:¬ s1.toList=[])(X Y:Int)(w:y9)(g:TabAt 4 Lib.deBruijn64tab w)(j:Hid (∀W:y9,TabAt 4 Lib.deBruijn64tab W->b9 prog 52 #[.agg #[Ξ b,Ψ s,Θ e]] W (.agg #[Ξ b1,Ψ s1,Θ a])))(k:Hid (∀W:y9,TabAt 4 Lib.deBruijn64tab W->b9 prog 52 #[.agg #[Ξ c,Ψ t,Θ f]] W (.agg #[Ξ false,x00,Θ 0])))(l:Hid (∀W:y9,TabAt 4 Lib.deBruijn64tab W->b9 prog 129 #[Θ a,.agg #[Ξ b1,Ψ s1,Θ a]] W (.agg #[Ξ (neg X),Ψ (Qx X)])))(m:Hid (∀W:y9,TabAt 4 Lib.deBruijn64tab W->b9 prog 129 #[Θ a,.agg #[Ξ false,x00,Θ 0]] W (.agg #[Ξ (neg Y),Ψ (Qx Y)])))
  :
  b9 prog 98 #[.agg #[Ξ b,Ψ s,Θ e],.agg #[Ξ c,Ψ t,Θ f]] w (.agg #[Θ a,Ξ (neg X),Ψ (Qx X),Ξ (neg Y),Ψ (Qx Y)]) :=
 RetAt.at<|rk [.reg 4 [],.o 1 1 (.ret (.val (rN b1 s1 a))),.o 1 3 (.ret (.val (rN false ⟨#[]⟩ 0))),.o 2 4 (.set (Θ (min a 0))),.o 3 2 (.set (Ξ false)),.o 5 2 (.set (Ξ true)),.reg 9 [],.o 8 3 (.ret (.agg [bV (neg X),sV (Qx X)])),.o 8 7 (.ret (.agg [bV (neg Y),sV (Qx Y)]))] λW n p=>(λ(g:Q0 W)=>DM (rt g call52 λW h=>j.out W h) (rt g call52 λW h=>k.out W h) (Df prog W #[3,3] 3 .i64 a 0) (WJ W (.tmp 17) (.tmp 18) b1 s1 a i) (RJ W (.tmp 23) (.tmp 24) false ⟨#[]⟩ 0) (rt g call129 λW h=>l.out W h) (rt g call129 λW h=>m.out W h)<|p) (Ql g n)
theorem iy(s t:u4)(b c:Bool)(e f:Int)(b1:Bool)(s1:u4)(d:Int)(l:¬ s1.toList=[])(b2:Bool)(j:u4)(g k:Int)(m:¬ j.toList=[])(n:min d g=k)(X Y:Int)(w:y9)(i:TabAt 4 Lib.deBruijn64tab w)(p:Hid (∀W:y9,TabAt 4 Lib.deBruijn64tab W->b9 prog 52 #[.agg #[Ξ b,Ψ s,Θ e]] W (.agg #[Ξ b1,Ψ s1,Θ d])))(q:Hid (∀W:y9,TabAt 4 Lib.deBruijn64tab W->b9 prog 52 #[.agg #[Ξ c,Ψ t,Θ f]] W (.agg #[Ξ b2,Ψ j,Θ g])))(u:Hid (∀W:y9,TabAt 4 Lib.deBruijn64tab W->b9 prog 129 #[Θ k,.agg #[Ξ b1,Ψ s1,Θ d]] W (.agg #[Ξ (neg X),Ψ (Qx X)])))(v:Hid (∀W:y9,TabAt 4 Lib.deBruijn64tab W->b9 prog 129 #[Θ k,.agg #[Ξ b2,Ψ j,Θ g]] W (.agg #[Ξ (neg Y),Ψ (Qx Y)])))
  :
  b9 prog 98 #[.agg #[Ξ b,Ψ s,Θ e],.agg #[Ξ c,Ψ t,Θ f]] w (.agg #[Θ k,Ξ (neg X),Ψ (Qx X),Ξ (neg Y),Ψ (Qx Y)]) :=
 RetAt.at<|rk [.reg 4 [],.o 1 1 (.ret (.val (rN b1 s1 d))),.o 1 3 (.ret (.val (rN b2 j g))),.o 2 4 (.set (Θ k)),.o 3 2 (.set (Ξ false)),.o 5 2 (.set (Ξ false)),.reg 9 [],.o 8 3 (.ret (.agg [bV (neg X),sV (Qx X)])),.o 8 7 (.ret (.agg [bV (neg Y),sV (Qx Y)]))] λW x y=>(λ(i:Q0 W)=>DM (rt i call52 λW h=>p.out W h) (rt i call52 λW h=>q.out W h) (show Qn prog W (Builtin.min_ #[3,3] 3 #[Θ d,Θ g]) (Θ k)from by rw[<- n];exact Df _ _ _ _ _ _ _) (WJ W (.tmp 17) (.tmp 18) b1 s1 d l) (WJ W (.tmp 23) (.tmp 24) b2 j g m) (rt i call129 λW h=>u.out W h) (rt i call129 λW h=>v.out W h)<|y) (Ql i x)
structure ND (b:Bool) (s:ByteArray) (e:Int) (x:Dyadic):Prop where
 val:dy (Qi b (Qa s)) e=x
 size:s.size<=1048576
 lo:-1073741824<=e
 hi:e<=1073741824
theorem RD{T:Nat}(h:DB L T x)(a:L+T<=4000000): ND (neg (dm x)) (Qx (dm x)) (de x) x:=by
 obtain⟨b,c,_⟩:=V4 h;have d:=Ft h;exact⟨by rw[Xg,Mz],x3,x3,x3⟩
theorem cw(h:ND b s e x): (Qx (dm x)).size<=1048576/\-1073741824<=de x/\de x<=1090519040:=by
 by_cases a:Qi b (Qa s)=0
 ·have c:=h.val;rw[a,JD]at c;subst c;exact⟨by show(Qx 0).size<=_;rw[P3];exact La _,x4,x4⟩
 ·obtain⟨d,f⟩:=bn e a;rw[h.val,Xv]at d f;have j:=dV (s:=s) (λg=>a (by rw[g,MP]));have i:=h.size;have k:=h.lo;have l:=h.hi;refine⟨?_,x3,x3⟩;rw[d,XF];refine L9 (KG (Tu _ _)) (L9 (GD b s) i)
theorem Ii(h:x≠0): ¬(Qx (dm x)).toList=[]:=λa=>h (dm_zero.1 (mag_empty.1 a))
theorem AW(x:Dyadic)(h:k<=de x): dy (Xo (dm x) (de x-k)) k=x:=by
 unfold Xo;rw[if_pos x3,C1];have e:k+((de x-k).toNat:Int)=de x:=x3;rw[e,Mz]
theorem BH(h:k<=de x)(a:(Qx (dm x)).size<=1048576)(b:de x-k<=2164260864): Zq (Xo (dm x) (de x-k))<=300000000:=by
 unfold Xo;rw[if_pos x3];rw[XF]at a;exact L9 (F0 a) x3
theorem Ph:Zq 0=0:=rfl
theorem M9(c:Qi b (Qa s)=dm x)(a:e=de x)(j:s.size<=1048576)(d:-9223372036854775808<=e-k)(f:e-k<=68719476736):
  Hid (∀W:y9,TabAt 4 Lib.deBruijn64tab W->b9 prog 129 #[.int .i64 k,.agg #[.bool b,.string s,.int .i64 e]] W (.agg #[.bool (neg (Xo (dm x) (de x-k))),.string (Qx (Xo (dm x) (de x-k)))])):=by
 have h:=hV (λW (i:TabAt 4 Lib.deBruijn64tab W)=>nW s b e k W x3 d f i);rw[c,a]at h;rw[a];exact h
theorem Mu(d:ND b s e x)(g:ND c t f y):
  ∃k X Y:Int,dy X k=x/\dy Y k=y/\Zq X<=300000000/\Zq Y<=300000000/\-2147483648<=k/\k<=2147483648 /\
   Hid (∀W:y9,TabAt 4 Lib.deBruijn64tab W->b9 prog 98 #[.agg #[.bool b,.string s,.int .i64 e],.agg #[.bool c,.string t,.int .i64 f]] W (.agg #[.int .i64 k,.bool (neg X),.string (Qx X),.bool (neg Y),.string (Qx Y)])):=by
 obtain⟨h,w,z⟩:=cw d;obtain⟨i,A,B⟩:=cw g;have j:=hV (λW (a:TabAt 4 Lib.deBruijn64tab W)=>JS s b e W (L9 d.size x4) (y6 d.lo) (y6 d.hi) a);have l:=hV (λW (a:TabAt 4 Lib.deBruijn64tab W)=>JS t c f W (L9 g.size x4) (y6 g.lo) (y6 g.hi) a);rw[d.val]at j;rw[g.val]at l;by_cases m:x=0
 ·subst m;have n:Xo (dm 0) (de 0-de y)=0:=by
   show Xo 0 _=0;unfold Xo;split<;>simp
  refine⟨de y,0,Xo (dm y) (de y-de y),JD _,AW y (Tw _),by rw[Ph];decide,BH (Tw _) i x3,x3,x3,hV λW a=>?_⟩;have o:=M9 (b:=false) (s:=⟨#[]⟩) (x:=0) (e:=0) (k:=de y) rfl rfl x4 x3 x3;rw[n]at o;exact iw s t b c e f _ _ _ _ _ W a j l o (M9 (Xg _) rfl i x3 x3)
 ·by_cases p:y=0
  ·subst p;have n:Xo (dm 0) (de 0-de x)=0:=by
    show Xo 0 _=0;unfold Xo;split<;>simp
   refine⟨de x,Xo (dm x) (de x-de x),0,AW x (Tw _),JD _,BH (Tw _) h x3,by rw[Ph];decide,x3,x3,hV λW a=>?_⟩;have q:=M9 (b:=false) (s:=⟨#[]⟩) (x:=0) (e:=0) (k:=de x) rfl rfl x4 x3 x3;rw[n]at q;exact ix s t b c e f _ _ _ (Ii m) _ _ W a j l (M9 (Xg _) rfl h x3 x3) q
  ·obtain⟨k,v⟩:∃k,min (de x) (de y)=k:=⟨_,rfl⟩
   refine⟨k,Xo (dm x) (de x-k),Xo (dm y) (de y-k),AW x x3,AW y x3,BH x3 h x3,BH x3 i x3,x3,x3,hV λW a=>?_⟩;exact iy s t b c e f _ _ _ (Ii m) _ _ _ k (Ii p) v _ _ W a j l (M9 (Xg _) rfl h x3 x3) (M9 (Xg _) rfl i x3 x3)
abbrev Hsa:=min 1 (IntKind.i64.wrap ((-1)-0))
theorem tI(s t:u4)(b c:Bool)(e f:Int)(w:y9)(cS:Hid (∀W:y9,b9 prog 58 #[.agg #[Ξ b,Ψ s,Θ e]] W (Θ (-1))))(d:Hid (∀W:y9,b9 prog 58 #[.agg #[Ξ c,Ψ t,Θ f]] W (Θ (0))))
  :
  b9 prog 59 #[.agg #[Ξ b,Ψ s,Θ e],.agg #[Ξ c,Ψ t,Θ f]] w (Θ (-1)) :=
 RetAt.at<|rk [.reg 6 [],.o 1 1 (.ret (iV (-1))),.o 1 3 (.ret (iV 0)),.o 3 3 (.set (Θ Hsa)),.o 3 4 (.set (Θ (max (-1) Hsa)))] λW h g=>Km (rc W call58 λW=>cS.out W) (rc W call58 λW=>d.out W) (Df prog W #[3,3] 3 .i64 1 (IntKind.i64.wrap ((-1)-0))) (K5 prog W #[3,3] 3 .i64 (-1) Hsa)<|g
abbrev Hsb:=min 1 (IntKind.i64.wrap ((-1)-1))
theorem tJ(s t:u4)(b c:Bool)(e f:Int)(w:y9)(cS:Hid (∀W:y9,b9 prog 58 #[.agg #[Ξ b,Ψ s,Θ e]] W (Θ (-1))))(d:Hid (∀W:y9,b9 prog 58 #[.agg #[Ξ c,Ψ t,Θ f]] W (Θ (1))))
  :
  b9 prog 59 #[.agg #[Ξ b,Ψ s,Θ e],.agg #[Ξ c,Ψ t,Θ f]] w (Θ (-1)) :=
 RetAt.at<|rk [.reg 6 [],.o 1 1 (.ret (iV (-1))),.o 1 3 (.ret (iV 1)),.o 3 3 (.set (Θ Hsb)),.o 3 4 (.set (Θ (max (-1) Hsb)))] λW h g=>Km (rc W call58 λW=>cS.out W) (rc W call58 λW=>d.out W) (Df prog W #[3,3] 3 .i64 1 (IntKind.i64.wrap ((-1)-1))) (K5 prog W #[3,3] 3 .i64 (-1) Hsb)<|g
abbrev Hsc:=min 1 (IntKind.i64.wrap (0-(-1)))
theorem tK(s t:u4)(b c:Bool)(e f:Int)(w:y9)(cS:Hid (∀W:y9,b9 prog 58 #[.agg #[Ξ b,Ψ s,Θ e]] W (Θ (0))))(d:Hid (∀W:y9,b9 prog 58 #[.agg #[Ξ c,Ψ t,Θ f]] W (Θ (-1))))
  :
  b9 prog 59 #[.agg #[Ξ b,Ψ s,Θ e],.agg #[Ξ c,Ψ t,Θ f]] w (Θ (1)) :=
 RetAt.at<|rk [.reg 6 [],.o 1 1 (.ret (iV 0)),.o 1 3 (.ret (iV (-1))),.o 3 3 (.set (Θ Hsc)),.o 3 4 (.set (Θ (max (-1) Hsc)))] λW h g=>Km (rc W call58 λW=>cS.out W) (rc W call58 λW=>d.out W) (Df prog W #[3,3] 3 .i64 1 (IntKind.i64.wrap (0-(-1)))) (K5 prog W #[3,3] 3 .i64 (-1) Hsc)<|g
abbrev Hsd:=min 1 (IntKind.i64.wrap (0-1))
theorem tM(s t:u4)(b c:Bool)(e f:Int)(w:y9)(cS:Hid (∀W:y9,b9 prog 58 #[.agg #[Ξ b,Ψ s,Θ e]] W (Θ (0))))(d:Hid (∀W:y9,b9 prog 58 #[.agg #[Ξ c,Ψ t,Θ f]] W (Θ (1))))
  :
  b9 prog 59 #[.agg #[Ξ b,Ψ s,Θ e],.agg #[Ξ c,Ψ t,Θ f]] w (Θ (-1)) :=
 RetAt.at<|rk [.reg 6 [],.o 1 1 (.ret (iV 0)),.o 1 3 (.ret (iV 1)),.o 3 3 (.set (Θ Hsd)),.o 3 4 (.set (Θ (max (-1) Hsd)))] λW h g=>Km (rc W call58 λW=>cS.out W) (rc W call58 λW=>d.out W) (Df prog W #[3,3] 3 .i64 1 (IntKind.i64.wrap (0-1))) (K5 prog W #[3,3] 3 .i64 (-1) Hsd)<|g
abbrev Hse:=min 1 (IntKind.i64.wrap (1-(-1)))
theorem tN(s t:u4)(b c:Bool)(e f:Int)(w:y9)(cS:Hid (∀W:y9,b9 prog 58 #[.agg #[Ξ b,Ψ s,Θ e]] W (Θ (1))))(d:Hid (∀W:y9,b9 prog 58 #[.agg #[Ξ c,Ψ t,Θ f]] W (Θ (-1))))
  :
  b9 prog 59 #[.agg #[Ξ b,Ψ s,Θ e],.agg #[Ξ c,Ψ t,Θ f]] w (Θ (1)) :=
 RetAt.at<|rk [.reg 6 [],.o 1 1 (.ret (iV 1)),.o 1 3 (.ret (iV (-1))),.o 3 3 (.set (Θ Hse)),.o 3 4 (.set (Θ (max (-1) Hse)))] λW h g=>Km (rc W call58 λW=>cS.out W) (rc W call58 λW=>d.out W) (Df prog W #[3,3] 3 .i64 1 (IntKind.i64.wrap (1-(-1)))) (K5 prog W #[3,3] 3 .i64 (-1) Hse)<|g
abbrev Hsf:=min 1 (IntKind.i64.wrap (1-0))
theorem tO(s t:u4)(b c:Bool)(e f:Int)(w:y9)(cS:Hid (∀W:y9,b9 prog 58 #[.agg #[Ξ b,Ψ s,Θ e]] W (Θ (1))))(d:Hid (∀W:y9,b9 prog 58 #[.agg #[Ξ c,Ψ t,Θ f]] W (Θ (0))))
  :
  b9 prog 59 #[.agg #[Ξ b,Ψ s,Θ e],.agg #[Ξ c,Ψ t,Θ f]] w (Θ (1)) :=
 RetAt.at<|rk [.reg 6 [],.o 1 1 (.ret (iV 1)),.o 1 3 (.ret (iV 0)),.o 3 3 (.set (Θ Hsf)),.o 3 4 (.set (Θ (max (-1) Hsf)))] λW h g=>Km (rc W call58 λW=>cS.out W) (rc W call58 λW=>d.out W) (Df prog W #[3,3] 3 .i64 1 (IntKind.i64.wrap (1-0))) (K5 prog W #[3,3] 3 .i64 (-1) Hsf)<|g
theorem eF(s t:u4)(b c:Bool)(e f:Int)(p k X Y z:Int)(w:y9)(cS:Hid (∀W:y9,b9 prog 58 #[.agg #[Ξ b,Ψ s,Θ e]] W (Θ p)))(d:Hid (∀W:y9,b9 prog 58 #[.agg #[Ξ c,Ψ t,Θ f]] W (Θ p)))(g:Hid (TabAt 4 Lib.deBruijn64tab w))(i:Hid (∀W:y9,TabAt 4 Lib.deBruijn64tab W->b9 prog 98 #[.agg #[Ξ b,Ψ s,Θ e],.agg #[Ξ c,Ψ t,Θ f]] W (.agg #[Θ k,Ξ (neg X),Ψ (Qx X),Ξ (neg Y),Ψ (Qx Y)])))(j:Hid (∀W:y9,b9 prog 99 #[.agg #[Ξ (neg X),Ψ (Qx X)],.agg #[Ξ (neg Y),Ψ (Qx Y)]] W (Θ z)))
  :
  b9 prog 59 #[.agg #[Ξ b,Ψ s,Θ e],.agg #[Ξ c,Ψ t,Θ f]] w (Θ z) :=
 RetAt.at<|rk [.reg 6 [],.o 1 1 (.ret (iV p)),.o 1 3 (.ret (iV p)),.br false,.o 4 2 (.ret (.agg [iV k,bV (neg X),sV (Qx X),bV (neg Y),sV (Qx Y)])),.o 5 4 (.ret (iV z))] λW l m=>(λ(n:Q0 W)=>Kr (rc W call58 λW=>cS.out W) (rc W call58 λW=>d.out W) (Qaz (rfl:(p:Int)=p)) (rt n call98 λW h=>i.out W h) (rc W call99 λW=>j.out W)<|m) (Ql g.out l)
theorem Hg(x:Dyadic): (VH x=-1/\x<0)\/(VH x=0/\x=0)\/(VH x=1/\0<x):=by
 have h:=NU x;rcases Ue (VH x) 0 with a|a|a
 ·exact .inl ⟨x3,dsgn_lt.1 a⟩
 ·exact .inr (.inl ⟨a,dsgn_eq.1 a⟩)
 ·exact .inr (.inr ⟨x3,dsgn_gt.1 a⟩)
theorem C0(h:x<0): VH x=-1:=y7 (NU x) (dsgn_lt.2 h)
theorem NV(h:0<x): VH x=1:=y7 (NU x) (dsgn_gt.2 h)
theorem iv(w:y9)(l:ND b s e x)(m:ND c t f y)(o:TabAt 4 Lib.deBruijn64tab w):
  b9 prog 59 #[.agg #[.bool b,.string s,.int .i64 e],.agg #[.bool c,.string t,.int .i64 f]] w (.int .i64 (VH (x-y))):=by
 have cS:=hV (λW=>Vx s b e W);have d:=hV (λW=>Vx t c f W);rw[l.val]at cS;rw[m.val]at d;by_cases a:VH x=VH y
 ·obtain⟨k,X,Y,q,u,A,B,k1,C,v⟩:=Mu l m;have n:=hV (λW=>TR (Qx X) (Qx Y) (neg X) (neg Y) W (by rw[XF];omega) (by rw[XF];omega));rw[Xg,Xg]at n;have z:VH (x-y)=JZ (X-Y):=by rw[<- q,<- u,iZ,Fw]
  rw[z];rw[<- a]at d;exact eF s t b c e f _ k X Y _ w cS d (hV o) v n
 ·rcases Hg x with⟨i,g⟩|⟨i,g⟩|⟨i,g⟩<;>rcases Hg y with⟨j,h⟩|⟨j,h⟩|⟨j,h⟩<;>rw[i]at cS a<;>rw[j]at d a
  ·exact absurd rfl a
  ·rw[C0 (x:=x-y) (by subst h;grind)];exact tI s t b c e f w cS d
  ·rw[C0 (x:=x-y) (by grind)];exact tJ s t b c e f w cS d
  ·rw[NV (x:=x-y) (by subst g;grind)];exact tK s t b c e f w cS d
  ·exact absurd rfl a
  ·rw[C0 (x:=x-y) (by subst g;grind)];exact tM s t b c e f w cS d
  ·rw[NV (x:=x-y) (by grind)];exact tN s t b c e f w cS d
  ·rw[NV (x:=x-y) (by subst h;grind)];exact tO s t b c e f w cS d
  ·exact absurd rfl a
def RdN(w:y9)(A:u5)(n:Nat)(bs:Nat->Bool)(a:Nat->u4)(c:Nat->Int): Prop :=
 0<n->∃b off,A=some ⟨b,off,none⟩/\∀j,j<n->w.cell? ⟨b,off+j*3,none⟩=some (.bool (bs j))/\w.cell? ⟨b,off+j*3+1,none⟩=some (.string (a j))/\w.cell? ⟨b,off+j*3+2,none⟩=some (.int .i64 (c j))
def Gw(f:Nat->Dyadic): Nat->Dyadic|0=>0|k+1=>Gw f k+f k
theorem UX{T:Nat}{f:Nat->Dyadic}(h:∀j,DB L T (f j)): ∀k,DB L (T+k) (Gw f k)
 | 0=>AS _ _
 | k+1=>iC (UX h k) (EO (h k) (L8 _) (Rg _ _))
theorem tT:DB 0 1 1:=⟨1,rfl,x4⟩
theorem vy{a:Bool}(h:Bx w g 30 #[.bool b,.string s,.bool a,.string t]): xh w (some ⟨g,0,none⟩) 2 (λj=>if j=0 then b else a) (λj=>if j=0 then s else t):=λ_ =>
 ⟨g,0,rfl,λj c=>by
  have:j=0\/j=1:=x3;rcases this with rfl|rfl
  ·exact⟨h.cel 0,h.cel 1⟩
  ·exact⟨h.cel 2,h.cel 3⟩⟩
theorem xY{X Y:Int}{W:y9}(b:Zq X<=536870912)(c:Zq Y<=536870912)(h:Bx W g 30 #[.bool (neg X),.string (Qx X),.bool (neg Y),.string (Qx Y)]):
  b9 prog 176 #[.slice (some ⟨g,0,none⟩) 2 2] W (.agg #[.bool (neg (X+Y)),.string (Qx (X+Y))]):=by
 have h:=TQ _ 2 2 _ _ W x4 (λj=>by split<;>(rw[XF];assumption)) (vy h)
 have e:KY (λj=>Qi (if j=0 then neg X else neg Y) (Qa (if j=0 then Qx X else Qx Y))) 2=X+Y:=by
  show(0+Qi (neg X) (Qa (Qx X)))+Qi (neg Y) (Qa (Qx Y))=_;rw[Int.zero_add,Xg,Xg]
 rwa [e]at h
theorem iu(A:Option Addr)(n c:Nat)(bs:Nat->Bool)(t:Nat->ByteArray)(x:Nat->Int)(l:Nat->Dyadic)(L0 T0:Nat)(w:World)(hn:n<=1000000)(F:∀j,ND (bs j) (t j) (x j) (l j))(G:∀j,DB L0 T0 (l j))(Q:L0+T0+n<=4000000)(hr:RdN w A n bs t x)(hT:TabAt 4 Lib.deBruijn64tab w):
  b9 prog 173 #[.slice A n c] w (.agg #[.bool (neg (dm (Gw l n))),.string (Qx (dm (Gw l n))),.int .i64 (de (Gw l n))]):=by
 have HT:=hV hT;have HN:=hV F;have HS:=hV (λk (hk:k<=n)=>RD (UX G k) x3);clear hT F G Q;go_enter func173,ntmps173
 have R:=(Bx.new w 32 #[.bool false,.string ⟨#[]⟩,.int .i64 0]).alloc (.cells #[.bool false,.string ⟨#[]⟩,.int .i64 0] 32);have S:=Bx.at1 w (.cells #[.bool false,.string ⟨#[]⟩,.int .i64 0] 32) 32 #[.bool false,.string ⟨#[]⟩,.int .i64 0];have T:=b2 w (.cells #[.bool false,.string ⟨#[]⟩,.int .i64 0] 32) (.cells #[.bool false,.string ⟨#[]⟩,.int .i64 0] 32);go_wp2_with fail
 generalize (w.alloc (.cells #[.bool false,.string ⟨#[]⟩,.int .i64 0] 32)).alloc (.cells #[.bool false,.string ⟨#[]⟩,.int .i64 0] 32)=w0 at *;go_loopw [9] (λi wr=>∃k:Nat,k<=n/\i=.int .i64 (k:Nat)/\Bx wr w.heap.size 32 #[.bool false,.string ⟨#[]⟩,.int .i64 0]/\Bx wr (w.heap.size+1) 32 #[.bool (neg (dm (Gw l k))),.string (Qx (dm (Gw l k))),.int .i64 (de (Gw l k))]/\Below w.heap.size w wr) (λi _=>n-(intOf i).toNat)
 case atStart=>exact⟨0,La _,rfl,R,S,T⟩
 case round =>
  obtain⟨k,hk,rfl,H,M,g⟩:=hrel;by_cases I:k<n
  ·obtain⟨b,off,rfl,hc⟩:=hr x3;obtain⟨c1,c2,c3⟩:=hc k I;have g1:=Ld g c1;have g2:=Ld g c2;have g3:=Ld g c3;clear hc hr c1 c2 c3 R S T;obtain⟨K,X,Y,hX,hY,z,C,k1,k2,cL⟩:=Mu (HS.out k hk) (HN.out k);obtain⟨o,y⟩:∃o,o=Gw l (k+1):=⟨_,rfl⟩
   have e1:dy (X+Y) K=o:=by rw[<- Wg,hX,hY,y];rfl
   have U:Zq (X+Y)<=300000001:=Aw z C;have cM:=hV (λW h=>GG (Qx (X+Y)) (neg (X+Y)) K W (by rw[XF];omega) x3 x3 h);rw[Xg,e1]at cM;have V:=hV (k0 (L9 z (by decide:300000000<=536870912)) (L9 C (by decide:300000000<=536870912)));have H1:=hV y;clear hX hY z C k1 k2 y e1 U;have Z3:=Bx.new wr 32 #[.bool (bs k),.string (t k),.int .i64 (x k)];have Z1:=H.alloc (.cells #[.bool (bs k),.string (t k),.int .i64 (x k)] 32);have Z2:=M.alloc (.cells #[.bool (bs k),.string (t k),.int .i64 (x k)] 32);have d:=Vp g (.cells #[.bool (bs k),.string (t k),.int .i64 (x k)] 32);obtain⟨q1,Z,q5,q3,q4,D⟩:=Z2.three;obtain⟨r1,r2,r5,r3,r4,r6⟩:=Z3.three;clear H M g;go_wp2_with fail
   generalize wr.alloc (.cells #[.bool (bs k),.string (t k),.int .i64 (x k)] 32)=w4 at *;refine(cL.out _ (Ql HT.out d)).mono ?_
   rintro e w5 ⟨rfl,N⟩;replace Z1:=Z1.later N;replace Z2:=Z2.later N;replace d:=nxt d N;clear N q1 Z q5 q3 q4 D r1 r2 r5 r3 r4 r6 Z3;have O:=Bx.new w5 171 #[.int .i64 K,.bool (neg X),.string (Qx X),.bool (neg Y),.string (Qx Y)];replace Z1:=Z1.alloc (.cells #[.int .i64 K,.bool (neg X),.string (Qx X),.bool (neg Y),.string (Qx Y)] 171);replace Z2:=Z2.alloc (.cells #[.int .i64 K,.bool (neg X),.string (Qx X),.bool (neg Y),.string (Qx Y)] 171);replace d:=Vp d (.cells #[.int .i64 K,.bool (neg X),.string (Qx X),.bool (neg Y),.string (Qx Y)] 171);go_upto_region 6 with(fail)
   generalize w5.alloc (.cells #[.int .i64 K,.bool (neg X),.string (Qx X),.bool (neg Y),.string (Qx Y)] 171)=w6 at *;generalize w5.heap.size=P at *;obtain⟨z,C⟩:=V.out;refine Gp [16,17,18,19,20,21,22,23,24] [.eq (.pointer (some ⟨P,1,none⟩)),.eq (.agg #[.bool (neg X),.string (Qx X)]),.eq (.pointer (some ⟨P,3,none⟩)),.eq (.agg #[.bool (neg Y),.string (Qx Y)]),.sli w6.heap.size 30 2 #[.bool (neg X),.string (Qx X),.bool (neg Y),.string (Qx Y)],.eq (.agg #[.bool (neg (X+Y)),.string (Qx (X+Y))]),.eq (.pointer (some ⟨P,0,none⟩)),.eq (.int .i64 K),.eq (.agg #[.bool (neg (dm o)),.string (Qx (dm o)),.int .i64 (de o)])] 27 x5 (by exact λ_ _ _ _ _ h=>h) x5 (by rfl) ?hop ?htail
   case hop =>
    intro A hA;have p:A.tmps.size=27:=by rw[hA];rfl
    have D:A.tmps.getD 6 undef=.pointer (some ⟨P,0,none⟩):=by rw[hA];rfl
    clear hA;refine⟨?_,?_,?_,?_,?_,?_,?_,?_,?_,trivial⟩
    ·refine Jl p λu W q s m E B a f=>?_
     exact Q9 _ rfl rfl a (by simp[go_sem,B 6 rfl rfl D]) rfl
    ·refine Jl p λu W q s m E B a f=>?_
     exact Q9 _ rfl rfl a (by simp[go_sem,E 16 0 rfl rfl (f 0 rfl),(O.later a).cel]) rfl
    ·refine Jl p λu W q s m E B a f=>?_
     exact Q9 _ rfl rfl a (by simp[go_sem,B 6 rfl rfl D]) rfl
    ·refine Jl p λu W q s m E B a f=>?_
     exact Q9 _ rfl rfl a (by simp[go_sem,E 18 2 rfl rfl (f 2 rfl),(O.later a).cel]) rfl
    ·refine Jl p λu W q s m E B a f=>?_
     exact PW _ _ rfl (by simp[go_sem,E 17 1 rfl rfl (f 1 rfl),E 19 3 rfl rfl (f 3 rfl)]) (Vp a _) ⟨_,rfl,DN a,Bx.new _ _ _⟩ rfl
    ·refine Jl p λu W q s m E B a f=>?_
     obtain⟨ag,ad,ae,J⟩:=f 4 rfl;exact PU rfl rfl (by simp[go_sem,m,E 20 4 rfl rfl ad]) (xY z C J) a (λ_ _=>rfl)
    ·refine Jl p λu W q s m E B a f=>?_
     exact Q9 _ rfl rfl a (by simp[go_sem,B 6 rfl rfl D]) rfl
    ·refine Jl p λu W q s m E B a f=>?_
     exact Q9 _ rfl rfl a (by simp[go_sem,E 22 6 rfl rfl (f 6 rfl),(O.later a).cel]) rfl
    ·refine Jl p λu W q s m E B a f=>?_
     exact PU rfl rfl (by simp[go_sem,m,E 21 5 rfl rfl (f 5 rfl),E 23 7 rfl rfl (f 7 rfl)]) (cM.out W (Ql HT.out (nxt d a))) a (λ_ _=>rfl)
   case htail =>
    intro u w7 a hP hD;have L:u 8=.agg #[.bool (neg (dm o)),.string (Qx (dm o)),.int .i64 (de o)]:=hP 8 x4;simp only[KB,Act.put,Ru,Tf,U9,Rc,Sl,Nat.reduceAdd,U3,List.drop_zero,L];replace d:=nxt d a;replace Z1:=Z1.later a;replace Z2:=Z2.later a;have HZ:=hV (k0 Z1 (k0 Z2 d));obtain⟨q1,Z,q5,q3,q4,D⟩:=Z2.three;clear hP hD a L Z1 Z2 O d z C;go_wp2
    obtain⟨Z1,Z2,d⟩:=HZ.out;exact⟨⟨k+1,I,by go_num,Bx.far3 Z1 x6 _ _ _,by rw[<- H1.out];exact Z2.set3 _ _ _,wj d (Rg _ 1) _ _ _⟩,by simp[intOf];omega⟩
  ·obtain rfl:k=n:=x3;obtain⟨p1,p2,p5,p3,p4,p6⟩:=H.three;obtain⟨q1,Z,q5,_,_,_⟩:=M.three;have HY:=hV H;clear H M R S T;go_wp2_with fail
   exact bodyPost_ret (v:=.agg #[.bool (neg (dm (Gw l k))),.string (Qx (dm (Gw l k))),.int .i64 (de (Gw l k))]) (by simp[results,results173,go_sem,(HY.out.set3 _ _ _).cel]) rfl ⟨rfl,wj g (L8 _) _ _ _⟩
theorem yZ(h:Bx w g 32 #[.bool b,.string s,.int .i64 e,.bool c,.string t,.int .i64 f]): RdN w (some ⟨g,0,none⟩) 2 (λj=>if j=0 then b else c) (λj=>if j=0 then s else t) (λj=>if j=0 then e else f):=λ_ =>
 ⟨g,0,rfl,λj a=>by
  have:j=0\/j=1:=x3;rcases this with rfl|rfl
  ·exact⟨h.cel 0,h.cel 1,h.cel 2⟩
  ·exact⟨h.cel 3,h.cel 4,h.cel 5⟩⟩
theorem ir{a:Nat}(n:ND b s e x)(o:ND c t f y)(p:DB L a x)(q:DB L a y)(i:L+a<=3000000)(k:TabAt 4 Lib.deBruijn64tab w)(h:Bx w g 32 #[.bool b,.string s,.int .i64 e,.bool c,.string t,.int .i64 f]):
  b9 prog 173 #[.slice (some ⟨g,0,none⟩) 2 2] w (.agg #[.bool (neg (dm (x+y))),.string (Qx (dm (x+y))),.int .i64 (de (x+y))]):=by
 have h:=iu _ 2 2 _ _ _ (λj=>if j=0 then x else y) L a w x4 (λj=>by by_cases d:j=0<;>simp only[d,if_true,if_false]<;>assumption) (λj=>by by_cases d:j=0<;>simp only[d,if_true,if_false]<;>assumption) x3 (yZ h) k
 have m:Gw (λj=>if j=0 then x else y) 2=x+y:=by
  show(0+x)+y=_;rw[Dyadic.zero_add]
 rwa [m]at h
theorem iB{z:Nat}(w:World)(H:ND b s e x)(k:ND c t f y)(I:DB L z x)(C:DB L z y)(l:L+z<=3000000)(J:TabAt 4 Lib.deBruijn64tab w):
  b9 prog 127 #[.agg #[.bool b,.string s,.int .i64 e],.agg #[.bool c,.string t,.int .i64 f]] w (.agg #[.bool (neg (dm (x-y))),.string (Qx (dm (x-y))),.int .i64 (de (x-y))]):=by
 have M:=hV J;have N:=hV (λW (h:TabAt 4 Lib.deBruijn64tab W)=>iA t c f W (L9 k.size x4) (y6 k.lo) (y6 k.hi) h);rw[k.val]at N;have O:=hV (λg W (h:TabAt 4 Lib.deBruijn64tab W) (T:Bx W g 32 #[.bool b,.string s,.int .i64 e,.bool (neg (dm (-y))),.string (Qx (dm (-y))),.int .i64 (de (-y))])=>ir H (RD (UW C) x3) I (UW C) l h T);rw[show x + -y=x-y by grind]at O;clear J H k I C l;go_enter func127,ntmps127
 go_upto_region 1 with(fail)
 have D:=((Bx.new w 32 #[.bool b,.string s,.int .i64 e]).alloc (.cells #[.bool c,.string t,.int .i64 f] 32)).alloc (.cells #[.bool false,.string ⟨#[]⟩,.int .i64 0] 32);have F:=(Bx.at1 w (.cells #[.bool b,.string s,.int .i64 e] 32) 32 #[.bool c,.string t,.int .i64 f]).alloc (.cells #[.bool false,.string ⟨#[]⟩,.int .i64 0] 32);have i:=Bx.at2 w (.cells #[.bool b,.string s,.int .i64 e] 32) (.cells #[.bool c,.string t,.int .i64 f] 32) 32 #[.bool false,.string ⟨#[]⟩,.int .i64 0];have m:=b3 w (.cells #[.bool b,.string s,.int .i64 e] 32) (.cells #[.bool c,.string t,.int .i64 f] 32) (.cells #[.bool false,.string ⟨#[]⟩,.int .i64 0] 32);generalize ((w.alloc (.cells #[.bool b,.string s,.int .i64 e] 32)).alloc (.cells #[.bool c,.string t,.int .i64 f] 32)).alloc (.cells #[.bool false,.string ⟨#[]⟩,.int .i64 0] 32)=U at *;have V:=D.lt;have X:=F.lt;have Y:=i.lt;refine Gp [5,6,7,8,9] [.eq (.agg #[.bool b,.string s,.int .i64 e]),.eq (.agg #[.bool c,.string t,.int .i64 f]),.eq (.agg #[.bool (neg (dm (-y))),.string (Qx (dm (-y))),.int .i64 (de (-y))]),.sli U.heap.size 32 2 #[.bool b,.string s,.int .i64 e,.bool (neg (dm (-y))),.string (Qx (dm (-y))),.int .i64 (de (-y))],.eq (.agg #[.bool (neg (dm (x-y))),.string (Qx (dm (x-y))),.int .i64 (de (x-y))])] 10 x5 (by exact λ_ _ _ _ _ h=>h) x5 (by rfl) ?hop ?htail
 case hop =>
  intro A o;have n:A.tmps.size=10:=by rw[o];rfl
  have P:A.tmps.getD 2 undef=.pointer (some ⟨w.heap.size,0,none⟩):=by rw[o];rfl
  have Q:A.tmps.getD 3 undef=.pointer (some ⟨w.heap.size+1,0,none⟩):=by rw[o];rfl
  clear o;refine⟨?_,?_,?_,?_,?_,trivial⟩
  ·refine Jl n λu W p q j E B a d=>?_
   exact Q9 _ rfl rfl a (by simp[go_sem,B 2 rfl rfl P,(D.later a).cel]) rfl
  ·refine Jl n λu W p q j E B a d=>?_
   exact Q9 _ rfl rfl a (by simp[go_sem,B 3 rfl rfl Q,(F.later a).cel]) rfl
  ·refine Jl n λu W p q j E B a d=>?_
   exact PU rfl rfl (by simp[go_sem,j,E 6 1 rfl rfl (d 1 rfl)]) (N.out W (Ql M.out (nxt m a))) a (λ_ _=>rfl)
  ·refine Jl n λu W p q j E B a d=>?_
   exact PW _ _ rfl (by simp[go_sem,E 5 0 rfl rfl (d 0 rfl),E 7 2 rfl rfl (d 2 rfl)]) (Vp a _) ⟨_,rfl,DN a,Bx.new _ _ _⟩ rfl
  ·refine Jl n λu W p q j E B a d=>?_
   obtain⟨g8,Z,ad,G⟩:=d 3 rfl;exact PU rfl rfl (by simp[go_sem,j,E 8 3 rfl rfl Z]) (O.out _ W (Ql M.out (nxt m a)) G) a (λ_ _=>rfl)
 case htail =>
  intro u K a R hD;have S:u 4=.agg #[.bool (neg (dm (x-y))),.string (Qx (dm (x-y))),.int .i64 (de (x-y))]:=R 4 x4;simp only[KB,Act.put,Ru,Tf,U9,Rc,Sl,Nat.reduceAdd,U3,List.drop_zero,S];have m:=hV (nxt m a);replace i:=i.later a;have HX:=hV i;obtain⟨q1,P,q5,Q,q4,q6⟩:=i.three;clear D F i R hD a S;go_wp2_with fail
  exact bodyPost_ret (v:=.agg #[.bool (neg (dm (x-y))),.string (Qx (dm (x-y))),.int .i64 (de (x-y))]) (by simp[results,results127,go_sem,(HX.out.set3 _ _ _).cel]) rfl ⟨rfl,wj m.out (Rg _ 2) _ _ _⟩
