/- Laws beneath the statement. -/
import Derived.Test.YtoibldcmoapgbaaGreatDoorBP13
namespace Go.Proofs.YtoibldcmoapgbaaGreatDoor
set_option linter.defProp false
open Tryz
set_option maxRecDepth 100000
open Go.RowKit
def zv(s:m1)(b:Bool)(e m:Int)(x:Dyadic)(w:m0)(c:TabAt 4 Lib.deBruijn64tab w)(d:Hid (∀W:m0,o4 prog 172 #[.agg #[Ξ b,Ψ s]] W (.agg #[Ξ (neg m),Ψ (QJ m)])))(f:Hid (∀W:m0,TabAt 4 Lib.deBruijn64tab W->o4 prog 90 #[.agg #[Ξ (neg m),Ψ (QJ m)],Θ e] W (.agg #[Ξ (neg (dm x)),Ψ (QJ (dm x)),Θ (de x)])))
  :
  o4 prog 174 #[.agg #[Ξ b,Ψ s,Θ e]] w (.agg #[Ξ (neg (dm x)),Ψ (QJ (dm x)),Θ (de x)]) :=
 RetAt.at<|rk [.reg 6 [],x04 1 2 (.agg [bV (neg m),sV (QJ m)]),x04 1 5 (.val (vN x))] λW g i=>(λ(c:QV W)=>X0 (rc W call172 λW=>d.out W) (rt c call90 λW h=>f.out W h)<|i) (Ql c g)
def ml(s:m1)(b:Bool)(e:Int)(w:m0)(f:s.size<=536870912)(a:-4611686018427387904<=e)(d:e<=4611686018427387904)(g:TabAt 4 Lib.deBruijn64tab w):
  o4 prog 174 #[.agg #[.bool b,.string s,.int .i64 e]] w (.agg #[.bool (neg (dm (-dy (Qe b (Qa s)) e))),.string (QJ (dm (-dy (Qe b (Qa s)) e))),.int .i64 (de (-dy (Qe b (Qa s)) e))]):=by
 rw[bZ];have j:(QJ (-Qe b (Qa s))).size<=536870912:=by rw[XU,H8];exact L6 (GN b s) f
 have c:=x0f (λW h=>AF (QJ (-Qe b (Qa s))) (neg (-Qe b (Qa s))) e W j a d h);rw[Xp]at c;exact zv s b e _ _ w g (x0f (λW=>E4 s b W)) c
def mf(s t:m1)(b c:Bool)(e f:Int)(b2:Bool)(i:m1)(d:Int)(X Y:Int)(w:m0)(g:TabAt 4 Lib.deBruijn64tab w)(j:Hid (∀W:m0,TabAt 4 Lib.deBruijn64tab W->o4 prog 52 #[.agg #[Ξ b,Ψ s,Θ e]] W (.agg #[Ξ false,x00,Θ 0])))(k:Hid (∀W:m0,TabAt 4 Lib.deBruijn64tab W->o4 prog 52 #[.agg #[Ξ c,Ψ t,Θ f]] W (.agg #[Ξ b2,Ψ i,Θ d])))(l:Hid (∀W:m0,TabAt 4 Lib.deBruijn64tab W->o4 prog 129 #[Θ d,.agg #[Ξ false,x00,Θ 0]] W (.agg #[Ξ (neg X),Ψ (QJ X)])))(m:Hid (∀W:m0,TabAt 4 Lib.deBruijn64tab W->o4 prog 129 #[Θ d,.agg #[Ξ b2,Ψ i,Θ d]] W (.agg #[Ξ (neg Y),Ψ (QJ Y)])))
  :
  o4 prog 98 #[.agg #[Ξ b,Ψ s,Θ e],.agg #[Ξ c,Ψ t,Θ f]] w (.agg #[Θ d,Ξ (neg X),Ψ (QJ X),Ξ (neg Y),Ψ (QJ Y)]) :=
 RetAt.at<|rk [.reg 4 [],x04 1 1 (.val (rN false ⟨#[]⟩ 0)),x04 1 3 (.val (rN b2 i d)),x03 2 4 (Θ (min 0 d)),x03 3 2 (Ξ true),.reg 9 [],x04 8 3 (.agg [bV (neg X),sV (QJ X)]),x04 8 7 (.agg [bV (neg Y),sV (QJ Y)])] λW n p=>(λ(g:QV W)=>Vv (rt g call52 λW h=>j.out W h) (rt g call52 λW h=>k.out W h) (Bd prog W #[3,3] 3 .i64 0 d) (WI W (.tmp 17) (.tmp 18) false ⟨#[]⟩ 0) (rt g call129 λW h=>l.out W h) (rt g call129 λW h=>m.out W h)<|p) (Ql g n)
def mh(s t:m1)(b c:Bool)(e f:Int)(b1:Bool)(s1:m1)(a:Int)(i:¬ s1.toList=[])(X Y:Int)(w:m0)(g:TabAt 4 Lib.deBruijn64tab w)(j:Hid (∀W:m0,TabAt 4 Lib.deBruijn64tab W->o4 prog 52 #[.agg #[Ξ b,Ψ s,Θ e]] W (.agg #[Ξ b1,Ψ s1,Θ a])))(k:Hid (∀W:m0,TabAt 4 Lib.deBruijn64tab W->o4 prog 52 #[.agg #[Ξ c,Ψ t,Θ f]] W (.agg #[Ξ false,x00,Θ 0])))(l:Hid (∀W:m0,TabAt 4 Lib.deBruijn64tab W->o4 prog 129 #[Θ a,.agg #[Ξ b1,Ψ s1,Θ a]] W (.agg #[Ξ (neg X),Ψ (QJ X)])))(m:Hid (∀W:m0,TabAt 4 Lib.deBruijn64tab W->o4 prog 129 #[Θ a,.agg #[Ξ false,x00,Θ 0]] W (.agg #[Ξ (neg Y),Ψ (QJ Y)])))
  :
  o4 prog 98 #[.agg #[Ξ b,Ψ s,Θ e],.agg #[Ξ c,Ψ t,Θ f]] w (.agg #[Θ a,Ξ (neg X),Ψ (QJ X),Ξ (neg Y),Ψ (QJ Y)]) :=
 RetAt.at<|rk [.reg 4 [],x04 1 1 (.val (rN b1 s1 a)),x04 1 3 (.val (rN false ⟨#[]⟩ 0)),x03 2 4 (Θ (min a 0)),x03 3 2 (Ξ false),x03 5 2 (Ξ true),.reg 9 [],x04 8 3 (.agg [bV (neg X),sV (QJ X)]),x04 8 7 (.agg [bV (neg Y),sV (QJ Y)])] λW n p=>(λ(g:QV W)=>GL (rt g call52 λW h=>j.out W h) (rt g call52 λW h=>k.out W h) (Bd prog W #[3,3] 3 .i64 a 0) (dJ W (.tmp 17) (.tmp 18) b1 s1 a i) (WI W (.tmp 23) (.tmp 24) false ⟨#[]⟩ 0) (rt g call129 λW h=>l.out W h) (rt g call129 λW h=>m.out W h)<|p) (Ql g n)
def mj(s t:m1)(b c:Bool)(e f:Int)(b1:Bool)(s1:m1)(d:Int)(l:¬ s1.toList=[])(b2:Bool)(j:m1)(g k:Int)(m:¬ j.toList=[])(n:min d g=k)(X Y:Int)(w:m0)(i:TabAt 4 Lib.deBruijn64tab w)(p:Hid (∀W:m0,TabAt 4 Lib.deBruijn64tab W->o4 prog 52 #[.agg #[Ξ b,Ψ s,Θ e]] W (.agg #[Ξ b1,Ψ s1,Θ d])))(q:Hid (∀W:m0,TabAt 4 Lib.deBruijn64tab W->o4 prog 52 #[.agg #[Ξ c,Ψ t,Θ f]] W (.agg #[Ξ b2,Ψ j,Θ g])))(u:Hid (∀W:m0,TabAt 4 Lib.deBruijn64tab W->o4 prog 129 #[Θ k,.agg #[Ξ b1,Ψ s1,Θ d]] W (.agg #[Ξ (neg X),Ψ (QJ X)])))(v:Hid (∀W:m0,TabAt 4 Lib.deBruijn64tab W->o4 prog 129 #[Θ k,.agg #[Ξ b2,Ψ j,Θ g]] W (.agg #[Ξ (neg Y),Ψ (QJ Y)])))
  :
  o4 prog 98 #[.agg #[Ξ b,Ψ s,Θ e],.agg #[Ξ c,Ψ t,Θ f]] w (.agg #[Θ k,Ξ (neg X),Ψ (QJ X),Ξ (neg Y),Ψ (QJ Y)]) :=
 RetAt.at<|rk [.reg 4 [],x04 1 1 (.val (rN b1 s1 d)),x04 1 3 (.val (rN b2 j g)),x03 2 4 (Θ k),x03 3 2 (Ξ false),x03 5 2 (Ξ false),.reg 9 [],x04 8 3 (.agg [bV (neg X),sV (QJ X)]),x04 8 7 (.agg [bV (neg Y),sV (QJ Y)])] λW x y=>(λ(i:QV W)=>GL (rt i call52 λW h=>p.out W h) (rt i call52 λW h=>q.out W h) (show Qp prog W (Builtin.min_ #[3,3] 3 #[Θ d,Θ g]) (Θ k)from by rw[<- n];exact Bd _ _ _ _ _ _ _) (dJ W (.tmp 17) (.tmp 18) b1 s1 d l) (dJ W (.tmp 23) (.tmp 24) b2 j g m) (rt i call129 λW h=>u.out W h) (rt i call129 λW h=>v.out W h)<|y) (Ql i x)
structure ND (b:Bool) (s:ByteArray) (e:Int) (x:Dyadic):Prop where
 val:dy (Qe b (Qa s)) e=x
 size:s.size<=1048576
 lo:-1073741824<=e
 hi:e<=1073741824
def WC{L T:Nat}{x:Dyadic}(h:DB L T x)(a:L+T<=4000000):ND (neg (dm x)) (QJ (dm x)) (de x) x:=by
 let⟨b,c,_⟩:=G8 h;have d:=Ic h;exact⟨by rw[Xp,F8],x3,x3,x3⟩
variable{b:Bool}{s:m1}{e:Int}
def gC{x:Dyadic}(h:ND b s e x):(QJ (dm x)).size<=1048576/\-1073741824<=de x/\de x<=1090519040:=by
 by_cases a:Qe b (Qa s)=0
 ·have c:=h.val;rw[a,Jj]at c;subst c;exact⟨by show(QJ 0).size<=_;rw[ol];exact L7 _,x4,x4⟩
 ·let⟨d,f⟩:=UQ e a;rw[h.val,Xd]at d f;have j:=iS (s:=s) (λg=>a (by rw[g,Ox]));have i:=h.size;have k:=h.lo;have l:=h.hi;refine⟨?_,x3,x3⟩;rw[d,XU];refine L6 (J0 (Tj _ _)) (L6 (GN b s) i)
def MD{x:Dyadic}(h:x≠0):¬(QJ (dm x)).toList=[]:=λa=>h (dm_zero.1 (mag_empty.1 a))
variable{k:Int}
def Ee(x:Dyadic)(h:k<=de x):dy (XA (dm x) (de x-k)) k=x:=by
 unfold XA;rw[if_pos x3,Fj];have e:k+((de x-k).toNat:Int)=de x:=x3;rw[e,F8]
def AU{x:Dyadic}(h:k<=de x)(a:(QJ (dm x)).size<=1048576)(b:de x-k<=2164260864):Zr (XA (dm x) (de x-k))<=300000000:=by
 unfold XA;rw[if_pos x3];rw[XU]at a;exact L6 (IN a) x3
def TS:Zr 0=0:=rfl
def OO{x:Dyadic}(c:Qe b (Qa s)=dm x)(a:e=de x)(j:s.size<=1048576)(d:-9223372036854775808<=e-k)(f:e-k<=68719476736):
  Hid (∀W:m0,TabAt 4 Lib.deBruijn64tab W->o4 prog 129 #[.int .i64 k,.agg #[.bool b,.string s,.int .i64 e]] W (.agg #[.bool (neg (XA (dm x) (de x-k))),.string (QJ (XA (dm x) (de x-k)))])):=by
 have h:=x0f (λW (i:TabAt 4 Lib.deBruijn64tab W)=>tB s b e k W x3 d f i);rw[c,a]at h;rw[a];exact h
def Fg{c:Bool}{t:m1}{f:Int}{x y:Dyadic}(d:ND b s e x)(g:ND c t f y):
  ∃k X Y:Int,dy X k=x/\dy Y k=y/\Zr X<=300000000/\Zr Y<=300000000/\-2147483648<=k/\k<=2147483648 /\
   Hid (∀W:m0,TabAt 4 Lib.deBruijn64tab W->o4 prog 98 #[.agg #[.bool b,.string s,.int .i64 e],.agg #[.bool c,.string t,.int .i64 f]] W (.agg #[.int .i64 k,.bool (neg X),.string (QJ X),.bool (neg Y),.string (QJ Y)])):=by
 let⟨h,w,z⟩:=gC d;let⟨i,A,B⟩:=gC g;have j:=x0f (λW (a:TabAt 4 Lib.deBruijn64tab W)=>KA s b e W (L6 d.size x4) (hA d.lo) (hA d.hi) a);have l:=x0f (λW (a:TabAt 4 Lib.deBruijn64tab W)=>KA t c f W (L6 g.size x4) (hA g.lo) (hA g.hi) a);rw[d.val]at j;rw[g.val]at l;by_cases m:x=0
 ·subst m;have n:XA (dm 0) (de 0-de y)=0:=by
   show XA 0 _=0;unfold XA;split<;>simp
  refine⟨de y,0,XA (dm y) (de y-de y),Jj _,Ee y (Sd _),by rw[TS];decide,AU (Sd _) i x3,x3,x3,x0f λW a=>?_⟩;have o:=OO (b:=false) (s:=⟨#[]⟩) (x:=0) (e:=0) (k:=de y) rfl rfl x4 x3 x3;rw[n]at o;exact mf s t b c e f _ _ _ _ _ W a j l o (OO (Xp _) rfl i x3 x3)
 ·by_cases p:y=0
  ·subst p;have n:XA (dm 0) (de 0-de x)=0:=by
    show XA 0 _=0;unfold XA;split<;>simp
   refine⟨de x,XA (dm x) (de x-de x),0,Ee x (Sd _),Jj _,AU (Sd _) h x3,by rw[TS];decide,x3,x3,x0f λW a=>?_⟩;have q:=OO (b:=false) (s:=⟨#[]⟩) (x:=0) (e:=0) (k:=de x) rfl rfl x4 x3 x3;rw[n]at q;exact mh s t b c e f _ _ _ (MD m) _ _ W a j l (OO (Xp _) rfl h x3 x3) q
  ·obtain⟨k,v⟩:∃k,min (de x) (de y)=k:=⟨_,rfl⟩
   refine⟨k,XA (dm x) (de x-k),XA (dm y) (de y-k),Ee x x3,Ee y x3,AU x3 h x3,AU x3 i x3,x3,x3,x0f λW a=>?_⟩;exact mj s t b c e f _ _ _ (MD m) _ _ _ k (MD p) v _ _ W a j l (OO (Xp _) rfl h x3 x3) (OO (Xp _) rfl i x3 x3)
abbrev Hoa:=min 1 (IntKind.i64.wrap ((-1)-0))
def zo(s t:m1)(b c:Bool)(e f:Int)(w:m0)(cS:Hid (∀W:m0,o4 prog 58 #[.agg #[Ξ b,Ψ s,Θ e]] W (Θ (-1))))(d:Hid (∀W:m0,o4 prog 58 #[.agg #[Ξ c,Ψ t,Θ f]] W (Θ (0))))
  :
  o4 prog 59 #[.agg #[Ξ b,Ψ s,Θ e],.agg #[Ξ c,Ψ t,Θ f]] w (Θ (-1)) :=
 RetAt.at<|rk [.reg 6 [],x04 1 1 (iV (-1)),x04 1 3 (iV 0),x03 3 3 (Θ Hoa),x03 3 4 (Θ (max (-1) Hoa))] λW h g=>Ky (rc W call58 λW=>cS.out W) (rc W call58 λW=>d.out W) (Bd prog W #[3,3] 3 .i64 1 (IntKind.i64.wrap ((-1)-0))) (VW prog W #[3,3] 3 .i64 (-1) Hoa)<|g
abbrev Hob:=min 1 (IntKind.i64.wrap ((-1)-1))
def zp(s t:m1)(b c:Bool)(e f:Int)(w:m0)(cS:Hid (∀W:m0,o4 prog 58 #[.agg #[Ξ b,Ψ s,Θ e]] W (Θ (-1))))(d:Hid (∀W:m0,o4 prog 58 #[.agg #[Ξ c,Ψ t,Θ f]] W (Θ (1))))
  :
  o4 prog 59 #[.agg #[Ξ b,Ψ s,Θ e],.agg #[Ξ c,Ψ t,Θ f]] w (Θ (-1)) :=
 RetAt.at<|rk [.reg 6 [],x04 1 1 (iV (-1)),x04 1 3 (iV 1),x03 3 3 (Θ Hob),x03 3 4 (Θ (max (-1) Hob))] λW h g=>Ky (rc W call58 λW=>cS.out W) (rc W call58 λW=>d.out W) (Bd prog W #[3,3] 3 .i64 1 (IntKind.i64.wrap ((-1)-1))) (VW prog W #[3,3] 3 .i64 (-1) Hob)<|g
abbrev Hoc:=min 1 (IntKind.i64.wrap (0-(-1)))
def zq(s t:m1)(b c:Bool)(e f:Int)(w:m0)(cS:Hid (∀W:m0,o4 prog 58 #[.agg #[Ξ b,Ψ s,Θ e]] W (Θ (0))))(d:Hid (∀W:m0,o4 prog 58 #[.agg #[Ξ c,Ψ t,Θ f]] W (Θ (-1))))
  :
  o4 prog 59 #[.agg #[Ξ b,Ψ s,Θ e],.agg #[Ξ c,Ψ t,Θ f]] w (Θ (1)) :=
 RetAt.at<|rk [.reg 6 [],x04 1 1 (iV 0),x04 1 3 (iV (-1)),x03 3 3 (Θ Hoc),x03 3 4 (Θ (max (-1) Hoc))] λW h g=>Ky (rc W call58 λW=>cS.out W) (rc W call58 λW=>d.out W) (Bd prog W #[3,3] 3 .i64 1 (IntKind.i64.wrap (0-(-1)))) (VW prog W #[3,3] 3 .i64 (-1) Hoc)<|g
abbrev Hod:=min 1 (IntKind.i64.wrap (0-1))
def zr(s t:m1)(b c:Bool)(e f:Int)(w:m0)(cS:Hid (∀W:m0,o4 prog 58 #[.agg #[Ξ b,Ψ s,Θ e]] W (Θ (0))))(d:Hid (∀W:m0,o4 prog 58 #[.agg #[Ξ c,Ψ t,Θ f]] W (Θ (1))))
  :
  o4 prog 59 #[.agg #[Ξ b,Ψ s,Θ e],.agg #[Ξ c,Ψ t,Θ f]] w (Θ (-1)) :=
 RetAt.at<|rk [.reg 6 [],x04 1 1 (iV 0),x04 1 3 (iV 1),x03 3 3 (Θ Hod),x03 3 4 (Θ (max (-1) Hod))] λW h g=>Ky (rc W call58 λW=>cS.out W) (rc W call58 λW=>d.out W) (Bd prog W #[3,3] 3 .i64 1 (IntKind.i64.wrap (0-1))) (VW prog W #[3,3] 3 .i64 (-1) Hod)<|g
abbrev Hoe:=min 1 (IntKind.i64.wrap (1-(-1)))
def zt(s t:m1)(b c:Bool)(e f:Int)(w:m0)(cS:Hid (∀W:m0,o4 prog 58 #[.agg #[Ξ b,Ψ s,Θ e]] W (Θ (1))))(d:Hid (∀W:m0,o4 prog 58 #[.agg #[Ξ c,Ψ t,Θ f]] W (Θ (-1))))
  :
  o4 prog 59 #[.agg #[Ξ b,Ψ s,Θ e],.agg #[Ξ c,Ψ t,Θ f]] w (Θ (1)) :=
 RetAt.at<|rk [.reg 6 [],x04 1 1 (iV 1),x04 1 3 (iV (-1)),x03 3 3 (Θ Hoe),x03 3 4 (Θ (max (-1) Hoe))] λW h g=>Ky (rc W call58 λW=>cS.out W) (rc W call58 λW=>d.out W) (Bd prog W #[3,3] 3 .i64 1 (IntKind.i64.wrap (1-(-1)))) (VW prog W #[3,3] 3 .i64 (-1) Hoe)<|g
abbrev Hof:=min 1 (IntKind.i64.wrap (1-0))
def zu(s t:m1)(b c:Bool)(e f:Int)(w:m0)(cS:Hid (∀W:m0,o4 prog 58 #[.agg #[Ξ b,Ψ s,Θ e]] W (Θ (1))))(d:Hid (∀W:m0,o4 prog 58 #[.agg #[Ξ c,Ψ t,Θ f]] W (Θ (0))))
  :
  o4 prog 59 #[.agg #[Ξ b,Ψ s,Θ e],.agg #[Ξ c,Ψ t,Θ f]] w (Θ (1)) :=
 RetAt.at<|rk [.reg 6 [],x04 1 1 (iV 1),x04 1 3 (iV 0),x03 3 3 (Θ Hof),x03 3 4 (Θ (max (-1) Hof))] λW h g=>Ky (rc W call58 λW=>cS.out W) (rc W call58 λW=>d.out W) (Bd prog W #[3,3] 3 .i64 1 (IntKind.i64.wrap (1-0))) (VW prog W #[3,3] 3 .i64 (-1) Hof)<|g
def jx(s t:m1)(b c:Bool)(e f:Int)(p k X Y z:Int)(w:m0)(cS:Hid (∀W:m0,o4 prog 58 #[.agg #[Ξ b,Ψ s,Θ e]] W (Θ p)))(d:Hid (∀W:m0,o4 prog 58 #[.agg #[Ξ c,Ψ t,Θ f]] W (Θ p)))(g:Hid (TabAt 4 Lib.deBruijn64tab w))(i:Hid (∀W:m0,TabAt 4 Lib.deBruijn64tab W->o4 prog 98 #[.agg #[Ξ b,Ψ s,Θ e],.agg #[Ξ c,Ψ t,Θ f]] W (.agg #[Θ k,Ξ (neg X),Ψ (QJ X),Ξ (neg Y),Ψ (QJ Y)])))(j:Hid (∀W:m0,o4 prog 99 #[.agg #[Ξ (neg X),Ψ (QJ X)],.agg #[Ξ (neg Y),Ψ (QJ Y)]] W (Θ z)))
  :
  o4 prog 59 #[.agg #[Ξ b,Ψ s,Θ e],.agg #[Ξ c,Ψ t,Θ f]] w (Θ z) :=
 RetAt.at<|rk [.reg 6 [],x04 1 1 (iV p),x04 1 3 (iV p),.br false,x04 4 2 (.agg [iV k,bV (neg X),sV (QJ X),bV (neg Y),sV (QJ Y)]),x04 5 4 (iV z)] λW l m=>(λ(n:QV W)=>KJ (rc W call58 λW=>cS.out W) (rc W call58 λW=>d.out W) (Qfs (rfl:(p:Int)=p)) (rt n call98 λW h=>i.out W h) (rc W call99 λW=>j.out W)<|m) (Ql g.out l)
def I6(x:Dyadic):(GP x=-1/\x<0)\/(GP x=0/\x=0)\/(GP x=1/\0<x):=by
 have h:=PI x;rcases Int.lt_trichotomy (GP x) 0 with a|a|a
 ·exact .inl ⟨x3,dsgn_lt.1 a⟩
 ·exact .inr (.inl ⟨a,dsgn_eq.1 a⟩)
 ·exact .inr (.inr ⟨x3,dsgn_gt.1 a⟩)
def Fh(x:Dyadic)(h:x<0):GP x=-1:=k0 (PI x) (dsgn_lt.2 h)
def PJ(x:Dyadic)(h:0<x):GP x=1:=k0 (PI x) (dsgn_gt.2 h)
theorem me{c:Bool}{t:m1}{f:Int}{x y:Dyadic}(w:m0)(l:ND b s e x)(m:ND c t f y)(o:TabAt 4 Lib.deBruijn64tab w):
  o4 prog 59 #[.agg #[.bool b,.string s,.int .i64 e],.agg #[.bool c,.string t,.int .i64 f]] w (.int .i64 (GP (x-y))):=by
 have cS:=x0f (λW=>GB s b e W);have d:=x0f (λW=>GB t c f W);rw[l.val]at cS;rw[m.val]at d;by_cases a:GP x=GP y
 ·let⟨k,X,Y,q,u,A,B,k1,C,v⟩:=Fg l m;have n:=x0f (λW=>aU (QJ X) (QJ Y) (neg X) (neg Y) W (by rw[XU];omega) (by rw[XU];omega));rw[Xp,Xp]at n;have z:GP (x-y)=JZ (X-Y):=by rw[<- q,<- u,mL,Ig]
  rw[z];rw[<- a]at d;exact jx s t b c e f _ k X Y _ w cS d (x0f o) v n
 ·rcases I6 x with⟨i,g⟩|⟨i,g⟩|⟨i,g⟩<;>rcases I6 y with⟨j,h⟩|⟨j,h⟩|⟨j,h⟩<;>rw[i]at cS a<;>rw[j]at d a
  ·exact absurd rfl a
  ·rw[Fh (x-y) (by subst h;grind)];exact zo s t b c e f w cS d
  ·rw[Fh (x-y) (by grind)];exact zp s t b c e f w cS d
  ·rw[PJ (x-y) (by subst g;grind)];exact zq s t b c e f w cS d
  ·exact absurd rfl a
  ·rw[Fh (x-y) (by subst g;grind)];exact zr s t b c e f w cS d
  ·rw[PJ (x-y) (by grind)];exact zt s t b c e f w cS d
  ·rw[PJ (x-y) (by subst h;grind)];exact zu s t b c e f w cS d
  ·exact absurd rfl a
def RdN(w:m0)(A:m3)(n:Nat)(bs:Nat->Bool)(a:Nat->m1)(c:Nat->Int):Prop :=
 0<n->∃b off,A=some ⟨b,off,none⟩/\∀j,j<n->w.cell? ⟨b,off+j*3,none⟩=some (.bool (bs j))/\w.cell? ⟨b,off+j*3+1,none⟩=some (.string (a j))/\w.cell? ⟨b,off+j*3+2,none⟩=some (.int .i64 (c j))
def SL(f:Nat->Dyadic):Nat->Dyadic|0=>0|k+1=>SL f k+f k
variable{g:Nat}
def pV{w:m0}{t:m1}{a:Bool}(h:Bx w g 30 #[.bool b,.string s,.bool a,.string t]):RdI w (some ⟨g,0,none⟩) 2 (λj=>if j=0 then b else a) (λj=>if j=0 then s else t):=λ_ =>
 ⟨g,0,rfl,λj c=>by
  have:j=0\/j=1:=x3;rcases this with rfl|rfl
  ·exact⟨h.cel 0,h.cel 1⟩
  ·exact⟨h.cel 2,h.cel 3⟩⟩
def yi{X Y:Int}{W:m0}(b:Zr X<=536870912)(c:Zr Y<=536870912)(h:Bx W g 30 #[.bool (neg X),.string (QJ X),.bool (neg Y),.string (QJ Y)]):
  o4 prog 176 #[.slice (some ⟨g,0,none⟩) 2 2] W (.agg #[.bool (neg (X+Y)),.string (QJ (X+Y))]):=by
 have h:=aT _ 2 2 _ _ W x4 (λj=>by split<;>(rw[XU];assumption)) (pV h)
 have e:VL (λj=>Qe (if j=0 then neg X else neg Y) (Qa (if j=0 then QJ X else QJ Y))) 2=X+Y:=by
  show(0+Qe (neg X) (Qa (QJ X)))+Qe (neg Y) (Qa (QJ Y))=_;rw[Int.zero_add,Xp,Xp]
 rwa [e]at h
def oJ:ND false ⟨#[]⟩ 0 0:=⟨Jj 0,x4,x4,x4⟩
