/- Laws beneath the statement. -/
import Derived.Test.YtemkmhpfjefbmaaGreatDoorLP12
import Derived.Test.YtemkmhpfjefbmaaGreatDoorLP9
namespace Go.Proofs.YtemkmhpfjefbmaaGreatDoor
set_option linter.defProp false
open Tryz
set_option maxRecDepth 100000
section
open Go Go.RowKit
def SB(s:xM)(b:Bool)(n:Int)(w:xH)(i:s.size<=8388608)(c:0<=n)(j:n<=67108864):
  xP prog 230 #[.agg #[Ξ b,Ψ s],Θ n] w (.agg #[Ξ (neg (Qe b (Qa s)*2^n.toNat)),Ψ (QJ (Qe b (Qa s)*2^n.toNat))]):=by
 have cS:=λW=>aL s n W x3 x3
 have f:(QL (Qa s*2^n.toNat)).size<=268435456:=by
  have k:Zr (Qe b (Qa s)*2^n.toNat)<=s.size+n.toNat / 8+1:=IN (GN _ _);have g:(QL (Qa s*2^n.toNat)).size=Zr (Qe b (Qa s)*2^n.toNat):=by
   rw[<- nF,GE];unfold Zr;rw[Xd]
  rw[g];omega
 have a:=λW=>XF (QL (Qa s*2^n.toNat)) b W f
 simp only[XT,nF]at a;exact
 RetAt.at<|rk [.br true,.reg 8 [],x04 2 5 (sV (QL (Qa s*2^n.toNat))),x04 2 7 (.agg [bV (neg (Qe b (Qa s)*2^n.toNat)),sV (QJ (Qe b (Qa s)*2^n.toNat))])] λW l h=>Ja (show(decide (n>=0))=true from Lk c) (Cr W cS) (Cr W a)<|h
end
section
open Go.RowKit
def zv(s:xM)(b:Bool)(e m:Int)(x:Dyadic)(w:xH)(c:TabAt 4 Lib.deBruijn64tab w)(d:Hid (∀W:xH,xP prog 204 #[.agg #[Ξ b,Ψ s]] W (.agg #[Ξ (neg m),Ψ (QJ m)])))(f:Hid (∀W:xH,TabAt 4 Lib.deBruijn64tab W->xP prog 106 #[.agg #[Ξ (neg m),Ψ (QJ m)],Θ e] W (.agg #[Ξ (neg (dm x)),Ψ (QJ (dm x)),Θ (de x)])))
  :
  xP prog 206 #[.agg #[Ξ b,Ψ s,Θ e]] w (.agg #[Ξ (neg (dm x)),Ψ (QJ (dm x)),Θ (de x)]) :=
 RetAt.at<|rk [.reg 6 [],x04 1 2 (.agg [bV (neg m),sV (QJ m)]),x04 1 5 (.val (vN x))] λW g i=>(λ(c:QV W)=>X0 (rc W call204 λW=>d.out W) (rt c call106 λW h=>f.out W h)<|i) (Ql c g)
def ml(s:xM)(b:Bool)(e:Int)(w:xH)(f:s.size<=536870912)(a:-4611686018427387904<=e)(d:e<=4611686018427387904)(g:TabAt 4 Lib.deBruijn64tab w):
  xP prog 206 #[.agg #[.bool b,.string s,.int .i64 e]] w (.agg #[.bool (neg (dm (-dy (Qe b (Qa s)) e))),.string (QJ (dm (-dy (Qe b (Qa s)) e))),.int .i64 (de (-dy (Qe b (Qa s)) e))]):=by
 rw[bZ];have j:(QJ (-Qe b (Qa s))).size<=536870912:=by rw[XU,H8];exact L6 (GN b s) f
 have c:=x0f (λW h=>AF (QJ (-Qe b (Qa s))) (neg (-Qe b (Qa s))) e W j a d h);rw[Xp]at c;exact zv s b e _ _ w g (x0f (λW=>E4 s b W)) c
def mf(s t:xM)(b c:Bool)(e f:Int)(b2:Bool)(i:xM)(d:Int)(X Y:Int)(w:xH)(g:TabAt 4 Lib.deBruijn64tab w)(j:Hid (∀W:xH,TabAt 4 Lib.deBruijn64tab W->xP prog 59 #[.agg #[Ξ b,Ψ s,Θ e]] W (.agg #[Ξ false,x00,Θ 0])))(k:Hid (∀W:xH,TabAt 4 Lib.deBruijn64tab W->xP prog 59 #[.agg #[Ξ c,Ψ t,Θ f]] W (.agg #[Ξ b2,Ψ i,Θ d])))(l:Hid (∀W:xH,TabAt 4 Lib.deBruijn64tab W->xP prog 152 #[Θ d,.agg #[Ξ false,x00,Θ 0]] W (.agg #[Ξ (neg X),Ψ (QJ X)])))(m:Hid (∀W:xH,TabAt 4 Lib.deBruijn64tab W->xP prog 152 #[Θ d,.agg #[Ξ b2,Ψ i,Θ d]] W (.agg #[Ξ (neg Y),Ψ (QJ Y)])))
  :
  xP prog 114 #[.agg #[Ξ b,Ψ s,Θ e],.agg #[Ξ c,Ψ t,Θ f]] w (.agg #[Θ d,Ξ (neg X),Ψ (QJ X),Ξ (neg Y),Ψ (QJ Y)]) :=
 RetAt.at<|rk [.reg 4 [],x04 1 1 (.val (rN false ⟨#[]⟩ 0)),x04 1 3 (.val (rN b2 i d)),x03 2 4 (Θ (min 0 d)),x03 3 2 (Ξ true),.reg 9 [],x04 8 3 (.agg [bV (neg X),sV (QJ X)]),x04 8 7 (.agg [bV (neg Y),sV (QJ Y)])] λW n p=>(λ(g:QV W)=>Vv (rt g call59 λW h=>j.out W h) (rt g call59 λW h=>k.out W h) (Bd prog W #[3,3] 3 .i64 0 d) (WI W (.tmp 17) (.tmp 18) false ⟨#[]⟩ 0) (rt g call152 λW h=>l.out W h) (rt g call152 λW h=>m.out W h)<|p) (Ql g n)
def mh(s t:xM)(b c:Bool)(e f:Int)(b1:Bool)(s1:xM)(a:Int)(i:¬ s1.toList=[])(X Y:Int)(w:xH)(g:TabAt 4 Lib.deBruijn64tab w)(j:Hid (∀W:xH,TabAt 4 Lib.deBruijn64tab W->xP prog 59 #[.agg #[Ξ b,Ψ s,Θ e]] W (.agg #[Ξ b1,Ψ s1,Θ a])))(k:Hid (∀W:xH,TabAt 4 Lib.deBruijn64tab W->xP prog 59 #[.agg #[Ξ c,Ψ t,Θ f]] W (.agg #[Ξ false,x00,Θ 0])))(l:Hid (∀W:xH,TabAt 4 Lib.deBruijn64tab W->xP prog 152 #[Θ a,.agg #[Ξ b1,Ψ s1,Θ a]] W (.agg #[Ξ (neg X),Ψ (QJ X)])))(m:Hid (∀W:xH,TabAt 4 Lib.deBruijn64tab W->xP prog 152 #[Θ a,.agg #[Ξ false,x00,Θ 0]] W (.agg #[Ξ (neg Y),Ψ (QJ Y)])))
  :
  xP prog 114 #[.agg #[Ξ b,Ψ s,Θ e],.agg #[Ξ c,Ψ t,Θ f]] w (.agg #[Θ a,Ξ (neg X),Ψ (QJ X),Ξ (neg Y),Ψ (QJ Y)]) :=
 RetAt.at<|rk [.reg 4 [],x04 1 1 (.val (rN b1 s1 a)),x04 1 3 (.val (rN false ⟨#[]⟩ 0)),x03 2 4 (Θ (min a 0)),x03 3 2 (Ξ false),x03 5 2 (Ξ true),.reg 9 [],x04 8 3 (.agg [bV (neg X),sV (QJ X)]),x04 8 7 (.agg [bV (neg Y),sV (QJ Y)])] λW n p=>(λ(g:QV W)=>GL (rt g call59 λW h=>j.out W h) (rt g call59 λW h=>k.out W h) (Bd prog W #[3,3] 3 .i64 a 0) (dJ W (.tmp 17) (.tmp 18) b1 s1 a i) (WI W (.tmp 23) (.tmp 24) false ⟨#[]⟩ 0) (rt g call152 λW h=>l.out W h) (rt g call152 λW h=>m.out W h)<|p) (Ql g n)
def mj(s t:xM)(b c:Bool)(e f:Int)(b1:Bool)(s1:xM)(d:Int)(l:¬ s1.toList=[])(b2:Bool)(j:xM)(g k:Int)(m:¬ j.toList=[])(n:min d g=k)(X Y:Int)(w:xH)(i:TabAt 4 Lib.deBruijn64tab w)(p:Hid (∀W:xH,TabAt 4 Lib.deBruijn64tab W->xP prog 59 #[.agg #[Ξ b,Ψ s,Θ e]] W (.agg #[Ξ b1,Ψ s1,Θ d])))(q:Hid (∀W:xH,TabAt 4 Lib.deBruijn64tab W->xP prog 59 #[.agg #[Ξ c,Ψ t,Θ f]] W (.agg #[Ξ b2,Ψ j,Θ g])))(u:Hid (∀W:xH,TabAt 4 Lib.deBruijn64tab W->xP prog 152 #[Θ k,.agg #[Ξ b1,Ψ s1,Θ d]] W (.agg #[Ξ (neg X),Ψ (QJ X)])))(v:Hid (∀W:xH,TabAt 4 Lib.deBruijn64tab W->xP prog 152 #[Θ k,.agg #[Ξ b2,Ψ j,Θ g]] W (.agg #[Ξ (neg Y),Ψ (QJ Y)])))
  :
  xP prog 114 #[.agg #[Ξ b,Ψ s,Θ e],.agg #[Ξ c,Ψ t,Θ f]] w (.agg #[Θ k,Ξ (neg X),Ψ (QJ X),Ξ (neg Y),Ψ (QJ Y)]) :=
 RetAt.at<|rk [.reg 4 [],x04 1 1 (.val (rN b1 s1 d)),x04 1 3 (.val (rN b2 j g)),x03 2 4 (Θ k),x03 3 2 (Ξ false),x03 5 2 (Ξ false),.reg 9 [],x04 8 3 (.agg [bV (neg X),sV (QJ X)]),x04 8 7 (.agg [bV (neg Y),sV (QJ Y)])] λW x y=>(λ(i:QV W)=>GL (rt i call59 λW h=>p.out W h) (rt i call59 λW h=>q.out W h) (show Qp prog W (Builtin.min_ #[3,3] 3 #[Θ d,Θ g]) (Θ k)from by rw[<- n];exact Bd _ _ _ _ _ _ _) (dJ W (.tmp 17) (.tmp 18) b1 s1 d l) (dJ W (.tmp 23) (.tmp 24) b2 j g m) (rt i call152 λW h=>u.out W h) (rt i call152 λW h=>v.out W h)<|y) (Ql i x)
structure ND (b:Bool) (s:ByteArray) (e:Int) (x:Dyadic):Prop where
 val:dy (Qe b (Qa s)) e=x
 size:s.size<=1048576
 lo:-1073741824<=e
 hi:e<=1073741824
def WC{L T:Nat}{x:Dyadic}(h:DB L T x)(a:L+T<=4000000):ND (neg (dm x)) (QJ (dm x)) (de x) x:=by
 let⟨b,c,_⟩:=G8 h;have d:=Ic h;exact⟨by rw[Xp,F8],x3,x3,x3⟩
variable{b:Bool}{s:xM}{e:Int}
def gC{x:Dyadic}(h:ND b s e x):(QJ (dm x)).size<=1048576/\-1073741824<=de x/\de x<=1090519040:=by
 by_cases a:Qe b (Qa s)=0
 ·have c:=h.val;rw[a,Jj]at c;subst c;exact⟨by show(QJ 0).size<=_;rw[ol];exact L7 _,x4,x4⟩
 ·let⟨d,f⟩:=UQ e a;rw[h.val,Xd]at d f;have j:=iS (s:=s) (λg=>a (by rw[g,Ox]));have i:=h.size;have k:=h.lo;have l:=h.hi;refine⟨?_,x3,x3⟩;rw[d,XU];refine L6 (J0 (Tj _ _)) (L6 (GN b s) i)
def MD{x:Dyadic}(h:x≠0):¬(QJ (dm x)).toList=[]:=λa=>h (dm_zero.1 (mag_empty.1 a))
variable{k:Int}
def Ee(x:Dyadic)(h:k<=de x):dy (XA (dm x) (de x-k)) k=x:=by
 unfold XA;rw[if_pos x3,Fj];have e:k+((de x-k).toNat:Int)=de x:=x3;rw[e,F8]
def AU{x:Dyadic}(h:k<=de x)(a:(QJ (dm x)).size<=1048576)(b:de x-k<=2164260864):Zr (XA (dm x) (de x-k))<=300000000:=by
 unfold XA;rw[if_pos x3];rw[XU]at a;exact L6 (IN a) x3
def TS:Zr 0=0:=rfl
def OO{x:Dyadic}(c:Qe b (Qa s)=dm x)(a:e=de x)(j:s.size<=1048576)(d:-9223372036854775808<=e-k)(f:e-k<=68719476736):
  Hid (∀W:xH,TabAt 4 Lib.deBruijn64tab W->xP prog 152 #[.int .i64 k,.agg #[.bool b,.string s,.int .i64 e]] W (.agg #[.bool (neg (XA (dm x) (de x-k))),.string (QJ (XA (dm x) (de x-k)))])):=by
 have h:=x0f (λW (i:TabAt 4 Lib.deBruijn64tab W)=>tB s b e k W x3 d f i);rw[c,a]at h;rw[a];exact h
def Fg{c:Bool}{t:xM}{f:Int}{x y:Dyadic}(d:ND b s e x)(g:ND c t f y):
  ∃k X Y:Int,dy X k=x/\dy Y k=y/\Zr X<=300000000/\Zr Y<=300000000/\-2147483648<=k/\k<=2147483648 /\
   Hid (∀W:xH,TabAt 4 Lib.deBruijn64tab W->xP prog 114 #[.agg #[.bool b,.string s,.int .i64 e],.agg #[.bool c,.string t,.int .i64 f]] W (.agg #[.int .i64 k,.bool (neg X),.string (QJ X),.bool (neg Y),.string (QJ Y)])):=by
 let⟨h,w,z⟩:=gC d;let⟨i,A,B⟩:=gC g;have j:=x0f (λW (a:TabAt 4 Lib.deBruijn64tab W)=>KA s b e W (L6 d.size x4) (x8 d.lo) (x8 d.hi) a);have l:=x0f (λW (a:TabAt 4 Lib.deBruijn64tab W)=>KA t c f W (L6 g.size x4) (x8 g.lo) (x8 g.hi) a);rw[d.val]at j;rw[g.val]at l;by_cases m:x=0
 ·subst m;have n:XA (dm 0) (de 0-de y)=0:=by
   show XA 0 _=0;unfold XA;split<;>simp
  refine⟨de y,0,XA (dm y) (de y-de y),Jj _,Ee y (Sd _),by rw[TS];decide,AU (Sd _) i x3,x3,x3,x0f λW a=>?_⟩;have o:=OO (b:=false) (s:=⟨#[]⟩) (x:=0) (e:=0) (k:=de y) rfl rfl x4 x3 x3;rw[n]at o;exact mf s t b c e f _ _ _ _ _ W a j l o (OO (Xp _) rfl i x3 x3)
 ·by_cases p:y=0
  ·subst p;have n:XA (dm 0) (de 0-de x)=0:=by
    show XA 0 _=0;unfold XA;split<;>simp
   refine⟨de x,XA (dm x) (de x-de x),0,Ee x (Sd _),Jj _,AU (Sd _) h x3,by rw[TS];decide,x3,x3,x0f λW a=>?_⟩;have q:=OO (b:=false) (s:=⟨#[]⟩) (x:=0) (e:=0) (k:=de x) rfl rfl x4 x3 x3;rw[n]at q;exact mh s t b c e f _ _ _ (MD m) _ _ W a j l (OO (Xp _) rfl h x3 x3) q
  ·obtain⟨k,v⟩:∃k,min (de x) (de y)=k:=⟨_,rfl⟩
   refine⟨k,XA (dm x) (de x-k),XA (dm y) (de y-k),Ee x x3,Ee y x3,AU x3 h x3,AU x3 i x3,x3,x3,x0f λW a=>?_⟩;exact mj s t b c e f _ _ _ (MD m) _ _ _ k (MD p) v _ _ W a j l (OO (Xp _) rfl h x3 x3) (OO (Xp _) rfl i x3 x3)
abbrev Hya:=min 1 (IntKind.i64.wrap ((-1)-0))
def zo(s t:xM)(b c:Bool)(e f:Int)(w:xH)(cS:Hid (∀W:xH,xP prog 65 #[.agg #[Ξ b,Ψ s,Θ e]] W (Θ (-1))))(d:Hid (∀W:xH,xP prog 65 #[.agg #[Ξ c,Ψ t,Θ f]] W (Θ (0))))
  :
  xP prog 66 #[.agg #[Ξ b,Ψ s,Θ e],.agg #[Ξ c,Ψ t,Θ f]] w (Θ (-1)) :=
 RetAt.at<|rk [.reg 6 [],x04 1 1 (iV (-1)),x04 1 3 (iV 0),x03 3 3 (Θ Hya),x03 3 4 (Θ (max (-1) Hya))] λW h g=>Ky (rc W call65 λW=>cS.out W) (rc W call65 λW=>d.out W) (Bd prog W #[3,3] 3 .i64 1 (IntKind.i64.wrap ((-1)-0))) (VW prog W #[3,3] 3 .i64 (-1) Hya)<|g
abbrev Hyb:=min 1 (IntKind.i64.wrap ((-1)-1))
def zp(s t:xM)(b c:Bool)(e f:Int)(w:xH)(cS:Hid (∀W:xH,xP prog 65 #[.agg #[Ξ b,Ψ s,Θ e]] W (Θ (-1))))(d:Hid (∀W:xH,xP prog 65 #[.agg #[Ξ c,Ψ t,Θ f]] W (Θ (1))))
  :
  xP prog 66 #[.agg #[Ξ b,Ψ s,Θ e],.agg #[Ξ c,Ψ t,Θ f]] w (Θ (-1)) :=
 RetAt.at<|rk [.reg 6 [],x04 1 1 (iV (-1)),x04 1 3 (iV 1),x03 3 3 (Θ Hyb),x03 3 4 (Θ (max (-1) Hyb))] λW h g=>Ky (rc W call65 λW=>cS.out W) (rc W call65 λW=>d.out W) (Bd prog W #[3,3] 3 .i64 1 (IntKind.i64.wrap ((-1)-1))) (VW prog W #[3,3] 3 .i64 (-1) Hyb)<|g
abbrev Hyc:=min 1 (IntKind.i64.wrap (0-(-1)))
def zq(s t:xM)(b c:Bool)(e f:Int)(w:xH)(cS:Hid (∀W:xH,xP prog 65 #[.agg #[Ξ b,Ψ s,Θ e]] W (Θ (0))))(d:Hid (∀W:xH,xP prog 65 #[.agg #[Ξ c,Ψ t,Θ f]] W (Θ (-1))))
  :
  xP prog 66 #[.agg #[Ξ b,Ψ s,Θ e],.agg #[Ξ c,Ψ t,Θ f]] w (Θ (1)) :=
 RetAt.at<|rk [.reg 6 [],x04 1 1 (iV 0),x04 1 3 (iV (-1)),x03 3 3 (Θ Hyc),x03 3 4 (Θ (max (-1) Hyc))] λW h g=>Ky (rc W call65 λW=>cS.out W) (rc W call65 λW=>d.out W) (Bd prog W #[3,3] 3 .i64 1 (IntKind.i64.wrap (0-(-1)))) (VW prog W #[3,3] 3 .i64 (-1) Hyc)<|g
abbrev Hyd:=min 1 (IntKind.i64.wrap (0-1))
def zr(s t:xM)(b c:Bool)(e f:Int)(w:xH)(cS:Hid (∀W:xH,xP prog 65 #[.agg #[Ξ b,Ψ s,Θ e]] W (Θ (0))))(d:Hid (∀W:xH,xP prog 65 #[.agg #[Ξ c,Ψ t,Θ f]] W (Θ (1))))
  :
  xP prog 66 #[.agg #[Ξ b,Ψ s,Θ e],.agg #[Ξ c,Ψ t,Θ f]] w (Θ (-1)) :=
 RetAt.at<|rk [.reg 6 [],x04 1 1 (iV 0),x04 1 3 (iV 1),x03 3 3 (Θ Hyd),x03 3 4 (Θ (max (-1) Hyd))] λW h g=>Ky (rc W call65 λW=>cS.out W) (rc W call65 λW=>d.out W) (Bd prog W #[3,3] 3 .i64 1 (IntKind.i64.wrap (0-1))) (VW prog W #[3,3] 3 .i64 (-1) Hyd)<|g
abbrev Hye:=min 1 (IntKind.i64.wrap (1-(-1)))
def zt(s t:xM)(b c:Bool)(e f:Int)(w:xH)(cS:Hid (∀W:xH,xP prog 65 #[.agg #[Ξ b,Ψ s,Θ e]] W (Θ (1))))(d:Hid (∀W:xH,xP prog 65 #[.agg #[Ξ c,Ψ t,Θ f]] W (Θ (-1))))
  :
  xP prog 66 #[.agg #[Ξ b,Ψ s,Θ e],.agg #[Ξ c,Ψ t,Θ f]] w (Θ (1)) :=
 RetAt.at<|rk [.reg 6 [],x04 1 1 (iV 1),x04 1 3 (iV (-1)),x03 3 3 (Θ Hye),x03 3 4 (Θ (max (-1) Hye))] λW h g=>Ky (rc W call65 λW=>cS.out W) (rc W call65 λW=>d.out W) (Bd prog W #[3,3] 3 .i64 1 (IntKind.i64.wrap (1-(-1)))) (VW prog W #[3,3] 3 .i64 (-1) Hye)<|g
abbrev Hyf:=min 1 (IntKind.i64.wrap (1-0))
def zu(s t:xM)(b c:Bool)(e f:Int)(w:xH)(cS:Hid (∀W:xH,xP prog 65 #[.agg #[Ξ b,Ψ s,Θ e]] W (Θ (1))))(d:Hid (∀W:xH,xP prog 65 #[.agg #[Ξ c,Ψ t,Θ f]] W (Θ (0))))
  :
  xP prog 66 #[.agg #[Ξ b,Ψ s,Θ e],.agg #[Ξ c,Ψ t,Θ f]] w (Θ (1)) :=
 RetAt.at<|rk [.reg 6 [],x04 1 1 (iV 1),x04 1 3 (iV 0),x03 3 3 (Θ Hyf),x03 3 4 (Θ (max (-1) Hyf))] λW h g=>Ky (rc W call65 λW=>cS.out W) (rc W call65 λW=>d.out W) (Bd prog W #[3,3] 3 .i64 1 (IntKind.i64.wrap (1-0))) (VW prog W #[3,3] 3 .i64 (-1) Hyf)<|g
def jx(s t:xM)(b c:Bool)(e f:Int)(p k X Y z:Int)(w:xH)(cS:Hid (∀W:xH,xP prog 65 #[.agg #[Ξ b,Ψ s,Θ e]] W (Θ p)))(d:Hid (∀W:xH,xP prog 65 #[.agg #[Ξ c,Ψ t,Θ f]] W (Θ p)))(g:Hid (TabAt 4 Lib.deBruijn64tab w))(i:Hid (∀W:xH,TabAt 4 Lib.deBruijn64tab W->xP prog 114 #[.agg #[Ξ b,Ψ s,Θ e],.agg #[Ξ c,Ψ t,Θ f]] W (.agg #[Θ k,Ξ (neg X),Ψ (QJ X),Ξ (neg Y),Ψ (QJ Y)])))(j:Hid (∀W:xH,xP prog 115 #[.agg #[Ξ (neg X),Ψ (QJ X)],.agg #[Ξ (neg Y),Ψ (QJ Y)]] W (Θ z)))
  :
  xP prog 66 #[.agg #[Ξ b,Ψ s,Θ e],.agg #[Ξ c,Ψ t,Θ f]] w (Θ z) :=
 RetAt.at<|rk [.reg 6 [],x04 1 1 (iV p),x04 1 3 (iV p),.br false,x04 4 2 (.agg [iV k,bV (neg X),sV (QJ X),bV (neg Y),sV (QJ Y)]),x04 5 4 (iV z)] λW l m=>(λ(n:QV W)=>KJ (rc W call65 λW=>cS.out W) (rc W call65 λW=>d.out W) (Qfs (rfl:(p:Int)=p)) (rt n call114 λW h=>i.out W h) (rc W call115 λW=>j.out W)<|m) (Ql g.out l)
def I6(x:Dyadic):(GP x=-1/\x<0)\/(GP x=0/\x=0)\/(GP x=1/\0<x):=by
 have h:=PI x;rcases Int.lt_trichotomy (GP x) 0 with a|a|a
 ·exact .inl ⟨x3,dsgn_lt.1 a⟩
 ·exact .inr (.inl ⟨a,dsgn_eq.1 a⟩)
 ·exact .inr (.inr ⟨x3,dsgn_gt.1 a⟩)
def Fh(x:Dyadic)(h:x<0):GP x=-1:=xF (PI x) (dsgn_lt.2 h)
def PJ(x:Dyadic)(h:0<x):GP x=1:=xF (PI x) (dsgn_gt.2 h)
theorem me{c:Bool}{t:xM}{f:Int}{x y:Dyadic}(w:xH)(l:ND b s e x)(m:ND c t f y)(o:TabAt 4 Lib.deBruijn64tab w):
  xP prog 66 #[.agg #[.bool b,.string s,.int .i64 e],.agg #[.bool c,.string t,.int .i64 f]] w (.int .i64 (GP (x-y))):=by
 have cS:=x0f (λW=>GB s b e W);have d:=x0f (λW=>GB t c f W);rw[l.val]at cS;rw[m.val]at d;by_cases a:GP x=GP y
 ·let⟨k,X,Y,q,u,A,B,k1,C,v⟩:=Fg l m;have n:=x0f (λW=>aU (QJ X) (QJ Y) (neg X) (neg Y) W (by rw[XU];omega) (by rw[XU];omega));rw[Xp,Xp]at n;have z:GP (x-y)=JZ (X-Y):=by rw[<- q,<- u,mL,Ig]
  rw[z];rw[<- a]at d;exact jx s t b c e f _ k X Y _ w cS d (x0f o) v n
 ·rcases I6 x with⟨i,g⟩|⟨i,g⟩|⟨i,g⟩<;>rcases I6 y with⟨j,h⟩|⟨j,h⟩|⟨j,h⟩<;>rw[i]at cS a<;>rw[j]at d a
  ·exact absurd rfl a
  ·rw[Fh (x-y) (by subst h;grind)];exact zo s t b c e f w cS d
  ·rw[Fh (x-y) (by grind)];exact zp s t b c e f w cS d
  ·rw[PJ (x-y) (by subst g;grind)];exact zq s t b c e f w cS d
  ·exact absurd rfl a
  ·rw[Fh (x-y) (by subst g;grind)];exact zr s t b c e f w cS d
  ·rw[PJ (x-y) (by grind)];exact zt s t b c e f w cS d
  ·rw[PJ (x-y) (by subst h;grind)];exact zu s t b c e f w cS d
  ·exact absurd rfl a
def sH(w:xH)(A:xN)(n:Nat)(bs:Nat->Bool)(a:Nat->xM)(c:Nat->Int):Prop :=
 0<n->∃b off,A=some ⟨b,off,none⟩/\∀j,j<n->w.cell? ⟨b,off+j*3,none⟩=some (.bool (bs j))/\w.cell? ⟨b,off+j*3+1,none⟩=some (.string (a j))/\w.cell? ⟨b,off+j*3+2,none⟩=some (.int .i64 (c j))
def SL(f:Nat->Dyadic):Nat->Dyadic|0=>0|k+1=>SL f k+f k
def Ml{L T:Nat}{f:Nat->Dyadic}(h:∀j,DB L T (f j)):∀k,DB L (T+k) (SL f k)
 |0=>Id _ _
 |k+1=>zw (Ml h k) (UJ (h k) (L4 _) (Rm _ _))
def km:DB 0 1 1:=⟨1,rfl,x4⟩
variable{g:Nat}
def pV{w:xH}{t:xM}{a:Bool}(h:Bx w g 30 #[.bool b,.string s,.bool a,.string t]):oS w (some ⟨g,0,none⟩) 2 (λj=>if j=0 then b else a) (λj=>if j=0 then s else t):=λ_ =>
 ⟨g,0,rfl,λj c=>by
  have:j=0\/j=1:=x3;rcases this with rfl|rfl
  ·exact⟨h.cel 0,h.cel 1⟩
  ·exact⟨h.cel 2,h.cel 3⟩⟩
def yi{X Y:Int}{W:xH}(b:Zr X<=536870912)(c:Zr Y<=536870912)(h:Bx W g 30 #[.bool (neg X),.string (QJ X),.bool (neg Y),.string (QJ Y)]):
  xP prog 208 #[.slice (some ⟨g,0,none⟩) 2 2] W (.agg #[.bool (neg (X+Y)),.string (QJ (X+Y))]):=by
 have h:=aT _ 2 2 _ _ W x4 (λj=>by split<;>(rw[XU];assumption)) (pV h)
 have e:VL (λj=>Qe (if j=0 then neg X else neg Y) (Qa (if j=0 then QJ X else QJ Y))) 2=X+Y:=by
  show(0+Qe (neg X) (Qa (QJ X)))+Qe (neg Y) (Qa (QJ Y))=_;rw[Int.zero_add,Xp,Xp]
 rwa [e]at h
def oJ:ND false ⟨#[]⟩ 0 0:=⟨Jj 0,x4,x4,x4⟩
end
section
set_option maxHeartbeats 4000000
open Go.RowKit
def K8(B v:Nat):QG B v 0=v % B:=by unfold QG;rw[Tx,Vf]
def Vw(u:Nat)(h:u≠0):nd 8 (u*256)=nd 8 u+1:=by
 refine WD 8 x4 ?_ (λ_=>?_)
 ·rw[R8];exact Rt (B9 8 x4 u) x4
 ·have a:=MH 8 u h;have b:=GV 8 h;rw[show nd 8 u+1-1=(nd 8 u-1)+1 by omega,R8];exact Lt _ a
def MR(u:Nat)(h:u≠0):VX (u*256)=VX u++[0]:=by
 apply Ve
 ·rw[La,Dp,Dp,Vw u h];rfl
 ·intro i b d;rw[Dp,Vw u h]at b;by_cases c:i<nd 8 u
  ·rw[List.getElem_append_left (by rw[Dp];exact c)];simp only[VX,V4,Tw];rw[Vw u h];have e:=JE 256 u 1 (nd 8 u-1-i) x4;rw[Tu,Ls]at e;rw[show nd 8 u+1-1-i=1+(nd 8 u-1-i)by omega,e]
  ·have a:i=nd 8 u:=x3;subst a;rw[List.getElem_append_right (by rw[Dp];exact L4 _)];simp only[VX,V4,Tw];rw[Vw u h,show nd 8 u+1-1-nd 8 u=0 by omega,K8];simp
def RM(u:Nat)(h:u≠0):(QL (u*256)).extract 0 ((QL (u*256)).size-1)=QL u:=by
 rw[GE,Vw u h,Uj];apply ByteArray.ext;rw[Va];show(VX (u*256)).toArray.extract 0 (nd 8 u)=(VX u).toArray;rw[MR u h];have e:=Dp u;rw[<- e];simp
def Cb(v:Nat)(h:v≠0)(b:(QL v).size-1<(QL v).data.toList.length):((QL v).data.toList[(QL v).size-1]'b).toNat=v % 256:=by
 have c:0<(VX v).length:=by rw[Dp];exact GV _ h
 have a:=Ec (VX v) 0 c;rw[TV,K8]at a;rw[a];congr 2
def M2(s:ByteArray)(b:Bool)(e J:Int)(D:Dyadic)(S:Nat)(w:World)(hz:J≠0)(hD:dy J e=D)(bk:Zr J<=S)(hS:S<=8388608)(bu:-1152921504606846976<=e)(bv:de D<=1152921504606846976)(cF:Hid (∀W:World,xP prog 166 #[.agg #[.bool b,.string s]] W (.agg #[.bool (neg J),.string (QJ J)])))(cO:Hid (∀W:World,xP prog 83 #[.int .i64 2] W (.agg #[.bool (neg (2)),.string (QJ (2))])))(bl:Hid (∀z,Zr z<=S->z % 2=0->∀W:World,xP prog 167 #[.agg #[.bool (neg z),.string (QJ z)],.agg #[.bool (neg (2)),.string (QJ (2))]] W (.tuple #[.agg #[.bool (neg (z / 2)),.string (QJ (z / 2))],.agg #[.bool (neg (z % 2)),.string (QJ (z % 2))],.bool true])))    :
  xP prog 122 #[.agg #[.bool b,.string s],.int .i64 e] w (.agg #[.bool (neg (dm D)),.string (QJ (dm D)),.int .i64 (de D)]):=by
 have HD:=x0f hD;have ao:∀z m,z≠0->dy z m=D->m<=de D:=λz m O h=>by
  have:=(UQ m O).2;rw[h]at this;omega
 have Q:=x0f ao;have hm:(QJ J).toList.isEmpty=false:=Il hz;clear hD ao;go_enter func122,ntmps122
 go_upto_region 1 with(fail)
 have Y:=(Bx.new w 30 #[.bool b,.string s]).alloc (.cells #[.bool false,.string ⟨#[]⟩,.int .i64 0] 32);have X2:=Bx.at1 w (.cells #[.bool b,.string s] 30) 32 #[.bool false,.string ⟨#[]⟩,.int .i64 0];have hB:=b2 w (.cells #[.bool b,.string s] 30) (.cells #[.bool false,.string ⟨#[]⟩,.int .i64 0] 32);generalize (w.alloc (.cells #[.bool b,.string s] 30)).alloc (.cells #[.bool false,.string ⟨#[]⟩,.int .i64 0] 32)=w0 at *;have bX:=Y.lt;have bY:=X2.lt;let⟨p1,p2,p3,p4⟩:=Y.two;go_wp2_with fail
 refine(cF.out _).mono ?_
 rintro e w1 ⟨rfl,hb⟩;replace Y:=Y.later hb;replace X2:=X2.later hb;replace hB:=nxt hB hb;clear hb p1 p2 p3 p4;let⟨p1,p2,p3,p4⟩:=Y.two;have aw:w.heap.size+1≠w.heap.size:=x3;have g:=Y.set2 (.bool (neg J)) (.string (QJ J));have l:=Bx.far2 (i:=0) (j:=1) X2 aw (.bool (neg J)) (.string (QJ J));have c:=aq hB (L4 _) (.bool (neg J)) (.string (QJ J));let⟨q1,q2,q3,q4⟩:=g.two;have Z:=x0f (p0 g (p0 l c));clear Y X2 g l hB c aw;go_wp2_with fail
 let⟨g,l,hB⟩:=Z.out;clear Z p1 p2 p3 p4 q1 q2 q3 q4 hm;generalize (w1.setCell ⟨w.heap.size,0,none⟩ (.bool (neg J))).setCell ⟨w.heap.size,1,none⟩ (.string (QJ J))=w2 at *;go_loopw [1] (λH wr=>∃z m:Int,z≠0/\H=.int .i64 m/\dy z m=D/\e<=m/\Zr z<=S/\Bx wr w.heap.size 30 #[.bool (neg z),.string (QJ z)]/\Bx wr (w.heap.size+1) 32 #[.bool false,.string ⟨#[]⟩,.int .i64 0]/\Below w.heap.size w wr) (λH _=>(de D-intOf H).toNat)
 case atStart=>exact⟨J,e,hz,rfl,HD.out,Sd _,bk,g,l,hB⟩
 case round =>
  obtain⟨z,m,O,rfl,n,t,o,g,l,c⟩:=hrel;have C:=Q.out z m O n;have F:z.natAbs≠0:=x3;have ad:(QJ z).size=Zr z:=XU z;have K:0<Zr z:=GV 8 F;obtain⟨d,hd⟩:∃d:Int,d=((z.natAbs % 256:Nat):Int):=⟨_,rfl⟩
  have bm:d<256:=x3;have bn:0<=d:=x3;have aB:∀W,(Instr.index 9 (.string (QJ z)) (.int .i64 (((QJ z).size:Int)-1))).run prog W=.ok (.int .u8 d) W:=λW=>by
   rw[Bk (QJ z) Tryz.underlying9 .i64 _ ((QJ z).size-1) x3 x3];rw[hd];congr 3;exact Cb z.natAbs F _
  have bp:(1:Int)<=((QJ z).size:Int):=x3;have bq:((QJ z).size:Int)<=536870912:=x3;clear ad;let⟨p1,p2,p3,p4⟩:=g.two;by_cases ca:d=0
  ·obtain⟨L,bs⟩:∃L,L=z / 256:=⟨_,rfl⟩
   have ez:z=L*256:=x3;have f:L≠0:=x3;have R:(QJ z).extract 0 ((QJ z).size-1)=QJ L:=by
    have e2:z.natAbs=L.natAbs*256:=x3;unfold QJ;rw[e2];exact RM _ x3
   have hn:neg z=neg L:=by unfold neg;congr 1;apply propext;omega
   have q:dy L (m+8)=D:=by
    rw[<- n,ez];have:=Fj L m 8;exact this.symm
   have x:Zr L<=S:=L6 (J0 x3) o;have M:=Q.out L (m+8) f q;have Z:=x0f (p0 q (p0 x (p0 hn (p0 g (p0 l (p0 c (p0 f (p0 R (p0 t (p0 C M))))))))));clear ez f hn q x g l c n bs o hd R M;go_wp2
   let⟨q,x,hn,g,l,c,f,R,t,C,M⟩:=Z.out;rw[R];refine⟨⟨L,m+8,f,rfl,q,x3,x,?_,l.far (p:=⟨w.heap.size,1,none⟩) x6 _,c.setCell (L4 _) _⟩,by simp only[intOf];omega⟩;have:=g.set 1 (.string (QJ L));rw[<- hn];exact this
  ·have Z:=x0f (p0 g (p0 l (p0 c (p0 n (p0 t (p0 o (p0 O C)))))));clear g l c n t o O C hd F K;go_wp2_with fail
   go_loopw [1] (λH wr=>∃z m:Int,z≠0/\H=.int .i64 m/\dy z m=D/\e<=m/\Zr z<=S/\Bx wr w.heap.size 30 #[.bool (neg z),.string (QJ z)]/\Bx wr (w.heap.size+1) 32 #[.bool false,.string ⟨#[]⟩,.int .i64 0]/\Below w.heap.size w wr) (λH _=>(de D-intOf H).toNat)
   case atStart =>
    let⟨g,l,c,n,t,o,O,C⟩:=Z.out;exact⟨z,m,O,rfl,n,t,o,g,l,c⟩
   case round =>
    clear Z;obtain⟨z,m,O,rfl,n,t,o,g,l,c⟩:=hrel;have C:=Q.out z m O n;have F:z.natAbs≠0:=x3;have ad:(QJ z).size=Zr z:=XU z;have K:0<Zr z:=GV 8 F;obtain⟨d,hd⟩:∃d:Int,d=((z.natAbs % 256:Nat):Int):=⟨_,rfl⟩
    have bm:d<256:=x3;have bn:0<=d:=x3;have aB:∀W,(Instr.index 9 (.string (QJ z)) (.int .i64 (((QJ z).size:Int)-1))).run prog W=.ok (.int .u8 d) W:=λW=>by
     rw[Bk (QJ z) Tryz.underlying9 .i64 _ ((QJ z).size-1) x3 x3];rw[hd];congr 3;exact Cb z.natAbs F _
    have bp:(1:Int)<=((QJ z).size:Int):=x3;have bq:((QJ z).size:Int)<=536870912:=x3;clear ad;let⟨p1,p2,p3,p4⟩:=g.two;by_cases cb:d % 2=0
    ·have cD:=x0f (bl.out z o x3);obtain⟨G,bc⟩:∃G,G=z / 2:=⟨_,rfl⟩
     obtain⟨U,bd⟩:∃U,U=z % 2:=⟨_,rfl⟩
     rw[<- bc,<- bd]at cD;have ez:z=G*2:=x3;have f:G≠0:=x3;have q:dy G (m+1)=D:=by
      rw[<- n,ez];have:=Fj G m 1;exact this.symm
     have x:Zr G<=S:=L6 (J0 x3) o;have M:=Q.out G (m+1) f q;have HL:=x0f (p0 q (p0 x (p0 g (p0 l (p0 c (p0 f (p0 t (p0 C M))))))));clear ez f q x g l c n o hd bc bd F K;go_wp2_with fail
     let⟨q,x,g,l,c,f,t,C,M⟩:=HL.out;refine Hi [39,40,41,38,42,43,44] [.eq (.agg #[.bool (neg z),.string (QJ z)]),.eq (.agg #[.bool (neg (2)),.string (QJ (2))]),.eq (.tuple #[.agg #[.bool (neg G),.string (QJ G)],.agg #[.bool (neg U),.string (QJ U)],.bool true]),.eq (.tuple #[.agg #[.bool (neg G),.string (QJ G)],.agg #[.bool (neg U),.string (QJ U)],.bool true]),.eq (.agg #[.bool (neg G),.string (QJ G)]),.eq (.agg #[.bool (neg U),.string (QJ U)]),.eq (.bool true)] [5,6] 50 x5 (by exact λ_ _ _ _ _ h=>h) x5 (by rfl) ?hop ?hlate ?htail
     case hop =>
      intro A hA;have P:A.tmps.size=50:=by rw[hA];rfl
      have q2:A.tmps.getD 2 undef=.pointer (some ⟨w.heap.size,0,none⟩):=by rw[hA];rfl
      clear hA;refine⟨?_,?_,?_,?_,?_,?_,?_,trivial⟩
      ·refine lZ P λu W H ec V E B y I=>?_
       exact Ij _ rfl rfl y (by simp[go_sem,B 2 rfl rfl q2,(g.later y).cel]) rfl
      ·refine lZ P λu W H ec V E B y I=>?_
       exact od rfl rfl (by simp[go_sem,ec,V]) (cO.out W) y (λ_ _=>rfl)
      ·refine lZ P λu W H ec V E B y I=>?_
       exact od rfl rfl (by simp[go_sem,V,E 39 0 rfl rfl (I 0 rfl),E 40 1 rfl rfl (I 1 rfl)]) (cD.out W) y (λ_ _=>rfl)
      ·refine lZ P λu W H ec V E B y I=>?_
       exact Ij _ rfl rfl y (by simp[go_sem,E 41 2 rfl rfl (I 2 rfl)]) rfl
      ·refine lZ P λu W H ec V E B y I=>?_
       exact Ij _ rfl rfl y (by simp[go_sem,E 38 3 rfl rfl (I 3 rfl)]) rfl
      ·refine lZ P λu W H ec V E B y I=>?_
       exact Ij _ rfl rfl y (by simp[go_sem,E 38 3 rfl rfl (I 3 rfl)]) rfl
      ·refine lZ P λu W H ec V E B y I=>?_
       exact Ij _ rfl rfl y (by simp[go_sem,E 38 3 rfl rfl (I 3 rfl)]) rfl
     case hlate =>
      intro A hA;have P:A.tmps.size=50:=by rw[hA];rfl
      clear hA;refine⟨trivial,trivial,trivial,trivial,trivial,⟨rfl,?_⟩,⟨rfl,?_⟩,trivial⟩
      ·intro u W I;have ag:=Wd (a:=A) (ds:=[39,40,41,38,42,43,44]) (u:=u) (k:=38) (i:=3) (by rw[P];decide) rfl (I 3 x4);generalize (NJ A [39,40,41,38,42,43,44] u).eval=H at *;exact⟨_,rfl,λw=>(by simp[go_sem,ag]),rfl⟩
      ·intro u W I;have ag:=Wd (a:=A) (ds:=[39,40,41,38,42,43,44]) (u:=u) (k:=38) (i:=3) (by rw[P];decide) rfl (I 3 x4);generalize (NJ A [39,40,41,38,42,43,44] u).eval=H at *;exact⟨_,rfl,λw=>(by simp[go_sem,ag]),rfl⟩
     case htail =>
      intro u T y hP hD;have bi:u 4=.agg #[.bool (neg G),.string (QJ G)]:=hP 4 x4;simp only[JF,Act.put,V7,List.set_cons_zero,List.set_cons_succ,Li,S9,Nat.reduceAdd,List.drop_succ_cons,List.drop_zero,bi];replace g:=g.later y;replace l:=l.later y;replace c:=nxt c y;let⟨q1,q2,q3,q4⟩:=g.two;have HM:=x0f (p0 g (p0 l c));clear hP hD y bi g l c;go_wp2
      let⟨g,l,c⟩:=HM.out;exact⟨⟨G,m+1,f,rfl,q,x3,x,g.set2 _ _,Bx.far2 l x6 _ _,aq c (L4 _) _ _⟩,by simp only[intOf];omega⟩
    ·have X:z % 2=1:=x3;have N:=Og m X;rw[n]at N;have HF:=x0f N;let⟨q1,q2,q5,q3,q4,q6⟩:=l.three;have HY:=x0f (p0 l c);clear hd X N l c n F K o O g;go_wp2_with fail
     let⟨l,c⟩:=HY.out;rw[HF.out.1,HF.out.2];exact bodyPost_ret (v:=.agg #[.bool (neg z),.string (QJ z),.int .i64 m]) (by simp[results,results122,go_sem,(l.set3 _ _ _).cel]) rfl ⟨rfl,m6 c (Rm _ 1) _ _ _⟩
def M3(s:ByteArray)(b:Bool)(e:Int)(w:World)(A:Hid (∀W:World,xP prog 166 #[.agg #[.bool b,.string s]] W (.agg #[.bool false,.string ⟨#[]⟩])))
  :
  xP prog 122 #[.agg #[.bool b,.string s],.int .i64 e] w (.agg #[.bool false,.string ⟨#[]⟩,.int .i64 0]):=by
 go_enter func122,ntmps122
 go_upto_region 1 with(fail)
 have a:=(Bx.new w 30 #[.bool b,.string s]).alloc (.cells #[.bool false,.string ⟨#[]⟩,.int .i64 0] 32);have c:=Bx.at1 w (.cells #[.bool b,.string s] 30) 32 #[.bool false,.string ⟨#[]⟩,.int .i64 0];have d:=b2 w (.cells #[.bool b,.string s] 30) (.cells #[.bool false,.string ⟨#[]⟩,.int .i64 0] 32);generalize (w.alloc (.cells #[.bool b,.string s] 30)).alloc (.cells #[.bool false,.string ⟨#[]⟩,.int .i64 0] 32)=E at *;have B:=a.lt;have C:=c.lt;let⟨m,n,o,p⟩:=a.two;let⟨q1,q,t,u,x,y⟩:=c.three;go_wp2_with fail
 refine(A.out _).mono ?_
 rintro e F ⟨rfl,k⟩;replace a:=a.later k;replace c:=c.later k;replace d:=nxt d k;clear k m n o p q1 q t u x y;let⟨m,n,o,p⟩:=a.two;have f:w.heap.size+1≠w.heap.size:=x3;have z:=a.set2 (.bool false) (.string ⟨#[]⟩);have g:=Bx.far2 (i:=0) (j:=1) c f (.bool false) (.string ⟨#[]⟩);have D:=x0f (p0 g (aq d (L4 _) (.bool false) (.string ⟨#[]⟩)));let⟨r1,G,H,I⟩:=z.two;let⟨q1,q,t,u,x,y⟩:=g.three;clear a c z g d f;go_wp2_with fail
 let⟨g,d⟩:=D.out;exact bodyPost_ret (v:=.agg #[.bool false,.string ⟨#[]⟩,.int .i64 0]) (by simp[results,results122,go_sem,(g.set3 _ _ _).cel]) rfl ⟨rfl,m6 d (Rm _ 1) _ _ _⟩
def ZV(s:xM)(b:Bool)(e:Int)(w:xH)(f:s.size<=8388608)(g:-1073741824<=e)(h:e<=4611686018427387 ):
  xP prog 122 #[.agg #[.bool b,.string s],.int .i64 e] w (.agg #[.bool (neg (dm (dy (Qe b (Qa s)) e))),.string (QJ (dm (dy (Qe b (Qa s)) e))),.int .i64 (de (dy (Qe b (Qa s)) e))]):=by
 have c:=x0f (λW=>XF s b W x3);have j:=GN b s;by_cases a:Qe b (Qa s)=0
 ·rw[a,Jj];rw[a]at c;exact M3 s b e w c
 ·have d:=(UQ e a).2;have n:=iS (s:=s) (λk=>a (by rw[k,Ox]));rw[Xd]at d;refine M2 s b e _ _ s.size w a rfl j f x3 x3 c (x0f λW=>BB 2 W x4 x4) (x0f λz l m W=>?_);exact Nf z W (by rw[XU];omega) m
def bg(s:ByteArray)(b:Bool)(e:Int)(x:Dyadic)(w:World)(y:Hid (∀W:World,xP prog 122 #[.agg #[.bool b,.string s],.int .i64 e] W (.agg #[.bool (neg (dm x)),.string (QJ (dm x)),.int .i64 (de x)])))
  :
  xP prog 76 #[.agg #[.bool b,.string s,.int .i64 e]] w (.agg #[.bool (neg (dm x)),.string (QJ (dm x)),.int .i64 (de x)]):=by
 go_enter func76,ntmps76
 go_upto_region 1 with(fail)
 have c:=(Bx.new w 32 #[.bool b,.string s,.int .i64 e]).alloc (.cells #[.bool false,.string ⟨#[]⟩,.int .i64 0] 32);have a:=Bx.at1 w (.cells #[.bool b,.string s,.int .i64 e] 32) 32 #[.bool false,.string ⟨#[]⟩,.int .i64 0];have g:=b2 w (.cells #[.bool b,.string s,.int .i64 e] 32) (.cells #[.bool false,.string ⟨#[]⟩,.int .i64 0] 32);generalize (w.alloc (.cells #[.bool b,.string s,.int .i64 e] 32)).alloc (.cells #[.bool false,.string ⟨#[]⟩,.int .i64 0] 32)=B at *;have z:=c.lt;have A:=a.lt;let⟨i,j,k,l,m,n⟩:=c.three;let⟨q1,o,p,q,t,u⟩:=a.three;go_wp2_with fail
 refine(y.out _).mono ?_
 rintro e C ⟨rfl,d⟩;replace c:=c.later d;replace a:=a.later d;replace g:=nxt g d;clear d;clear i j l m k n q1 o q t p u;let⟨i,j,k,l,m,n⟩:=c.three;let⟨q1,o,p,q,t,u⟩:=a.three;go_wp2_with fail
 exact bodyPost_ret (v:=.agg #[.bool (neg (dm x)),.string (QJ (dm x)),.int .i64 (de x)]) (by simp[results,results76,go_sem,(a.set3 _ _ _).cel]) rfl ⟨rfl,m6 g (Rm _ 1) _ _ _⟩
def Je(s:xM)(b:Bool)(e:Int)(w:xH)(d:s.size<=8388608)(a:-1073741824<=e)(c:e<=4611686018427387):
  xP prog 76 #[.agg #[.bool b,.string s,.int .i64 e]] w (.agg #[.bool (neg (dm (dy (Qe b (Qa s)) e))),.string (QJ (dm (dy (Qe b (Qa s)) e))),.int .i64 (de (dy (Qe b (Qa s)) e))]):=by
 exact bg s b e _ w (x0f λW=>ZV s b e W d a c)
def XD(s:ByteArray)(b:Bool)(e:Int)(w:World)(q:s.size<=8388608):
  xP prog 77 #[.agg #[.bool b,.string s,.int .i64 e]] w (.int .i64 (GP (dy (Qe b (Qa s)) e))):=by
 rw[Ig];have o:=x0f (λW=>Ko s b W x3);generalize JZ (Qe b (Qa s))=g at *;go_enter func77,ntmps77
 go_upto_region 1 with(fail)
 have a:=Bx.new w 32 #[.bool b,.string s,.int .i64 e];have c:=b1 w (.cells #[.bool b,.string s,.int .i64 e] 32);generalize w.alloc (.cells #[.bool b,.string s,.int .i64 e] 32)=t at *;have p:=a.lt;let⟨f,i,j,k,l,m⟩:=a.three;go_wp2_with fail
 refine(o.out _).mono ?_
 rintro e u ⟨rfl,d⟩;replace a:=a.later d;replace c:=nxt c d;clear d;clear f i k l j m;let⟨f,i,j,k,l,m⟩:=a.three;go_wp2
 go_ret
 exact⟨rfl,c⟩
def mF(n:Int)(x:Dyadic)(w:World)(m:Hid (∀W:World,xP prog 83 #[.int .i64 n] W (.agg #[.bool (neg n),.string (QJ n)])))(o:Hid (∀W:World,xP prog 122 #[.agg #[.bool (neg n),.string (QJ n)],.int .i64 0] W (.agg #[.bool (neg (dm x)),.string (QJ (dm x)),.int .i64 (de x)])))
  :
  xP prog 171 #[.int .i64 n] w (.agg #[.bool (neg (dm x)),.string (QJ (dm x)),.int .i64 (de x)]):=by
 go_enter func171,ntmps171
 go_upto_region 1 with(fail)
 have a:=Bx.new w 32 #[.bool false,.string ⟨#[]⟩,.int .i64 0];have d:=b1 w (.cells #[.bool false,.string ⟨#[]⟩,.int .i64 0] 32);generalize w.alloc (.cells #[.bool false,.string ⟨#[]⟩,.int .i64 0] 32)=q at *;have p:=a.lt;let⟨f,g,i,j,k,l⟩:=a.three;go_wp2_with fail
 refine(m.out _).mono ?_
 rintro e s ⟨rfl,b⟩;replace a:=a.later b;replace d:=nxt d b;clear b;clear f g j k i l;let⟨f,g,i,j,k,l⟩:=a.three;go_wp2_with fail
 refine(o.out _).mono ?_
 rintro e t ⟨rfl,b⟩;replace a:=a.later b;replace d:=nxt d b;clear b;clear f g j k i l;let⟨f,g,i,j,k,l⟩:=a.three;go_wp2_with fail
 exact bodyPost_ret (v:=.agg #[.bool (neg (dm x)),.string (QJ (dm x)),.int .i64 (de x)]) (by simp[results,results171,go_sem,(a.set3 _ _ _).cel]) rfl ⟨rfl,m6 d (L4 _) _ _ _⟩
def bI(n:Int)(w:xH)(a:-9223372036854775808<=n)(b:n<=9223372036854775807):
  xP prog 171 #[.int .i64 n] w (.agg #[.bool (neg (dm (dy n 0))),.string (QJ (dm (dy n 0))),.int .i64 (de (dy n 0))]):=by
 have c:=x0f (λW=>ZV (QJ n) (neg n) 0 W (by rw[XU];exact L6 (jl a b) x4) x4 x4);rw[Xp]at c;exact mF n _ w (x0f λW=>BB n W a b) c
def iQ(s:xM)(b:Bool)(e m:Int)(x:Dyadic)(w:xH)(c:Hid (∀W:xH,xP prog 231 #[.agg #[Ξ b,Ψ s]] W (.agg #[Ξ (neg m),Ψ (QJ m)])))(d:Hid (∀W:xH,xP prog 122 #[.agg #[Ξ (neg m),Ψ (QJ m)],Θ e] W (.agg #[Ξ (neg (dm x)),Ψ (QJ (dm x)),Θ (de x)])))
  :
  xP prog 170 #[.agg #[Ξ b,Ψ s,Θ e]] w (.agg #[Ξ (neg (dm x)),Ψ (QJ (dm x)),Θ (de x)]) :=
 RetAt.at<|rk [.reg 6 [],x04 1 2 (.agg [bV (neg m),sV (QJ m)]),x04 1 5 (.val (vN x))] λW g f=>X0 (rc W call231 λW=>c.out W) (rc W call122 λW=>d.out W)<|f
def Cz(s:xM)(b:Bool)(e:Int)(w:xH)(f:s.size<=8388608)(a:-1073741824<=e)(d:e<=4611686018427387):
  xP prog 170 #[.agg #[.bool b,.string s,.int .i64 e]] w (.agg #[.bool (neg (dm (-dy (Qe b (Qa s)) e))),.string (QJ (dm (-dy (Qe b (Qa s)) e))),.int .i64 (de (-dy (Qe b (Qa s)) e))]):=by
 rw[bZ];have c:=x0f (λW=>ZV (QJ (-Qe b (Qa s))) (neg (-Qe b (Qa s))) e W (by rw[XU,H8];exact L6 (GN b s) f) a d);rw[Xp]at c;exact iQ s b e _ _ w (x0f λW=>SP s b W x3) c
def Tp(s t:xM)(b c:Bool)(e f m g:Int)(x:Dyadic)(w:xH)(d:IntKind.i64.wrap (e+f)=g)(h:Hid (∀W:xH,xP prog 232 #[.agg #[Ξ b,Ψ s],.agg #[Ξ c,Ψ t]] W (.agg #[Ξ (neg m),Ψ (QJ m)])))(i:Hid (∀W:xH,xP prog 122 #[.agg #[Ξ (neg m),Ψ (QJ m)],Θ g] W (.agg #[Ξ (neg (dm x)),Ψ (QJ (dm x)),Θ (de x)])))
  :
  xP prog 172 #[.agg #[Ξ b,Ψ s,Θ e],.agg #[Ξ c,Ψ t,Θ f]] w (.agg #[Ξ (neg (dm x)),Ψ (QJ (dm x)),Θ (de x)]) :=
 RetAt.at<|rk [.reg 11 [],x04 1 4 (.agg [bV (neg m),sV (QJ m)]),x05 1 9 (iV g),x04 1 10 (.val (vN x))] λW k j=>Ja (rc W call232 λW=>h.out W) d (rc W call122 λW=>i.out W)<|j
def Ir{b c:Bool}{s t:xM}{e f:Int}{x y:Dyadic}(w:xH)(a:ND b s e x)(d:ND c t f y)(g:-1073741824<=e+f):
  xP prog 172 #[.agg #[.bool b,.string s,.int .i64 e],.agg #[.bool c,.string t,.int .i64 f]] w (.agg #[.bool (neg (dm (x*y))),.string (QJ (dm (x*y))),.int .i64 (de (x*y))]):=by
 have j:=a.size;have k:=d.size;have l:=a.hi;have m:=d.hi;have n:Zr (Qe b (Qa s)*Qe c (Qa t))<=2097152:=L6 (Js (GN b s) (GN c t)) x3;have h:=x0f (λW=>ZV (QJ (Qe b (Qa s)*Qe c (Qa t))) (neg (Qe b (Qa s)*Qe c (Qa t))) (e+f) W (by rw[XU];omega) g x3);rw[Xp,<- zK,a.val,d.val]at h;exact Tp s t _ _ e f _ _ _ w (Le _ x3) (x0f λW=>M5 s t _ _ W x3 x3) h
def Tf(s t:xM)(b c:Bool)(e f:Int)(x y:Dyadic)(d:Int)(g:d=0)(w:xH)(h:Hid (∀W:xH,xP prog 76 #[.agg #[Ξ b,Ψ s,Θ e]] W (.agg #[Ξ (neg (dm x)),Ψ (QJ (dm x)),Θ (de x)])))(i:Hid (∀W:xH,xP prog 76 #[.agg #[Ξ c,Ψ t,Θ f]] W (.agg #[Ξ (neg (dm y)),Ψ (QJ (dm y)),Θ (de y)])))(cS:Hid (∀W:xH,xP prog 77 #[.agg #[Ξ (neg (dm x)),Ψ (QJ (dm x)),Θ (de x)]] W (Θ d)))
  :
  xP prog 169 #[.agg #[Ξ b,Ψ s,Θ e],.agg #[Ξ c,Ψ t,Θ f]] w (.agg #[Ξ (neg (dm y)),Ψ (QJ (dm y)),Θ (de y)]) :=
 RetAt.at<|rk [.reg 4 [],x04 1 1 (.val (vN x)),x04 1 3 (.val (vN y)),x04 2 1 (iV d),.br true] λW k j=>Ky (rc W call76 λW=>h.out W) (rc W call76 λW=>i.out W) (rc W call77 λW=>cS.out W) (nZ g)<|j
def To(s t:xM)(b c:Bool)(e f:Int)(x y:Dyadic)(d g:Int)(h:¬ d=0)(i:g=0)(w:xH)(j:Hid (∀W:xH,xP prog 76 #[.agg #[Ξ b,Ψ s,Θ e]] W (.agg #[Ξ (neg (dm x)),Ψ (QJ (dm x)),Θ (de x)])))(k:Hid (∀W:xH,xP prog 76 #[.agg #[Ξ c,Ψ t,Θ f]] W (.agg #[Ξ (neg (dm y)),Ψ (QJ (dm y)),Θ (de y)])))(cS:Hid (∀W:xH,xP prog 77 #[.agg #[Ξ (neg (dm x)),Ψ (QJ (dm x)),Θ (de x)]] W (Θ d)))(l:Hid (∀W:xH,xP prog 77 #[.agg #[Ξ (neg (dm y)),Ψ (QJ (dm y)),Θ (de y)]] W (Θ g)))
  :
  xP prog 169 #[.agg #[Ξ b,Ψ s,Θ e],.agg #[Ξ c,Ψ t,Θ f]] w (.agg #[Ξ (neg (dm x)),Ψ (QJ (dm x)),Θ (de x)]) :=
 RetAt.at<|rk [.reg 4 [],x04 1 1 (.val (vN x)),x04 1 3 (.val (vN y)),x04 2 1 (iV d),.br false,x04 4 1 (iV g),.br true] λW n m=>Vv (rc W call76 λW=>j.out W) (rc W call76 λW=>k.out W) (rc W call77 λW=>cS.out W) (UN h) (rc W call77 λW=>l.out W) (nZ i)<|m
def SW(s t:xM)(b c:Bool)(e f:Int)(x y:Dyadic)(g h d m q:Int)(z:Dyadic)(i:¬ g=0)(j:¬ h=0)(k:¬ de x<de y)(l:IntKind.i64.wrap (de x-de y)=d)(w:xH)(n:Hid (∀W:xH,xP prog 76 #[.agg #[Ξ b,Ψ s,Θ e]] W (.agg #[Ξ (neg (dm x)),Ψ (QJ (dm x)),Θ (de x)])))(p:Hid (∀W:xH,xP prog 76 #[.agg #[Ξ c,Ψ t,Θ f]] W (.agg #[Ξ (neg (dm y)),Ψ (QJ (dm y)),Θ (de y)])))(cS:Hid (∀W:xH,xP prog 77 #[.agg #[Ξ (neg (dm x)),Ψ (QJ (dm x)),Θ (de x)]] W (Θ g)))(u:Hid (∀W:xH,xP prog 77 #[.agg #[Ξ (neg (dm y)),Ψ (QJ (dm y)),Θ (de y)]] W (Θ h)))(v:Hid (∀W:xH,xP prog 230 #[.agg #[Ξ (neg (dm x)),Ψ (QJ (dm x))],Θ d] W (.agg #[Ξ (neg m),Ψ (QJ m)])))(A:Hid (∀W:xH,xP prog 229 #[.agg #[Ξ (neg m),Ψ (QJ m)],.agg #[Ξ (neg (dm y)),Ψ (QJ (dm y))]] W (.agg #[Ξ (neg q),Ψ (QJ q)])))(B:Hid (∀W:xH,xP prog 122 #[.agg #[Ξ (neg q),Ψ (QJ q)],Θ (de y)] W (.agg #[Ξ (neg (dm z)),Ψ (QJ (dm z)),Θ (de z)])))
  :
  xP prog 169 #[.agg #[Ξ b,Ψ s,Θ e],.agg #[Ξ c,Ψ t,Θ f]] w (.agg #[Ξ (neg (dm z)),Ψ (QJ (dm z)),Θ (de z)]) :=
 RetAt.at<|rk [.reg 4 [],x04 1 1 (.val (vN x)),x04 1 3 (.val (vN y)),x04 2 1 (iV g),.br false,x04 4 1 (iV h),.br false,.br false,.reg 14 [],x05 8 6 (iV d),x04 8 7 (.agg [bV (neg m),sV (QJ m)]),x04 8 10 (.agg [bV (neg q),sV (QJ q)]),x04 8 13 (.val (vN z))] λW D C=>Yx (rc W call76 λW=>n.out W) (rc W call76 λW=>p.out W) (rc W call77 λW=>cS.out W) (UN i) (rc W call77 λW=>u.out W) (UN j) (pB k) l<|Ja (rc W call230 λW=>v.out W) (rc W call229 λW=>A.out W) (rc W call122 λW=>B.out W)<|C
def Ta(s t:xM)(b c:Bool)(e f:Int)(x y:Dyadic)(g h d m q:Int)(z:Dyadic)(i:¬ g=0)(j:¬ h=0)(k:de x<de y)(l:IntKind.i64.wrap (de y-de x)=d)(w:xH)(n:Hid (∀W:xH,xP prog 76 #[.agg #[Ξ b,Ψ s,Θ e]] W (.agg #[Ξ (neg (dm x)),Ψ (QJ (dm x)),Θ (de x)])))(p:Hid (∀W:xH,xP prog 76 #[.agg #[Ξ c,Ψ t,Θ f]] W (.agg #[Ξ (neg (dm y)),Ψ (QJ (dm y)),Θ (de y)])))(cS:Hid (∀W:xH,xP prog 77 #[.agg #[Ξ (neg (dm x)),Ψ (QJ (dm x)),Θ (de x)]] W (Θ g)))(u:Hid (∀W:xH,xP prog 77 #[.agg #[Ξ (neg (dm y)),Ψ (QJ (dm y)),Θ (de y)]] W (Θ h)))(v:Hid (∀W:xH,xP prog 230 #[.agg #[Ξ (neg (dm y)),Ψ (QJ (dm y))],Θ d] W (.agg #[Ξ (neg m),Ψ (QJ m)])))(A:Hid (∀W:xH,xP prog 229 #[.agg #[Ξ (neg m),Ψ (QJ m)],.agg #[Ξ (neg (dm x)),Ψ (QJ (dm x))]] W (.agg #[Ξ (neg q),Ψ (QJ q)])))(B:Hid (∀W:xH,xP prog 122 #[.agg #[Ξ (neg q),Ψ (QJ q)],Θ (de x)] W (.agg #[Ξ (neg (dm z)),Ψ (QJ (dm z)),Θ (de z)])))
  :
  xP prog 169 #[.agg #[Ξ b,Ψ s,Θ e],.agg #[Ξ c,Ψ t,Θ f]] w (.agg #[Ξ (neg (dm z)),Ψ (QJ (dm z)),Θ (de z)]) :=
 RetAt.at<|rk [.reg 4 [],x04 1 1 (.val (vN x)),x04 1 3 (.val (vN y)),x04 2 1 (iV g),.br false,x04 4 1 (iV h),.br false,.br true,.reg 14 [],x05 8 6 (iV d),x04 8 7 (.agg [bV (neg m),sV (QJ m)]),x04 8 10 (.agg [bV (neg q),sV (QJ q)]),x04 8 13 (.val (vN z))] λW D C=>Yx (rc W call76 λW=>n.out W) (rc W call76 λW=>p.out W) (rc W call77 λW=>cS.out W) (UN i) (rc W call77 λW=>u.out W) (UN j) (pE k) l<|Ja (rc W call230 λW=>v.out W) (rc W call229 λW=>A.out W) (rc W call122 λW=>B.out W)<|C
end
section
set_option maxHeartbeats 4000000
open Go.RowKit
def GF{L a:Nat}{x:Dyadic}(b:DB L a x)(c:L+a<=4000000):
  Hid (∀W:xH,xP prog 77 #[.agg #[.bool (neg (dm x)),.string (QJ (dm x)),.int .i64 (de x)]] W (.int .i64 (GP x))):=by
 have e:=Ic b;have h:=x0f (λW=>XD (QJ (dm x)) (neg (dm x)) (de x) W x3);rw[Xp,F8]at h;exact h
def Cw{b:Bool}{s:xM}{e:Int}{x:Dyadic}(a:ND b s e x):
  Hid (∀W:xH,xP prog 76 #[.agg #[.bool b,.string s,.int .i64 e]] W (.agg #[.bool (neg (dm x)),.string (QJ (dm x)),.int .i64 (de x)])):=by
 have h:=x0f (λW=>Je s b e W (L6 a.size x4) a.lo (x8 a.hi));rw[a.val]at h;exact h
def Bo{L b:Nat}{x y:Dyadic}(e:DB L b x)(f:DB L b y)(g:L+b<=4000000)(i:de y<=de x):
  ∃d m q:Int,IntKind.i64.wrap (de x-de y)=d/\Hid (∀W:xH,xP prog 230 #[.agg #[.bool (neg (dm x)),.string (QJ (dm x))],.int .i64 d] W (.agg #[.bool (neg m),.string (QJ m)])) /\
   Hid (∀W:xH,xP prog 229 #[.agg #[.bool (neg m),.string (QJ m)],.agg #[.bool (neg (dm y)),.string (QJ (dm y))]] W (.agg #[.bool (neg q),.string (QJ q)])) /\
   Hid (∀W:xH,xP prog 122 #[.agg #[.bool (neg q),.string (QJ q)],.int .i64 (de y)] W (.agg #[.bool (neg (dm (x+y))),.string (QJ (dm (x+y))),.int .i64 (de (x+y))])):=by
 have o:=G8 e;have p:=G8 f;have s1:=Ic e;have j:=Ic f;have k:XA (dm x) (de x-de y)=dm x*2^(de x-de y).toNat:=by unfold XA;rw[if_pos x3]
 have l:Zr (dm x*2^(de x-de y).toNat)<=1100000:=by
  rw[XU]at s1;exact L6 (IN s1) x3
 have c:Zr (dm y)<=1100000:=by rw[XU]at j;omega
 have s:=DX l c;refine⟨de x-de y,dm x*2^(de x-de y).toNat,dm x*2^(de x-de y).toNat+dm y,Le _ x3,?_,?_,?_⟩
 ·have h:=x0f (λW=>SB (QJ (dm x)) (neg (dm x)) (de x-de y) W x3 x3 x3);rw[Xp]at h;exact h
 ·have h:=x0f (λW=>M4 (QJ (dm x*2^(de x-de y).toNat)) (QJ (dm y)) (neg (dm x*2^(de x-de y).toNat)) (neg (dm y)) W (by rw[XU];omega) x3);rw[Xp,Xp]at h;exact h
 ·have h:=x0f (λW=>ZV (QJ (dm x*2^(de x-de y).toNat+dm y)) (neg (dm x*2^(de x-de y).toNat+dm y)) (de y) W (by rw[XU];omega) x3 x3);rw[Xp,<- PK,Fj,F8]at h;have n:de y+((de x-de y).toNat:Int)=de x:=x3;rw[n,F8]at h;exact h
def KE{b c:Bool}{s t:xM}{e f:Int}{x y:Dyadic}{L n:Nat}(w:xH)(E:ND b s e x)(F:ND c t f y)(o:DB L n x)(p:DB L n y)(a:L+n<=4000000):
  xP prog 169 #[.agg #[.bool b,.string s,.int .i64 e],.agg #[.bool c,.string t,.int .i64 f]] w (.agg #[.bool (neg (dm (x+y))),.string (QJ (dm (x+y))),.int .i64 (de (x+y))]):=by
 have k:=Cw E;have l:=Cw F;have cS:=GF o a;have u:=GF p a;by_cases C:x=0
 ·subst C;rw[Dyadic.zero_add];exact Tf s t b c e f _ _ _ (dsgn_eq.2 rfl) w k l cS
 ·have g:¬ GP x=0:=λh=>C (dsgn_eq.1 h)
  by_cases D:y=0
  ·subst D;rw[Dyadic.add_zero];exact To s t b c e f _ _ _ _ g (dsgn_eq.2 rfl) w k l cS u
  ·have i:¬ GP y=0:=λh=>D (dsgn_eq.1 h)
   by_cases j:de x<de y
   ·let⟨d,m,q,v,z,A,B⟩:=Bo p o a x3;rw[Dyadic.add_comm x y];exact Ta s t b c e f x y _ _ d m q _ g i j v w k l cS u z A B
   ·let⟨d,m,q,v,z,A,B⟩:=Bo o p a x3;exact SW s t b c e f x y _ _ d m q _ g i j v w k l cS u z A B
def iR(s t:xM)(b c:Bool)(e f:Int)(x z:Dyadic)(w:xH)(d:Hid (∀W:xH,xP prog 170 #[.agg #[Ξ c,Ψ t,Θ f]] W (.agg #[Ξ (neg (dm z)),Ψ (QJ (dm z)),Θ (de z)])))(g:Hid (∀W:xH,xP prog 169 #[.agg #[Ξ b,Ψ s,Θ e],.agg #[Ξ (neg (dm z)),Ψ (QJ (dm z)),Θ (de z)]] W (.agg #[Ξ (neg (dm x)),Ψ (QJ (dm x)),Θ (de x)])))
  :
  xP prog 124 #[.agg #[Ξ b,Ψ s,Θ e],.agg #[Ξ c,Ψ t,Θ f]] w (.agg #[Ξ (neg (dm x)),Ψ (QJ (dm x)),Θ (de x)]) :=
 RetAt.at<|rk [.reg 4 [],x04 1 2 (.val (vN z)),x04 1 3 (.val (vN x))] λW i h=>X0 (rc W call170 λW=>d.out W) (rc W call169 λW=>g.out W)<|h
def CF{b c:Bool}{s t:xM}{e f:Int}{x y:Dyadic}{L g:Nat}(w:xH)(k:ND b s e x)(d:ND c t f y)(l:DB L g x)(h:DB L g y)(a:L+g<=4000000):
  xP prog 124 #[.agg #[.bool b,.string s,.int .i64 e],.agg #[.bool c,.string t,.int .i64 f]] w (.agg #[.bool (neg (dm (x-y))),.string (QJ (dm (x-y))),.int .i64 (de (x-y))]):=by
 have i:=x0f (λW=>Cz t c f W (L6 d.size x4) d.lo (x8 d.hi));rw[d.val]at i;have j:=x0f (λW=>KE W k (WC (zx h) a) l (zx h) a);rw[show x + -y=x-y by grind]at j;exact iR s t b c e f _ _ w i j
def iP(s t:ByteArray)(b c:Bool)(e f g:Int)(x:Dyadic)(w:World)(B:Hid (∀W:World,xP prog 124 #[.agg #[.bool b,.string s,.int .i64 e],.agg #[.bool c,.string t,.int .i64 f]] W (.agg #[.bool (neg (dm x)),.string (QJ (dm x)),.int .i64 (de x)])))(cS:Hid (∀W:World,xP prog 77 #[.agg #[.bool (neg (dm x)),.string (QJ (dm x)),.int .i64 (de x)]] W (.int .i64 g)))
  :
  xP prog 79 #[.agg #[.bool b,.string s,.int .i64 e],.agg #[.bool c,.string t,.int .i64 f]] w (.int .i64 g):=by
 go_enter func79,ntmps79
 go_upto_region 1 with(fail)
 have d:=(Bx.new w 32 #[.bool b,.string s,.int .i64 e]).alloc (.cells #[.bool c,.string t,.int .i64 f] 32);have i:=Bx.at1 w (.cells #[.bool b,.string s,.int .i64 e] 32) 32 #[.bool c,.string t,.int .i64 f];have k:=b2 w (.cells #[.bool b,.string s,.int .i64 e] 32) (.cells #[.bool c,.string t,.int .i64 f] 32);generalize (w.alloc (.cells #[.bool b,.string s,.int .i64 e] 32)).alloc (.cells #[.bool c,.string t,.int .i64 f] 32)=E at *;have C:=d.lt;have D:=i.lt;let⟨l,m,n,o,p,q⟩:=d.three;let⟨q1,u,v,y,z,A⟩:=i.three;go_wp2_with fail
 refine(B.out _).mono ?_
 rintro e F ⟨rfl,a⟩;replace d:=d.later a;replace i:=i.later a;replace k:=nxt k a;clear a;clear l m o p n q q1 u y z v A;let⟨l,m,n,o,p,q⟩:=d.three;let⟨q1,u,v,y,z,A⟩:=i.three;go_wp2_with fail
 refine(cS.out _).mono ?_
 rintro e G ⟨rfl,a⟩;replace d:=d.later a;replace i:=i.later a;replace k:=nxt k a;clear a;clear l m o p n q q1 u y z v A;let⟨l,m,n,o,p,q⟩:=d.three;let⟨q1,u,v,y,z,A⟩:=i.three;go_wp2
 go_ret
 exact⟨rfl,k⟩
def ST{b c:Bool}{s t:xM}{e f:Int}{x y:Dyadic}{L a:Nat}(w:xH)(h:ND b s e x)(i:ND c t f y)(d:DB L a x)(g:DB L a y)(j:L+a<=3000000):
  xP prog 79 #[.agg #[.bool b,.string s,.int .i64 e],.agg #[.bool c,.string t,.int .i64 f]] w (.int .i64 (GP (x-y))):=by
 exact iP s t b c e f _ _ w (x0f λW=>CF W h i d g x3) (GF (zy d g) x3)
end
