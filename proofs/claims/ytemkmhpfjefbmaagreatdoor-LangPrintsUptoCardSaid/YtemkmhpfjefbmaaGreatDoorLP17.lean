/- Laws beneath the statement. -/
import Derived.Test.YtemkmhpfjefbmaaGreatDoorLP16
namespace Go.Proofs.YtemkmhpfjefbmaaGreatDoor
set_option linter.defProp false
open Tryz
set_option maxRecDepth 100000
open Go Go.RowKit
def bw(z n:Int):Zr (XA z n)<=Zr z+n.toNat / 8+1:=by
 unfold XA;split
 ·exact IN (L4 _)
 ·exact L6 (J0 (Tj z _)) x3
def QeL{low:Int}{xs:Nat->Nat->Dyadic}{i j:Nat}(h:low<=de (xs i j)):dy (zI low xs i j) low=xs i j:=by
 grind[zI,XA,Fj,F8]
def bQ{n:Nat}:∀ {xs ys:Nat->Nat->Dyadic},(∀i j,i<n->j<n->xs i j=ys i j)->K4 n xs=K4 n ys:=by
 induction n with
 |zero=>intro _ _ _;rfl
 |succ n b =>
  intro xs ys h;have key:∀m,m<=n+1->SL (λk=>sO k (xs 0 k*K4 n (sn 0 k xs))) m=SL (λk=>sO k (ys 0 k*K4 n (sn 0 k ys))) m:=by
   intro m;induction m with
   |zero=>intro _;rfl
   |succ m a =>
    intro c;show SL _ m+sO m (xs 0 m*K4 n (sn 0 m xs))=SL _ m+sO m (ys 0 m*K4 n (sn 0 m ys));rw[a x3,h 0 m x3 x3,b (xs:=sn 0 m xs) (ys:=sn 0 m ys) (λi j d e=>by
     unfold sn bf;exact h _ _ (by split<;>omega) (by split<;>omega))]
  exact key (n+1) (L4 _)
structure ScY (N L:Nat) (xs:Nat->Nat->Dyadic) where
 g:Nat
 c:Nat
 As:Nat->Nat
 cs:Nat->Nat
 low:Int
 hc:N<=c
 h1:-(L:Int)<=low
 h2:low<=0
 h3:∀i j,i<N->j<N->low<=de (xs i j)
section
variable{N L T0:Nat}{xs:Nat->Nat->Dyadic}(hLT:L+T0<=1000000)(hn:N<=4)(hdb:∀i j,DB L T0 (xs i j))
include hLT hn in
theorem qp(y:ScY N L xs):-4000000<=y.low*(N:Int)/\y.low*(N:Int)<=0:=by
 have a:=y.h1;have b:y.low*4<=y.low*(N:Int):=Int.mul_le_mul_of_nonpos_left y.h2 x3;exact⟨x3,Int.mul_nonpos_of_nonpos_of_nonneg y.h2 x3⟩
include hLT hdb
theorem yF(y:ScY N L xs)(i j:Nat):Zr (zI y.low xs i j)<=380000:=by
 have a:=G8 (hdb i j);have b:=Ic (hdb i j);have c:=bw (dm (xs i j)) (de (xs i j)-y.low);rw[XU]at b;have d:(de (xs i j)-y.low).toNat<=1000000:=xF a.2.1 y.h1;show Zr (XA _ _)<=_;omega
include hn
theorem zC(y:ScY N L xs):∀W,QV W->xP prog 106 #[vI (KI N (zI y.low xs)),.int .i64 (y.low*(N:Int))] W (vN (K4 N xs)):=by
 have h:=qp hLT hn y;refine ox ?_ (L6 (fj N _ (yF hLT hdb y)) ?_) x3 x3
 ·rw[<- mr];exact bQ λi j b c=>QeL (y.h3 i j b c)
 ·have d:380000*N<=380000*4:=Rb _ hn;have e:N*N<=4*4:=Nat.mul_le_mul hn hn;omega
variable{A:xN}{c:Nat}{bs:Nat->Nat->Bool}{ss:Nat->Nat->xM}{es:Nat->Nat->Int}(hx:∀i j,ND (bs i j) (ss i j) (es i j) (xs i j))
include hx
theorem qq(b:0<N)(w:xH)(f:QV w)(i:RdM w A N (λ_=>N) bs ss es):NewIn prog w [] 148 #[.slice A N c] (λy:ScY N L xs=>.tuple #[.slice (some ⟨y.g,0,none⟩) N y.c,.int .i64 (-y.low)]) (λy=>tabG y.g N 248 30 (λx=>x) y.As y.cs (zI y.low xs)) :=
 ⟨λa w=>call148 a w,λW d=>(show Calls _ _ _ _ _ from ei N L T0 hLT x3 A c bs ss es xs W hx hdb (i.below d) (Ql f d)).mono λe q h=>by
  obtain⟨⟨v,low,rfl,j,k,l,m⟩,n⟩:=h;obtain⟨g,o,p,cs,S,rfl,b1,b2,b3⟩:=m.tabG b;exact⟨⟨g,o,p,cs,low,b1,j,k,l⟩,_,S,rfl,b2,b3,n⟩⟩
end
def QaC{N:Nat}{A:xN}{c:Nat}(hn:N<=4)(w:xH)(b:RdL w A N λ_=>N):RetAt prog w 147 #[.slice A N c] (.int .i64 0):=⟨λa w=>call147 a w,λW d=>(dB A N c (λ_=>N) W x3 (b.below d)).mono λe f h=>⟨h.1 ⟨x3,λ_ _=>rfl⟩,h.2.2⟩⟩
def QaD{N:Nat}(L T0:Nat)(A:xN)(c:Nat){bs:Nat->Nat->Bool}{ss:Nat->Nat->xM}{es:Nat->Nat->Int}(xs:Nat->Nat->Dyadic)(d:0<N)(hn:N<=4)(hLT:L+T0<=1000000)(hx:∀i j,ND (bs i j) (ss i j) (es i j) (xs i j))(hdb:∀i j,DB L T0 (xs i j))(w:xH)(b:QV w)(l:RdM w A N (λ_=>N) bs ss es):RetAt prog w 111 #[Ω A N c] (.tuple #[vN (K4 N xs),Θ 0]) :=
 rk [x04 1 1 (iV 0),x09 4 1 [] (λ(a:ScY N L xs)=>(.tuple #[Ω (some ⟨a.g,0,none⟩) N a.c,Θ (-a.low)],tabG a.g N 248 30 (λx=>x) a.As a.cs (zI a.low xs),[x07 5 1 0 (λ_=>False) (λ(e:Unit)=>(vI (KI N (zI a.low xs)),ZI,[x05 5 3 (iV a.low),x05 5 6 (iV (a.low*(N:Int))),x04 5 7 (.val (vN (K4 N xs)))]))]))] λW f m=>have k:=l.below f;have b:=Ql b f;ai (QaC (c:=c) hn W k.len)<|ai (qq (c:=c) hLT hn hdb hx d W b k) λ(a:ScY N L xs)=>ai (jf a.g 380000 a.As a.cs hn x4 a.hc (BInv.start x4 λi j _ _=>yF hLT hdb a i j) W)<|ai (λ(e:Unit)=>Ja (show IntKind.i64.wrap (0-(-a.low))=a.low from by have:=a.h1;have:=a.h2;rw[Le _ x3];omega) (show IntKind.i64.wrap (a.low*(N:Int))=a.low*(N:Int)from by have:=qp hLT hn a;exact Le _ x3) (rt b call106 (zC hLT hn hdb a))<|m) (λ(_:y9) (h:False)=>h)
