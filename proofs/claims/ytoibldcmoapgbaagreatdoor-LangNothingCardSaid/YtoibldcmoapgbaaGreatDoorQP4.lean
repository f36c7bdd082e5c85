/- Laws beneath the statement. -/
import Derived.Test.YtoibldcmoapgbaaGreatDoorQP2
import Derived.BigQuiet
import Derived.Test.YtoibldcmoapgbaaGreatDoorQP3
namespace Go.Proofs.YtoibldcmoapgbaaGreatDoor
open Tryz
set_option maxHeartbeats 4000000
set_option maxRecDepth 100000
open Go.RowKit
variable{m y z:Int}{n T S L:Nat}{w:World}{f:Nat->Int}{x:Dyadic}
theorem SF{k:IntKind}{a b:Int}(h:a=b): Ending.returned (.int k a)=.returned (.int k b):=by rw[h]
theorem NM(A J:Option Addr)(n l c N u v:Nat)(w:World)(hn:n<=4294967296)(Z:l<=4294967296)(O:n<=c)(z:l<=N)(hu:u<LB^n)(r:v<LB^l)(K:Rd w A n λj=>.int .u64 (QD LB u j:Nat))(o:Rd w J l λj=>.int .u64 (QD LB v j:Nat)):
    Calls prog 183 #[.slice A n c,.slice J l N] w λe s=>e=.returned (.int .i64 (Kw u v))/\∃k,s=w.drewN k:=by
  have V:nd 64 u<=n:=Xd x4 hu;have P:nd 64 v<=l:=Xd x4 r;have HU:=hV hu;have HV:=hV r;have C:=hV (λW (h:Rd W A n λj=>.int .u64 (QD LB u j:Nat))=>J5 A n c u W x3 O hu h);have L:=hV (λW (h:Rd W J l λj=>.int .u64 (QD LB v j:Nat))=>J5 J l N v W x3 z r h);clear hu r;by_cases f:nd 64 u=nd 64 v
  · have D:(((nd 64 u:Nat):Int) != ((nd 64 v:Nat):Int))=false:=by rw[f];simp
    have X:=hV f;have Q:nd 64 u<=l:=x3;obtain⟨g,t⟩:∃g,g=nd 64 v:=⟨_,rfl⟩
    rw[f]at C D;rw[f]at V;rw[<- t]at C L D V P;have M:=hV t;clear f t Q;go_enter func183,ntmps183
    go_wp2_with fail
    refine(C.out _ K).mono ?_
    rintro e s ⟨rfl,rfl⟩;go_wp2_with fail
    refine(L.out _ o).mono ?_
    rintro e s ⟨rfl,rfl⟩;go_wp2
    go_loopw [5] (λi wr=>∃k:Nat,k<=g/\i=.int .i64 ((k:Int)-1)/\Hid (∀j,k<=j->j<g->QD LB u j=QD LB v j)/\∃m,wr=w.drewN m) (λi _=>(intOf i+1).toNat)
    case atStart=>exact⟨g,L8 _,rfl,λj E x=>x3,0,rfl⟩
    case round =>
      obtain⟨k,R,rfl,y,m,rfl⟩:=hrel;rcases k with _|p
      · have d:=hV (show Kw u v=0 by
          have e:u=v:=by
            refine Br (B:=LB) (n:=g) ?_ ?_ (λj hj=>y.out j (La _) hj)
            · rw[M.out,<- X.out];exact YI u
            · rw[M.out];exact YI v
          subst e;unfold Kw;simp)
        have e0:((0:Nat):Int)-1=-1:=rfl;rw[e0];go_wp2
        go_ret
        exact⟨by rw[d.out];rfl,m,rfl⟩
      · have e0:((p+1:Nat):Int)-1=(p:Int):=x3
        rw[e0];clear e0;obtain⟨b,off,rfl,F⟩:=K x3;obtain⟨b',G,rfl,H⟩:=o x3;have g1:w.cell? ⟨b,off+p,none⟩=some (.int .u64 (QD LB u p:Nat)):=F p x3;have g2:w.cell? ⟨b',G+p,none⟩=some (.int .u64 (QD LB v p:Nat)):=H p x3;clear F H;have q:∀a b:Nat,a<LB^g->b<LB^g->(∀j,p+1<=j->j<g->QD LB a j=QD LB b j)->QD LB a p<QD LB b p->a<b:=λa b ha D y hd =>
          fz QB ha D R (λj E x=>y j E x) hd
        have hu:u<LB^g:=by rw[M.out,<- X.out];exact YI u
        have r:v<LB^g:=by rw[M.out];exact YI v
        have Y:=hV (show(QD LB u p<QD LB v p->Kw u v=-1)/\(QD LB v p<QD LB u p->Kw u v=1)from
          ⟨λh=>by have:=q u v hu r y.out h;unfold Kw;rw[if_pos this],
           λh=>by have:=q v u r hu (λj E x=>(y.out j E x).symm) h;unfold Kw;rw[if_neg x3,if_neg x3]⟩)
        clear q hu r;rcases Nat.lt_trichotomy (QD LB u p) (QD LB v p)with hd|hd|hd
        · have I:((QD LB u p:Nat):Int)<((QD LB v p:Nat):Int):=x3
          have d:=hV (Y.out.1 hd);clear hd;go_wp2
          go_quiet (fail)
          go_wp2
          go_ret
          exact⟨by rw[d.out];rfl,by simp only[World.drewN_drewN];exact⟨_,rfl⟩⟩
        · have I:¬((QD LB u p:Nat):Int)<((QD LB v p:Nat):Int):=x3
          have S:¬((QD LB v p:Nat):Int)<((QD LB u p:Nat):Int):=x3;have HD:=hV hd;clear hd;go_wp2
          go_quiet (fail)
          go_wp2
          go_quiet (fail)
          go_wp2
          refine⟨⟨p,x3,rfl,λj E x=>?_,_,rfl⟩,by simp[intOf]⟩;by_cases e:j=p
          · subst e;exact HD.out
          · exact y.out j x3 x
        · have I:¬((QD LB u p:Nat):Int)<((QD LB v p:Nat):Int):=x3
          have S:((QD LB v p:Nat):Int)<((QD LB u p:Nat):Int):=x3;have d:=hV (Y.out.2 hd);clear hd;go_wp2
          go_quiet (fail)
          go_wp2
          go_quiet (fail)
          go_wp2
          go_ret
          exact⟨by rw[d.out];rfl,by simp only[World.drewN_drewN];exact⟨_,rfl⟩⟩
  · have D:(((nd 64 u:Nat):Int) != ((nd 64 v:Nat):Int))=true:=by rw[bne_iff_ne];omega
    have T:(((nd 64 u:Nat):Int)==((nd 64 v:Nat):Int))=false:=R7.2 x3;clear f;by_cases U:nd 64 u<nd 64 v
    · have d:=hV (show Kw u v=-1 by unfold Kw;rw[if_pos (EV 64 _ _ x4 U)])
      go_enter func183,ntmps183
      go_wp2_with fail
      refine(C.out _ K).mono ?_
      rintro e s ⟨rfl,rfl⟩;go_wp2_with fail
      refine(L.out _ o).mono ?_
      rintro e s ⟨rfl,rfl⟩;go_wp2
      go_ret
      exact⟨by rw[d.out];rfl,0,rfl⟩
    · have q:¬((nd 64 u:Nat):Int)<((nd 64 v:Nat):Int):=x3
      have d:=hV (show Kw u v=1 by
        have:=EV 64 v u x4 (by have:=of_decide_eq_true (p:=True) rfl;have h3:=R7.1 T;omega);unfold Kw;rw[if_neg x3,if_neg x3])
      go_enter func183,ntmps183
      go_wp2_with fail
      refine(C.out _ K).mono ?_
      rintro e s ⟨rfl,rfl⟩;go_wp2_with fail
      refine(L.out _ o).mono ?_
      rintro e s ⟨rfl,rfl⟩;go_wp2
      go_ret
      exact⟨by rw[d.out];rfl,0,rfl⟩
theorem bQ(A:Option Addr)(n c v:Nat)(w:World)(B:n<=4294967296)(l:n<=c)(m:v<LB^n)(o:Rd w A n λj=>.int .u64 (QD LB v j:Nat)):
  Calls prog 218 #[.slice A n c] w λe f=>e=.returned (.int .i64 (nd 1 v:Nat))/\w=f:=by
 have t:nd 64 v<=n:=Xd x4 m;have g:=hV (J5 A n c v w x3 l m o);by_cases i:v=0
 ·subst i;rw[Cs]at g;go_enter func218,ntmps218
  go_wp2_with fail
  refine g.out.mono ?_
  rintro e f ⟨rfl,rfl⟩;go_wp2
  go_ret
  exact⟨rfl,rfl⟩
 ·have u:=VP 64 i;have a:=ck i;obtain⟨b,off,rfl,r⟩:=o x3;obtain⟨q,p⟩:∃q,nd 64 v=q+1:=⟨nd 64 v-1,x3⟩
  rw[p,Ub]at a;rw[p]at g t;have d:QD LB v q<18446744073709551616:=Yz QB v q;have C:w.cell? ⟨b,off+q,none⟩=some (.int .u64 (QD LB v q:Nat)):=r q x3;have x:=hV (Tryz.bits_LeadingZeros64 (QD LB v q:Nat) w x3 x3);have s:Lib.bitLen ((QD LB v q:Nat):Int).toNat=nd 1 (QD LB v q):=by rw[S9,CV _ d]
  have D:nd 1 (QD LB v q)<=64:=Xd x4 (y8 d);have y:=hV s;have z:=hV a;clear r o m p u s a i d;go_enter func218,ntmps218
  go_wp2_with fail
  refine g.out.mono ?_
  rintro e f ⟨rfl,rfl⟩;go_wp2_with fail
  refine x.out.mono ?_
  rintro e f ⟨rfl,rfl⟩;rw[y.out];go_wp2
  go_ret
  exact⟨SF (by rw[z.out];omega),rfl⟩
theorem Bh(A:Option Addr)(n c v:Nat)(w:World)(hn:n<=4294967296)(y:n<=c)(z:v<LB^n)(K:Rd w A n λj=>.int .u64 (QD LB v j:Nat)):
  b9 prog 184 #[.slice A n c] w (.string (QK v)):=by
 have L:nd 64 v<=n:=Xd x4 z;have a:=YI v;have M:=hV (J5 A n c v w x3 y z K);have g:=K.of_le L;obtain⟨p,l⟩:∃k,k=nd 64 v:=⟨_,rfl⟩
 have C:=kf v;rw[<- l]at M g a L;have W:=hV (bQ A p c v w x3 x3 a g);have X:nd 8 v<=8*p:=Xd x4 (by rw[XR];rw[XZ,XR]at a;rwa [show 8*(8*p)=64*p by omega]);obtain⟨N,D⟩:∃N,N=nd 8 v:=⟨_,rfl⟩
 rw[<- D]at C X;have O:=hV (show(((nd 1 v:Nat):Int)+7) / 8=(N:Int)by omega);have Y:=hV C;have Q:(((nd 1 v:Nat):Int)+7) / 8<=(N:Int):=x3;have R:(N:Int)<=(((nd 1 v:Nat):Int)+7) / 8:=x3;have hl:nd 1 v<=64*p:=Xd x4 (by rw[To];rwa [XZ,XR]at a);have E:1*N<=281474976710656:=x3;have F:N<=9223372036854775807:=x3;have Z:=hV D;have HK:=hV l;clear l D C z a;go_enter func184,ntmps184
 go_wp2_with fail
 refine M.out.mono ?_
 rintro e B ⟨rfl,rfl⟩;go_wp2_with fail
 refine W.out.mono ?_
 rintro e B ⟨rfl,rfl⟩;go_wp2_with (at_make;refine Yi rfl (.tmp 12) (.tmp 12) _ rfl 5 (.int .u8 0) 1 E2 oz rfl .i64 .i64 _ _ N rfl rfl O.out O.out E F ?_;intro w1 hC hB s)
 go_loopw [15] (λi wr=>∃k:Nat,k<=N/\i=.int .i64 k/\Below w.heap.size w wr/\Cel wr w.heap.size 5 N (λj=>.int .u8 ((if N<=j+k then QD 256 v (N-1-j)else 0:Nat):Int))) (λi _=>N-(intOf i).toNat)
 case atStart=>exact⟨0,La _,rfl,hB,hC.congr λj S=>by rw[if_neg x3];rfl⟩
 case round =>
  obtain⟨k,ad,rfl,m,f⟩:=hrel;by_cases s:k<N
  ·obtain⟨q,T⟩:∃q,q=k / 8:=⟨_,rfl⟩
   obtain⟨r,t⟩:∃r,r=k % 8:=⟨_,rfl⟩
   have G:q<p:=x3;obtain⟨b,off,rfl,U⟩:=g x3;have g1:wr.cell? ⟨b,off+q,none⟩=some (.int .u64 (QD LB v q:Nat)):=Ld m (U q G);obtain⟨d,hd⟩:∃d,N=k+d+1:=⟨N-k-1,x3⟩
   have ae:d<N:=x3;have V:(nd 1 v+7) / 8-1-k=d:=y6 Y.out;have g2:=f.cell (i:=(nd 1 v+7) / 8-1-k) x3;have g3:=f.frozen ((nd 1 v+7) / 8-1-k);have H:=hV V;clear V;have I:(k:Int) / 8=(q:Int):=x3;have e3:(k:Int) % 8=(r:Int):=x3;have e4:((QD LB v q:Nat):Int) / 2^(r*8) % 256=((QD 256 v k:Nat):Int):=by
    rw[<- PD v k,<- T,<- t,show(2:Int)^(r*8)=((2^(r*8):Nat):Int)by simp];rfl
   have ag:r<8:=x3;have HQ:=hV (show k=8*q+r by omega);have HD:=hV hd;clear T t hd U;go_wp2
   rw[H.out];refine⟨⟨k+1,s,by go_num,m.setCell (L8 _) _,(f.set_ d _).congr λj S=>?_⟩,by simp[intOf];omega⟩;have:=HD.out;by_cases e:j=d
   ·subst e;simp only[if_true];rw[if_pos x3,show N-1-j=k by omega]
   ·simp only[if_neg e];by_cases I:N<=j+k
    ·rw[if_pos I,if_pos x3]
    ·rw[if_neg I,if_neg x3]
  ·obtain rfl:k=N:=x3;have u:=(f.rd (o:=0) (n:=k) x3).congr (f':=λj=>.int .u8 ((QD 256 v (k-1-j):Nat):Int)) (λj S=>by simp only[Lj];rw[if_pos x3]);have J:=Dk (P:=prog) 82 9 5 E2 Tryz.underlying5 Tryz.underlying9 (some ⟨w.heap.size,0,none⟩) k k (λj=>QD 256 v (k-1-j)) u;have x:(⟨((List.range k).map λj=>UInt8.ofNat (QD 256 v (k-1-j))).toArray⟩:ByteArray)=QK v:=by unfold QK K6;rw[<- Z.out]
   rw[x]at J;clear x u f;go_wp2
   go_ret
   exact⟨rfl,m⟩
def QX(v j:Nat): z0:=.int .u64 (QD LB v j:Nat)
theorem Ml(x y k:Nat)(w:y9): (callFunc 246 #[.int .u64 (QD LB x k:Nat),.int .u64 (QD LB y k:Nat),.int .u64 (J3 LB x y k:Nat)]).run prog w =
  .ok (.value (.tuple #[.int .u64 (QD LB (x+y) k:Nat),.int .u64 (J3 LB x y (k+1):Nat)])) w:=by
 rw[Tryz.bits_Add64 _ _ _ (Pp QB x y k) w,bm QB x y k,UO QB x y k];rfl
theorem Nr(x y k:Nat)(h:y<=x)(w:y9): (callFunc 247 #[.int .u64 (QD LB x k:Nat),.int .u64 (QD LB y k:Nat),.int .u64 (ZY LB x y k:Nat)]).run prog w =
  .ok (.value (.tuple #[.int .u64 (QD LB (x-y) k:Nat),.int .u64 (ZY LB x y (k+1):Nat)])) w:=by
 rw[Tryz.bits_Sub64 _ _ _ (el LB x y k) w,nZ QB h k,Pc QB x y k];rfl
theorem FV(a b:Nat)(w:y9): (callFunc 246 #[.int .u64 (a:Nat),.int .u64 (b:Nat),.int .u64 0]).run prog w =
 .ok (.value (.tuple #[.int .u64 ((a+b) % 18446744073709551616:Nat),.int .u64 ((a+b) / 18446744073709551616:Nat)])) w:=Tryz.bits_Add64 a b 0 x3 w
theorem UD(x y k:Nat)(a:QD LB y k=0)(w:y9): (callFunc 246 #[.int .u64 (QD LB x k:Nat),.int .u64 0,.int .u64 (J3 LB x y k:Nat)]).run prog w =
  .ok (.value (.tuple #[.int .u64 (QD LB (x+y) k:Nat),.int .u64 (J3 LB x y (k+1):Nat)])) w:=by
 have:=Ml x y k w;rw[a]at this;exact this
theorem ap(x y k:Nat)(h:y<=x)(a:QD LB y k=0)(w:y9): (callFunc 247 #[.int .u64 (QD LB x k:Nat),.int .u64 0,.int .u64 (ZY LB x y k:Nat)]).run prog w =
  .ok (.value (.tuple #[.int .u64 (QD LB (x-y) k:Nat),.int .u64 (ZY LB x y (k+1):Nat)])) w:=by
 have:=Nr x y k h w;rw[a]at this;exact this
theorem nu(g o n c T m z x y:Nat)(s:Option Addr)(f:Nat->Value)(w:World)(H:n<=4294967296)(I:o+n<=T)(A:Cel w g 206 T (AC o n (QX x) f))(B:m<=4294967296)(hy:y<LB^m)(C:Rd w s m (QX y))(D:Off s g):
  Calls prog 253 #[.slice (some ⟨g,o,none⟩) n c,.slice s m z] w λe u=>e=.returned (.tuple #[])/\w.grownBy u (some g)/\Cel u g 206 T (AC o n (QX (x+y)) f):=by
 go_enter func253,ntmps253
 go_wp2
 go_loopw [4,9] (λE i wr=>∃k:Nat,k<=n/\i=.int .i64 k/\E=.int .u64 (J3 LB x y k:Nat)/\w.grownBy wr (some g)/\Cel wr g 206 T (AC o n (λj=>if j<k then QX (x+y) j else QX x j) f))
  (λ_ i _=>n-(intOf i).toNat)
 case atStart=>exact⟨0,La _,rfl,by rw[UP];rfl,World.grownBy.refl _ _,A.congr λj _=>VA (λi _=>by rw[if_neg x3]) j⟩
 case round =>
  obtain⟨k,J,rfl,rfl,r,a⟩:=hrel;by_cases d:k<n
  ·have K:wr.cell? ⟨g,o+k,none⟩=some (.int .u64 (QD LB x k:Nat)):=by rw[a.cell x3,Ej d,if_neg x3];rfl
   have L:=a.frozen (o+k);have l:=Ml x y k;have t:=C.grown r D;by_cases p:k<m
   ·obtain⟨b,off,rfl,v⟩:=t x3;have M:wr.cell? ⟨b,off+k,none⟩=some (.int .u64 (QD LB y k:Nat)):=v k p;clear v;go_wp2
    exact⟨⟨k+1,d,by go_num,rfl,Zd r (Or.inl rfl) _,(a.set_ (o+k) _).congr λj _=>BK d (by simp only[Sh,if_true];rfl) (λj F G=>by
     by_cases q:j<k
     ·rw[if_pos q,if_pos x3]
     ·rw[if_neg q,if_neg x3]) j⟩,by simp[intOf];omega⟩
   ·have hd:QD LB y k=0:=Zr QB hy x3;clear l;have l:=UD x y k hd;clear hd;go_wp2
    exact⟨⟨k+1,d,by go_num,rfl,Zd r (Or.inl rfl) _,(a.set_ (o+k) _).congr λj _=>BK d (by simp only[Sh,if_true];rfl) (λj F G=>by
     by_cases q:j<k
     ·rw[if_pos q,if_pos x3]
     ·rw[if_neg q,if_neg x3]) j⟩,by simp[intOf];omega⟩
  ·obtain rfl:k=n:=x3;go_wp2
   go_end0
   exact⟨rfl,r,a.congr λj _=>VA (λi hi=>by rw[if_pos hi]) j⟩
theorem TB(g o n c T p C x y:Nat)(u:Option Addr)(f:Nat->Value)(w:World)(K:n<=4294967296)(L:o+n<=T)(D:Cel w g 206 T (AC o n (QX x) f))(E:p<=4294967296)(hy:y<LB^p)(l:y<=x)(v:x<LB^n)(F:Rd w u p (QX y))(G:Off u g):
  Calls prog 226 #[.slice (some ⟨g,o,none⟩) n c,.slice u p C] w λe A=>e=.returned (.bool true)/\w.grownBy A (some g)/\Cel A g 206 T (AC o n (QX (x-y)) f):=by
 go_enter func226,ntmps226
 go_wp2
 go_loopw [5,10] (λH i wr=>∃k:Nat,k<=n/\i=.int .i64 k/\H=.int .u64 (ZY LB x y k:Nat)/\w.grownBy wr (some g)/\Cel wr g 206 T (AC o n (λj=>if j<k then QX (x-y) j else QX x j) f))
  (λ_ i _=>n-(intOf i).toNat)
 case atStart=>exact⟨0,La _,rfl,by rw[Pd];rfl,World.grownBy.refl _ _,D.congr λj _=>VA (λi _=>by rw[if_neg x3]) j⟩
 case round =>
  obtain⟨k,M,rfl,rfl,t,a⟩:=hrel;by_cases d:k<n
  ·have N:wr.cell? ⟨g,o+k,none⟩=some (.int .u64 (QD LB x k:Nat)):=by rw[a.cell x3,Ej d,if_neg x3];rfl
   have O:=a.frozen (o+k);have m:=Nr x y k l;have z:=F.grown t G;by_cases q:k<p
   ·obtain⟨b,off,rfl,B⟩:=z x3;have P:wr.cell? ⟨b,off+k,none⟩=some (.int .u64 (QD LB y k:Nat)):=B k q;clear B;go_wp2
    exact⟨⟨k+1,d,by go_num,rfl,Zd t (Or.inl rfl) _,(a.set_ (o+k) _).congr λj _=>BK d (by simp only[Sh,if_true];rfl) (λj I J=>by
     by_cases r:j<k
     ·rw[if_pos r,if_pos x3]
     ·rw[if_neg r,if_neg x3]) j⟩,by simp[intOf];omega⟩
   ·have hd:QD LB y k=0:=Zr QB hy x3;clear m;have m:=ap x y k l hd;clear hd;go_wp2
    exact⟨⟨k+1,d,by go_num,rfl,Zd t (Or.inl rfl) _,(a.set_ (o+k) _).congr λj _=>BK d (by simp only[Sh,if_true];rfl) (λj I J=>by
     by_cases r:j<k
     ·rw[if_pos r,if_pos x3]
     ·rw[if_neg r,if_neg x3]) j⟩,by simp[intOf];omega⟩
  ·obtain rfl:k=n:=x3;have s:ZY LB x y k=0:=by unfold ZY;rw[R8 v,R8 (Lw l v),if_neg x3]
   rw[s];clear s v hy l;go_wp2
   go_ret
   exact⟨rfl,t,a.congr λj _=>VA (λi hi=>by rw[if_pos hi]) j⟩
theorem fB{d m:Nat}(a:d<LB)(b:m<LB): d*m<=340282366920938463426481119284349108225:=by
 have:=Nat.mul_le_mul (Nat.le_pred_of_lt a) (Nat.le_pred_of_lt b);exact this
theorem fK{d m a b:Nat}(c:d<LB)(e:m<LB)(f:a<LB)(_hx:b<LB):
  d*m / 18446744073709551616+(d*m % 18446744073709551616+a) / 18446744073709551616<LB /\
  (b+(d*m % 18446744073709551616+a) % 18446744073709551616) % 18446744073709551616=(b+d*m+a) % LB /\
  d*m / 18446744073709551616+(d*m % 18446744073709551616+a) / 18446744073709551616+(b+(d*m % 18446744073709551616+a) % 18446744073709551616) / 18446744073709551616=(b+d*m+a) / LB:=by
 have h:=fB c e;generalize d*m=p at *;simp only[ZW]at *;refine⟨?_,?_,?_⟩<;>omega
theorem Iu(g o n c T s P x y m:Nat)(E:Option Addr)(f:Nat->Value)(w:World)(hn:n<=4294967296)(hT:o+n<=T)(Q:Cel w g 206 T (AC o n (QX x) f))(R:s<=4294967296)(M:m<LB)(hy:y<LB^s)(S:Rd w E s (QX y))(U:Off E g):
  Calls prog 224 #[.slice (some ⟨g,o,none⟩) n c,.slice E s P,.int .u64 m] w λe r=>e=.returned (.tuple #[])/\w.grownBy r (some g)/\Cel r g 206 T (AC o n (QX (x+y*m)) f):=by
 have C:=hV M;clear M;go_enter func224,ntmps224
 go_wp2
 go_loopw [6,14] (λV i wr=>∃k:Nat,k<=n/\i=.int .i64 k/\V=.int .u64 (Z8 LB x y m k:Nat)/\w.grownBy wr (some g)/\Cel wr g 206 T (AC o n (λj=>if j<k then QX (x+y*m) j else QX x j) f))
  (λ_ i _=>n-(intOf i).toNat)
 case atStart=>exact⟨0,La _,rfl,by rw[P6];rfl,World.grownBy.refl _ _,Q.congr λj _=>VA (λi _=>by rw[if_neg x3]) j⟩
 case round =>
  obtain⟨k,hk,rfl,rfl,D,a⟩:=hrel;by_cases l:k<n
  ·have g1:wr.cell? ⟨g,o+k,none⟩=some (.int .u64 (QD LB x k:Nat)):=by rw[a.cell x3,Ej l,if_neg x3];rfl
   have g2:=a.frozen (o+k);have F:=S.grown D U;obtain⟨d,hd⟩:∃d,d=QD LB y k:=⟨_,rfl⟩
   have p:d<LB:=by rw[hd];exact Yz QB _ _
   obtain⟨s1,G,t⟩:=fK p C.out (MY QB C.out x y k) (Yz QB x k);have H:=Wc QB x y m k;have I:=P5 QB x y m k;rw[<- hd]at H I;rw[<- H]at G;rw[<- I]at t;have N:=Tryz.bits_Mul64 d m p C.out wr;have ca:=FV (d*m % 18446744073709551616) (Z8 LB x y m k) wr;have W:=FV (QD LB x k) ((d*m % 18446744073709551616+Z8 LB x y m k) % 18446744073709551616) wr;rw[G]at W;generalize (d*m % 18446744073709551616+Z8 LB x y m k) % 18446744073709551616=J at *;generalize (d*m % 18446744073709551616+Z8 LB x y m k) / 18446744073709551616=K at *;generalize (QD LB x k+J) / 18446744073709551616=X at *;generalize d*m % 18446744073709551616=Y at *;generalize d*m / 18446744073709551616=hi at *;have Z:IntKind.u64.wrap ((hi:Int)+(K:Int))=((hi+K:Nat):Int):=by rw[o0];rw[ZW]at s1;omega
   have q:=MY QB C.out x y (k+1);obtain⟨u,v⟩:∃u,u=hi+K:=⟨_,rfl⟩
   rw[<- v]at Z t;have w2:IntKind.u64.wrap ((u:Int)+(X:Int))=((Z8 LB x y m (k+1):Nat):Int):=by rw[o0,<- t];rw[<- t,ZW]at q;omega
   have z:=hV N;clear s1 G t H I q v N;by_cases A:k<s
   ·obtain⟨b,off,rfl,O⟩:=F x3;have g3:wr.cell? ⟨b,off+k,none⟩=some (.int .u64 (d:Nat)):=by rw[hd];exact O k A
    clear O hd p;go_wp2_with (go_at_call 228;refine z.out.mono ?_;rintro e r ⟨rfl,rfl⟩)
    exact⟨⟨k+1,l,by go_num,rfl,Zd D (Or.inl rfl) _,(a.set_ (o+k) _).congr λj _=>BK l (by simp only[Sh,if_true];rfl) (λj h1 u=>by
     by_cases q:j<k
     ·rw[if_pos q,if_pos x3]
     ·rw[if_neg q,if_neg x3]) j⟩,by simp[intOf];omega⟩
   ·have L:d=0:=by rw[hd];exact Zr QB hy x3
    clear hd p;subst L;have B:Hid (Calls prog 228 #[.int .u64 0,.int .u64 m] wr λe r=>e=.returned (.tuple #[.int .u64 hi,.int .u64 Y])/\r=wr):=z;clear z;have z:=B;clear B;go_wp2_with (go_at_call 228;refine z.out.mono ?_;rintro e r ⟨rfl,rfl⟩)
    exact⟨⟨k+1,l,by go_num,rfl,Zd D (Or.inl rfl) _,(a.set_ (o+k) _).congr λj _=>BK l (by simp only[Sh,if_true];rfl) (λj h1 u=>by
     by_cases q:j<k
     ·rw[if_pos q,if_pos x3]
     ·rw[if_neg q,if_neg x3]) j⟩,by simp[intOf];omega⟩
  ·obtain rfl:k=n:=x3;go_wp2
   go_end0
   exact⟨rfl,D,a.congr λj _=>VA (λi hi=>by rw[if_pos hi]) j⟩
theorem aC(A:Option Addr)(n c v a:Nat)(w:World)(hn:n<=4294967296)(ao:n<=c)(aw:a<=68719476736)(hv:v<LB^n)(hr:Rd w A n (QX v)):
  Calls prog 186 #[.slice A n c,.int .i64 (a:Nat)] w λe T=>∃g N,e=.returned (.slice (some ⟨g,0,none⟩) (nd 64 (v*2^a)) N)/\w.heap.size<=g/\Below w.heap.size w T /\
   Cel T g 206 N (QX (v*2^a))/\N=n+a / 64+1:=by
 obtain⟨q,hq⟩:∃q,q=a / 64:=⟨_,rfl⟩
 obtain⟨s,hs⟩:∃s,s=a % 64:=⟨_,rfl⟩
 have E:a=64*q+s:=x3;have e1:(a:Int) / 64=(q:Int):=x3;have e2:(a:Int) % 64=(s:Int):=x3;have e3:(a:Int).tmod 64=(s:Int):=by rw[Int.tmod_eq_emod_of_nonneg x3];exact e2
 have F:s<64:=x3;have aB:q<=1073741824:=x3;rw[<- hq];have U:=hV E;have HV:=hV hv;have V:8*(n+q+1)<=281474976710656:=x3;have G:n+q+1<=9223372036854775807:=x3;clear hq hs E hv;go_enter func186,ntmps186
 go_wp2_with (at_make;refine Yi rfl (.tmp 14) (.tmp 14) _ rfl 206 (.int .u64 0) 8 Zz VJ rfl .i64 .i64 _ _ (n+q+1) rfl rfl rfl rfl V G ?_;intro w1 hC hB m)
 go_loopw [18] (λi wr=>∃k:Nat,k<=n/\i=.int .i64 k/\Below w.heap.size w wr/\Cel wr w.heap.size 206 (n+q+1) (QX (v % LB^k*2^a))) (λi _=>n-(intOf i).toNat)
 case atStart=>exact⟨0,La _,rfl,hB,hC.congr λj hj=>by unfold QX;rw[Ug,Uq,Uh,KO];rfl⟩
 case round =>
  obtain⟨k,hk,rfl,r,f⟩:=hrel;by_cases m:k<n
  ·obtain⟨b,off,rfl,hc⟩:=hr x3;have g1:wr.cell? ⟨b,off+k,none⟩=some (.int .u64 (QD LB v k:Nat)):=Ld r (hc k m);have g2:wr.cell? ⟨w.heap.size,k+q,none⟩=some (.int .u64 (QD LB (v % LB^k*2^a) (k+q):Nat)):=f.cell (i:=k+q) x3;have g3:=f.frozen (k+q);clear hc;have hd:QD LB v k<LB:=Yz QB v k;have W:v % LB^k*2^a<LB^(k+q)*2^s:=by
    have H:=Ra v (Nat.pow_pos (n:=k) QB);rw[U.out,Lt 2,Lt LB,XZ,XR 64 q,<- R5];exact Rh (Rh H (Lv _)) (Lv s)
   have t:=tW W hd F;have I:v % LB^k*2^a+LB^(k+q)*(2^s*QD LB v k)=v % LB^(k+1)*2^a:=by
    rw[Jt,U.out,Lt 2,Lt LB,XZ,XR 64 q,Rt];congr 1;simp only[R5,Nat.mul_left_comm,Ls]
   rw[I]at t;have X:=Ow (QD LB (v % LB^k*2^a) (k+q)) (QD LB v k*2^s % LB) (Yz QB _ _) (Ra _ QB);have J:=CD (QD LB v k) s;have hz:QD LB (v % LB^k*2^a) (k+q+1)=0:=by
    refine Zr (n:=k+q+1) QB ?_ (L8 _)
    rw[R9];exact Lb W (R4 _ (by rw[XZ];exact Li x4 x3))
   have Y:=hV t;have HZ:=hV hz;obtain⟨d,u⟩:∃d,d=QD LB v k:=⟨_,rfl⟩
   rw[<- u]at g1 X J;obtain⟨Z,x⟩:∃Z,Z=d*2^s % LB:=⟨_,rfl⟩
   rw[<- x]at X J;have K:(QD LB (v % LB^k*2^a) (k+q) ||| Z)=QD LB (v % LB^(k+1)*2^a) (k+q):=by rw[t,if_pos rfl,<- u,x]
   rw[K]at X;have bd:IntKind.i64.wrap (s:Int)=(s:Int):=Lg _ x3;have bi:IntKind.i64.wrap (64-(s:Int))=64-(s:Int):=Lg _ x3;have bk:IntKind.i64.wrap ((k:Int)+(q:Int)+1)=(k:Int)+(q:Int)+1:=Lg _ x3;have b1:(0:Int)<=(k:Int)+(q:Int):=x3;have b2:(k:Int)+(q:Int)<(n:Int)+(q:Int)+1:=x3;have b3:((k:Int)+(q:Int)).toNat=k+q:=x3;have b4:(0:Int)<=(k:Int)+(q:Int)+1:=x3;have b5:(k:Int)+(q:Int)+1<(n:Int)+(q:Int)+1:=x3;have b6:((k:Int)+(q:Int)+1).toNat=k+q+1:=x3;have HD:=hV u;have HL:=hV x;clear t hz u x K I W hd;go_wp2
   go_still_tail 10,x5
   change wpList _ _ _ _ _ wr.drew;have L:=r.drew;have l:=f.drew;have g4:wr.drew.cell? ⟨w.heap.size,k+q,none⟩=some (.int .u64 (QD LB (v % LB^k*2^a) (k+q):Nat)):=l.cell (i:=k+q) x3;have g5:=l.frozen (k+q);clear r f g1 g2 g3;generalize wr.drew=w2 at *;by_cases bl:0<s
   ·have ad:(d:Int) / 2^(64-s)=((d / 2^(64-s):Nat):Int):=SK d (64-s);have bs:(64-(s:Int)).toNat=64-s:=x3;have M:bits .or .u64 0 ((d / 2^(64-s):Nat):Int)=((d / 2^(64-s):Nat):Int):=by
     have z:d<LB:=by rw[HD.out];exact Yz QB v k
     have:=Ow 0 (d / 2^(64-s)) QB (Lw (Rn _ _) z);rw[Nat.zero_or]at this;exact this
    obtain⟨hi,B⟩:∃hi,hi=d / 2^(64-s):=⟨_,rfl⟩
    rw[<- B]at ad M;have HH:=hV B;clear B;have O:=l.set_ (k+q) (.int .u64 ((QD LB (v % LB^(k+1)*2^a) (k+q):Nat):Int));have P:=L.setCell (p:=⟨w.heap.size,k+q,none⟩) (L8 _) (.int .u64 ((QD LB (v % LB^(k+1)*2^a) (k+q):Nat):Int));have Q:=hV O;clear O;go_wp2
    have y:=Q.out;clear Q;generalize w2.setCell ⟨w.heap.size,k+q,none⟩ (.int .u64 ((QD LB (v % LB^(k+1)*2^a) (k+q):Nat):Int))=S at *;have g6:S.cell? ⟨w.heap.size,k+q+1,none⟩=some (.int .u64 0):=by
     rw[y.cell (i:=k+q+1) x3,if_neg x3];unfold QX;rw[HZ.out];rfl
    have g7:=y.frozen (k+q+1);clear g4 g5 l;go_still_tail 12,x5
    change wpList _ _ _ _ _ S.drew;have ae:=P.drew;have R:=y.drew;have g8:S.drew.cell? ⟨w.heap.size,k+q+1,none⟩=some (.int .u64 0):=g6;have g9:=R.frozen (k+q+1);clear P y g6 g7;generalize S.drew=w4 at *;go_wp2
    refine⟨⟨k+1,m,by go_num,ae.setCell (L8 _) _,(R.set_ (k+q+1) _).congr λj hj=>?_⟩,by simp[intOf];omega⟩;have H:=Y.out j;unfold QX;rw[H];by_cases D:j=k+q+1
    ·subst D;rw[if_pos rfl,if_neg x3,if_pos rfl,<- HD.out,<- HH.out]
    ·rw[if_neg D,if_neg D];by_cases C:j=k+q
     ·subst C;rw[if_pos rfl,if_pos rfl,Y.out (k+q),if_pos rfl]
     ·rw[if_neg C,if_neg C]
   ·go_wp2
    refine⟨⟨k+1,m,by go_num,L.setCell (L8 _) _,(l.set_ (k+q) _).congr λj hj=>?_⟩,by simp[intOf];omega⟩;have H:=Y.out j;unfold QX;by_cases C:j=k+q
    ·subst C;rw[if_pos rfl]
    ·rw[if_neg C,H,if_neg C];by_cases D:j=k+q+1
     ·subst D;have z:QD LB v k<LB:=Yz QB v k;rw[if_pos rfl,HZ.out,show 64-s=64 by omega,Ss (by rw[<- XZ];exact z)]
     ·rw[if_neg D]
  ·obtain rfl:k=n:=x3;rw[R8 HV.out]at f;have ag:Rd wr (some ⟨w.heap.size,0,none⟩) (k+q+1) (QX (v*2^a)):=by simpa using f.rd (o:=0) (n:=k+q+1) x3
   have al:=hV (show v*2^a<LB^(k+q+1)by
    rw[U.out,Lt 2,R9,Lt LB,<- R5,XZ,XR 64 q];refine Lb (Rh (Rh (show v<(2^64)^k from HV.out) (Lv (64*q))) (Lv s)) ?_
    exact R4 _ (Li x4 x3))
   go_wp2_with (go_at_call 189;refine(J5 _ _ _ _ _ G (L8 _) al.out ag).mono ?_;rintro e T ⟨rfl,rfl⟩)
   go_ret
   exact⟨_,_,rfl,L8 _,r,f,rfl⟩
theorem AV{v a:Nat}(b:v<LB^n)(h:n<=a / 64): v / 2^a=0:=by
 refine Ss (Lb b ?_);rw[XZ,XR];exact Li x4 x3
theorem PE(A:Option Addr)(n c _v a:Nat)(w:World)(i:n<=4294967296)(b:a<=9223372036854775807)(d:n<=a / 64):
  Calls prog 190 #[.slice A n c,.int .i64 (a:Nat)] w λe f=>e=.returned (.slice none 0 0)/\w=f:=by
 have g:(n:Int)<=(a:Int) / 64:=x3;clear d;go_enter func190,ntmps190
 go_wp2
 go_ret
 exact⟨rfl,rfl⟩
theorem Mx(A:Option Addr)(n c v l:Nat)(w:World)(hn:n<=4294967296)(al:n<=c)(ao:l<=9223372036854775807)(S:l / 64<n)(T:v<LB^n)(hr:Rd w A n (QX v)):
  Calls prog 190 #[.slice A n c,.int .i64 (l:Nat)] w λe U=>∃g N,e=.returned (.slice (some ⟨g,0,none⟩) (nd 64 (v / 2^l)) N)/\w.heap.size<=g/\Below w.heap.size w U /\
   Cel U g 206 N (QX (v / 2^l))/\N<=n/\nd 64 (v / 2^l)<=N:=by
 obtain⟨q,hq⟩:∃q,q=l / 64:=⟨_,rfl⟩
 obtain⟨s,hs⟩:∃s,s=l % 64:=⟨_,rfl⟩
 have I:l=64*q+s:=x3;have e1:(l:Int) / 64=(q:Int):=x3;have e2:(l:Int) % 64=(s:Int):=x3;have e3:(l:Int).tmod 64=(s:Int):=by rw[Int.tmod_eq_emod_of_nonneg x3];exact e2
 have J:s<64:=x3;rw[<- hq]at S;obtain⟨b,off,rfl,V⟩:=hr x3;obtain⟨N,hN⟩:∃N,n=q+N:=⟨n-q,x3⟩
 have hX:v / LB^q<LB^N:=by rw[Lm (Sb QB),<- Lt,Te,<- hN];exact T
 have K:Rd w (some ⟨b,off+q,none⟩) N (QX (v / LB^q)):=λ_=>⟨b,off+q,rfl,λj G=>by
  rw[Sc,V (q+j) x3];unfold QX;rw[KI]⟩
 have cc:=hV (Ay (some ⟨b,off+q,none⟩) N (c-q) (v / LB^q) 0 N w x3 x3 x3 x6 x3 hX K);have hC:=hV V;have HQ:=hV I;have HV:=hV T;subst hN;have h3:q+N-q=N:=x3;have aw:0<N:=x3;clear hq hs I T V hr hX K;go_enter func190,ntmps190
 go_wp2_with fail
 refine cc.out.mono ?_
 rintro e w1 ⟨g,rfl,E,hB,L⟩;have ag:=L.lt;go_wp2
 go_loopw [19] (λi wr=>∃k:Nat,k<=N/\i=.int .i64 k/\Below w.heap.size w wr/\Cel wr g 206 N (λj=>if j<k then QX (v / 2^l) j else QX (v / LB^q) j)) (λi _=>N-(intOf i).toNat)
 case atStart=>exact⟨0,La _,rfl,hB,L.congr λj G=>by rw[if_neg x3];rfl⟩
 case round =>
  obtain⟨k,hk,rfl,F,m⟩:=hrel;by_cases u:k<N
  ·have g1:wr.cell? ⟨g,k,none⟩=some (.int .u64 (QD LB (v / LB^q) k:Nat)):=by rw[m.cell u,if_neg x3];rfl
   have g2:=m.frozen k;have d:=iJ v q s k J;rw[<- HQ.out,<- KI LB v q k]at d;have W:=SK (QD LB (v / LB^q) k) s;have y:QD LB (v / LB^q) k / 2^s<LB:=Lw (Rn _ _) (Yz QB _ _);have X:=Ow (QD LB (v / LB^q) k / 2^s) (QD LB v (q+k+1)*2^(64-s) % LB) y (Ra _ QB);rw[<- d]at X;have Y:=CD (QD LB v (q+k+1)) (64-s);obtain⟨p,R⟩:∃p,p=QD LB (v / LB^q) k / 2^s:=⟨_,rfl⟩
   obtain⟨t,H⟩:∃t,t=QD LB v (q+k+1)*2^(64-s) % LB:=⟨_,rfl⟩
   rw[<- R]at W X d;rw[<- H]at X Y d;have a:=m.set_ k (.int .u64 (p:Int));have x:=F.setCell (p:=⟨g,k,none⟩) E (.int .u64 (p:Int));by_cases aB:k+1<N
   ·by_cases bd:0<s
    ·have C:(k:Int)+1<(N:Int):=x3;have M:(0:Int)<(s:Int):=x3;have r:=hV a;have bi:=hV d;clear a y R H d;go_wp2
     have z:=r.out;clear r g1 g2 F m;generalize wr.setCell ⟨g,k,none⟩ (.int .u64 (p:Int))=O at *;have g3:O.cell? ⟨g,k,none⟩=some (.int .u64 (p:Nat)):=by rw[z.cell u,if_pos rfl]
     have g4:=z.frozen k;have g5:O.cell? ⟨b,off+(q+k+1),none⟩=some (.int .u64 (QD LB v (q+k+1):Nat)):=Ld x (hC.out (q+k+1) x3);have b1:(0:Int)<=(q:Int)+(k:Int)+1:=x3;have b2:(q:Int)+(k:Int)+1<(q:Int)+(N:Int):=x3;have b3:((q:Int)+(k:Int)+1).toNat=q+k+1:=x3;have bk:IntKind.i64.wrap (s:Int)=(s:Int):=Lg _ x3;have bl:IntKind.i64.wrap (64-(s:Int))=64-(s:Int):=Lg _ x3;have bs:IntKind.i64.wrap ((q:Int)+(k:Int))=(q:Int)+(k:Int):=Lg _ x3;have bX:IntKind.i64.wrap ((q:Int)+(k:Int)+1)=(q:Int)+(k:Int)+1:=Lg _ x3;have bY:IntKind.i64.wrap (q:Int)=(q:Int):=Lg _ x3;have ca:(64-(s:Int)).toNat=64-s:=x3;have b4:(0:Int)<=64-(s:Int):=x3;go_still_tail 18,x5
     change wpList _ _ _ _ _ O.drew;have Z:=x.drew;have P:=z.drew;have g8:O.drew.cell? ⟨g,k,none⟩=some (.int .u64 (p:Nat)):=g3;have g9:=P.frozen k;clear x z g3 g4 g5;generalize O.drew=w4 at *;go_wp2
     refine⟨⟨k+1,u,by go_num,Z.setCell E _,(P.set_ k _).congr λj G=>?_⟩,by simp[intOf];omega⟩;by_cases B:j=k
     ·subst B;rw[if_pos rfl,if_pos x3];rfl
     ·rw[if_neg B,if_neg B];by_cases D:j<k
      ·rw[if_pos D,if_pos x3]
      ·rw[if_neg D,if_neg x3]
    ·have M:¬(0:Int)<(s:Int):=x3;have C:(k:Int)+1<(N:Int):=x3;have f:QD LB (v / 2^l) k=p:=by
      rw[d,H,show s=0 by omega,Nat.sub_zero,<- XZ,Nat.mul_mod_left,Nat.or_zero]
     have HP:=hV f;have r:=hV a;clear y R H d f a;go_wp2
     have f:=HP.out;have a:=r.out;refine⟨⟨k+1,u,by go_num,x,a.congr λj G=>?_⟩,by simp[intOf];omega⟩;by_cases B:j=k
     ·subst B;rw[if_pos rfl,if_pos x3];unfold QX;rw[f]
     ·rw[if_neg B];by_cases D:j<k
      ·rw[if_pos D,if_pos x3]
      ·rw[if_neg D,if_neg x3]
   ·have C:¬(k:Int)+1<(N:Int):=x3;have f:QD LB (v / 2^l) k=p:=by
     rw[d,H,show q+k+1=q+N by omega,Zr QB HV.out (L8 _),Uh,Nat.zero_mod,Nat.or_zero]
    have HP:=hV f;have r:=hV a;clear y R H d f a;go_wp2
    have f:=HP.out;have a:=r.out;refine⟨⟨k+1,u,by go_num,x,a.congr λj G=>?_⟩,by simp[intOf];omega⟩;by_cases B:j=k
    ·subst B;rw[if_pos rfl,if_pos x3];unfold QX;rw[f]
    ·rw[if_neg B];by_cases D:j<k
     ·rw[if_pos D,if_pos x3]
     ·rw[if_neg D,if_neg x3]
  ·obtain rfl:k=N:=x3;have a:=m.congr (f':=QX (v / 2^l)) (λj G=>by rw[if_pos G]);have ad:Rd wr (some ⟨g,0,none⟩) k (QX (v / 2^l)):=by simpa using a.rd (o:=0) (n:=k) x3
   have Q:=hV (show v / 2^l<LB^k by
    rw[HQ.out,Lt 2,<- Rk,<- XR 64 q,<- XZ];refine Lw (Rn _ _) ?_
    rw[Lm (Sb QB),<- Lt,Te];exact HV.out)
   have ae:k<=9223372036854775807:=x3;clear m;go_wp2_with (go_at_call 189;refine(J5 _ _ _ _ _ ae (L8 _) Q.out ad).mono ?_;rintro e U ⟨rfl,rfl⟩)
   go_ret
   exact⟨_,_,rfl,E,F,a,x3,Xd (k:=64) x4 Q.out⟩
def Qa(s:u4): Nat:=J1 s.data.toList
theorem Yl(v:Nat): Qa (QK v)=v:=En v
theorem FQ(s:u4): Qa s<256^s.size:=by have:=Bn s.data.toList;rwa [show s.data.toList.length=s.size by simp]at this
theorem Gg(s:u4): nd 64 (Qa s)<=(s.size+7) / 8:=by have:=pc s.data.toList;rwa [show s.data.toList.length=s.size by simp]at this
theorem Cel.rd0{g:Nat}{t:u6}{f:Nat->z0}(h:Cel w g t T f)(a:n<=T): Rd w (some ⟨g,0,none⟩) n f :=
 (h.rd (o:=0) (n:=n) x3).congr λj _=>by rw[Lj]
theorem Kd(s:u4)(w:y9)(d:s.size<=4294967296):
  Calls prog 159 #[.string s] w λe a=>∃g N,e=.returned (.slice (some ⟨g,0,none⟩) (nd 64 (Qa s)) N)/\w.heap.size<=g/\Below w.heap.size w a /\
   Cel a g 206 N (QX (Qa s))/\nd 64 (Qa s)<=N/\N<=4294967296/\Rd a (some ⟨g,0,none⟩) (nd 64 (Qa s)) (QX (Qa s)) :=
 (uZ s w d).mono λe a ⟨g,N,f,h,i,b,j⟩=>by
  have k:=Gg s;have c:nd 64 (Qa s)<=N:=x3;exact⟨g,N,f,h,i,b,c,x3,Cel.rd0 b c⟩
theorem uB(A:u5)(c v:Nat)(w:y9)(b:nd 64 v<=4294967296)(a:nd 64 v<=c)(d:Rd w A (nd 64 v) (QX v)):
 Calls prog 218 #[.slice A (nd 64 v) c] w λe f=>e=.returned (.int .i64 (nd 1 v:Nat))/\w=f:=bQ A _ c v w b a (YI v) d
theorem B2(A:u5)(c v:Nat)(w:y9)(b:nd 64 v<=4294967296)(a:nd 64 v<=c)(d:Rd w A (nd 64 v) (QX v)):
 b9 prog 184 #[.slice A (nd 64 v) c] w (.string (QK v)):=Bh A _ c v w b a (YI v) d
theorem F6(A b:u5)(c d u v:Nat)(w:y9)(i:nd 64 u<=4294967296)(f:nd 64 v<=4294967296)(g:nd 64 u<=c)(a:nd 64 v<=d)(j:Rd w A (nd 64 u) (QX u))(h:Rd w b (nd 64 v) (QX v)):
  Calls prog 183 #[.slice A (nd 64 u) c,.slice b (nd 64 v) d] w λe l=>e=.returned (.int .i64 (Kw u v))/\∃k,l=w.drewN k :=
 NM A b _ _ c d u v w i f g a (YI u) (YI v) j h
theorem Cq(s:ByteArray)(w:World)(a:s.size<=4294967296):
  b9 prog 164 #[.string s] w (.int .i64 (nd 1 (Qa s):Nat)):=by
 go_enter func164,ntmps164
 go_wp2_with fail
 refine(Kd s w a).mono ?_
 rintro e i ⟨g,N,rfl,j,c,k,d,l,f⟩;go_wp2_with fail
 refine(uB _ _ _ _ x3 d f).mono ?_
 rintro e m ⟨rfl,rfl⟩;go_wp2
 go_ret
 exact⟨rfl,c⟩
theorem j7(s t:ByteArray)(w:World)(f:s.size<=4294967296)(i:t.size<=4294967296):
  b9 prog 254 #[.string s,.string t] w (.int .i64 (Kw (Qa s) (Qa t))):=by
 go_enter func254,ntmps254
 go_wp2_with fail
 refine(Kd s w f).mono ?_
 rintro e l ⟨g,N,rfl,r,d,u,m,v,n⟩;go_wp2_with fail
 refine(Kd t l i).mono ?_
 rintro e x ⟨y,z,rfl,o,a,p,b,q,c⟩;go_wp2_with fail
 refine(F6 _ _ _ _ _ _ _ x3 x3 m b (n.below a) c).mono ?_
 rintro e A ⟨rfl,k,rfl⟩;go_wp2
 go_ret
 exact⟨rfl,ZA (QE d a d.size) k⟩
theorem M6(s:ByteArray)(w:World):
  Calls prog 217 #[.string s] w λe c=>e=.returned (.string (QK (Qa s)))/\w=c:=by
 have a:=Tryz.strings_TrimLeft_one s 0 x4 w;have b:(⟨(Lib.trimLeftB s.data.toList 0).toArray⟩:ByteArray)=QK (Qa s):=by unfold QK Qa;rw[Ek];rfl
 rw[b]at a;have d:=hV a;clear a b;go_enter func217,ntmps217
 go_wp2_with fail
 refine d.out.mono ?_
 rintro e f ⟨rfl,rfl⟩;go_wp2
 go_ret
 exact⟨rfl,rfl⟩
theorem FB(n:Nat)(w:World)(a:n<LB):
  b9 prog 139 #[.int .u64 (n:Nat)] w (.string (QK n)):=by
 have b:Rd (w.alloc (.cells #[.int .u64 (n:Nat)] 206)) (some ⟨w.heap.size,0,none⟩) 1 (QX n):=by
  have:=(Cel.new w 206 #[.int .u64 (n:Nat)]).rd (o:=0) (n:=1) x6;refine this.congr λj g=>?_
  obtain rfl:j=0:=x3;simp[QX,QD,R8 a]
 have d:=hV (Bh (some ⟨w.heap.size,0,none⟩) 1 1 n _ x3 x3 (y8 a) b);clear b a;go_enter func139,ntmps139
 go_wp2_with fail
 refine d.out.mono ?_
 rintro e i ⟨rfl,f⟩;go_wp2
 go_ret
 exact⟨rfl,QE ((l3 _ _).alloc (L8 _) _) f x6⟩
theorem D3(o n:Nat)(f:Nat->z0)(j:Nat): AC o n (λi=>f (o+i)) f j=f j:=by
 unfold AC;split
 ·rename_i h;simp only;congr 1;omega
 ·rfl
theorem RA(s t:ByteArray)(w:World)(E:s.size<=4294967296)(F:t.size<=4294967296):
  b9 prog 245 #[.string s,.string t] w (if Qa s<Qa t then .tuple #[.string ⟨#[]⟩,.bool false]else .tuple #[.string (QK (Qa s-Qa t)),.bool true]):=by
 by_cases a:Qa s<Qa t
 ·rw[if_pos a];have K:=cmpI_lt.2 a;clear a;go_enter func245,ntmps245
  go_wp2_with fail
  refine(Kd s w E).mono ?_
  rintro e p ⟨g,N,rfl,G,f,q,m,L,r⟩;go_wp2_with fail
  refine(Kd t p F).mono ?_
  rintro e H ⟨M,O,rfl,u,b,v,d,x,c⟩;go_wp2_with fail
  refine(F6 _ _ _ _ _ _ _ x3 x3 m d (r.below b) c).mono ?_
  rintro e P ⟨rfl,k,rfl⟩;go_wp2
  go_ret2
  exact⟨rfl,ZA (QE f b f.size) k⟩
 ·rw[if_neg a];have K:¬ Kw (Qa s) (Qa t)<0:=λh=>a (cmpI_lt.1 h)
  have y:=hV (Sg a);clear a;go_enter func245,ntmps245
  go_wp2_with fail
  refine(Kd s w E).mono ?_
  rintro e p ⟨g,N,rfl,G,f,q,m,L,r⟩;go_wp2_with fail
  refine(Kd t p F).mono ?_
  rintro e H ⟨M,O,rfl,u,b,v,d,x,c⟩;go_wp2_with fail
  refine(F6 _ _ _ _ _ _ _ x3 x3 m d (r.below b) c).mono ?_
  rintro e P ⟨rfl,k,rfl⟩;have Q:=q.lt;have z:Cel (H.drewN k) g 206 N (AC 0 (nd 64 (Qa s)) (QX (Qa s)) (QX (Qa s))):=((q.bel b).drewN k).congr λj _=>by
   have:=D3 0 (nd 64 (Qa s)) (QX (Qa s)) j;simp only[Lj]at this;exact this.symm
  go_wp2_with fail
  refine(TB _ _ _ _ _ _ _ _ _ _ _ _ x3 x3 z x3 (YI _) y.out (YI _) (c.drewN k) (Off.some_ x3)).mono ?_
  rintro e I ⟨rfl,A,B⟩;have R:nd 64 (Qa s-Qa t)<=nd 64 (Qa s):=BM x4 (Nat.sub_le _ _);have C:Rd I (some ⟨g,0,none⟩) (nd 64 (Qa s)) (QX (Qa s-Qa t)):=(B.rd (o:=0) (n:=nd 64 (Qa s)) x3).congr λj S=>Ej S
  go_wp2_with fail
  refine(Bh _ _ _ _ _ x3 m (Lw (Nat.sub_le _ _) (YI _)) C).mono ?_
  rintro e T ⟨rfl,D⟩;go_wp2
  go_ret2
  have i:=ZA (QE f b f.size) k;have l:Below w.heap.size w I:=Zl i A i.size G;exact⟨rfl,QE l D l.size⟩
theorem Ql{g:Nat}{tab:List Nat}{a:y9}(h:TabAt g tab w)(c:Below w.heap.size w a): TabAt g tab a:=λj b=>(c.cell (p:=⟨g,j,none⟩) (V3 (h j b))).trans (h j b)
theorem Dg(s:ByteArray)(w:World)(t:s.size<=4294967296)(q:TabAt 4 Lib.deBruijn64tab w):
  b9 prog 120 #[.string s] w (.int .i64 (tz (Qa s):Nat)):=by
 have v:=hV q;clear q;go_enter func120,ntmps120
 go_wp2_with fail
 refine(Kd s w t).mono ?_
 rintro e r ⟨g,N,rfl,A,c,x,C,D,E⟩;go_wp2
 go_loop [8] (λi=>∃k:Nat,k<=nd 64 (Qa s)/\i=.int .i64 k/\Hid (∀j,j<k->QD LB (Qa s) j=0)) (λi=>nd 64 (Qa s)-(intOf i).toNat)
 case atStart=>exact⟨0,La _,rfl,λj b=>x3⟩
 case round =>
  obtain⟨k,F,rfl,d⟩:=hrel;by_cases f:k<nd 64 (Qa s)
  ·have G:r.cell? ⟨g,k,none⟩=some (.int .u64 (QD LB (Qa s) k:Nat)):=x.cell x3;by_cases hd:QD LB (Qa s) k=0
   ·have y:=hV hd;have l:(((QD LB (Qa s) k:Nat):Int) != 0)=false:=by rw[hd];rfl
    clear hd;go_wp2
    refine⟨⟨k+1,f,by go_num,λj b=>?_⟩,by simp[intOf];omega⟩;by_cases e:j=k
    ·subst e;exact y.out
    ·exact d.out j x3
   ·have l:(((QD LB (Qa s) k:Nat):Int) != 0)=true:=by rw[bne_iff_ne];omega
    have a:=hV (show tz (Qa s)=64*k+tz (QD LB (Qa s) k)from rz (by
     refine Br (B:=LB) (n:=k) (Ra _ (Sb QB)) (Sb QB) λj b=>?_
     rw[Vi b,KO];exact d.out j b) hd)
    have o:=Tryz.bits_TrailingZeros64 (QD LB (Qa s) k) (Yz QB _ _) r (λ_=>Ql v.out c);have p:Lib.ctz 64 (QD LB (Qa s) k)<=64:=by
     obtain⟨m,_,H⟩:=Lib.ctzFrom_spec 64 (QD LB (Qa s) k) x3 (Yz QB _ _);unfold Lib.ctz;rw[if_neg hd];omega
    rw[wG hd (Yz QB _ _)]at o p;have z:=hV o;clear hd o;go_wp2_with fail
    refine z.out.mono ?_
    rintro e I ⟨rfl,rfl⟩;go_wp2
    go_ret
    exact⟨SF (by rw[a.out];omega),c⟩
  ·obtain rfl:k=nd 64 (Qa s):=x3;have a:=hV (show Qa s=0 by
    refine Br (B:=LB) (n:=nd 64 (Qa s)) (YI _) (Sb QB) λj b=>?_
    rw[KO];exact d.out j b)
   go_wp2
   go_ret
   exact⟨by rw[a.out];rfl,c⟩
theorem P9(s t:ByteArray)(w:World)(I:s.size<=4294967296)(J:t.size<=4294967296):
  b9 prog 242 #[.string s,.string t] w (.string (QK (Qa s*Qa t))):=by
 have b1:nd 64 (Qa s)<=1073741824:=y6 (Gg s);have b2:nd 64 (Qa t)<=1073741824:=y6 (Gg t);have p:8*(nd 64 (Qa s)+nd 64 (Qa t)+1)<=281474976710656:=x3;have q:nd 64 (Qa s)+nd 64 (Qa t)+1<=9223372036854775807:=x3;go_enter func242,ntmps242
 go_wp2_with fail
 refine(Kd s w I).mono ?_
 rintro e L ⟨g,N,rfl,W,F,M,X,Y,Z⟩;go_wp2_with fail
 refine(Kd t L J).mono ?_
 rintro e d ⟨O,P,rfl,Q,f,r,R,S,u⟩;have l:=QE F f F.size;have T:=r.lt;go_wp2_with (at_make;refine Yi rfl (.tmp 19) (.tmp 19) _ rfl 206 (.int .u64 0) 8 Zz VJ rfl .i64 .i64 _ _ (nd 64 (Qa s)+nd 64 (Qa t)+1) rfl rfl rfl rfl p q ?_;intro U v m G)
 go_loopw [23] (λi wr=>∃k:Nat,k<=nd 64 (Qa s)/\i=.int .i64 k/\U.grownBy wr (some d.heap.size)/\Cel wr d.heap.size 206 (nd 64 (Qa s)+nd 64 (Qa t)+1) (QX (Qa s % LB^k*Qa t))) (λi _=>nd 64 (Qa s)-(intOf i).toNat)
 case atStart=>exact⟨0,La _,rfl,World.grownBy.refl _ _,v.congr λj H=>by unfold QX;rw[Ug,Uq,Uh,KO];rfl⟩
 case round =>
  obtain⟨k,hk,rfl,n,b⟩:=hrel;have c:Below d.heap.size d wr:=Zl m n m.size (L8 _);by_cases x:k<nd 64 (Qa s)
  ·have g1:wr.cell? ⟨g,k,none⟩=some (.int .u64 (QD LB (Qa s) k:Nat)):=((M.bel f).bel c).cell x3;have y:Cel wr d.heap.size 206 (nd 64 (Qa s)+nd 64 (Qa t)+1) (AC k (nd 64 (Qa s)+nd 64 (Qa t)+1-k) (QX (Qa s % LB^k*Qa t / LB^k)) (QX (Qa s % LB^k*Qa t))) :=
    b.congr λj H=>by
     unfold AC;by_cases h:k<=j/\j<k+(nd 64 (Qa s)+nd 64 (Qa t)+1-k)
     ·rw[if_pos h];unfold QX;rw[KI,show k+(j-k)=j by omega]
     ·rw[if_neg h]
   have z:Rd wr (some ⟨O,0,none⟩) (nd 64 (Qa t)) (QX (Qa t)):=u.below c;have A:=hV (Iu d.heap.size k (nd 64 (Qa s)+nd 64 (Qa t)+1-k) (nd 64 (Qa s)+nd 64 (Qa t)+1-k) (nd 64 (Qa s)+nd 64 (Qa t)+1) (nd 64 (Qa t)) P _ (Qa t) (QD LB (Qa s) k) _ _ wr x3 x3 y x3 (Yz QB _ _) (YI _) z (Off.some_ x3));go_wp2_with fail
   refine A.out.mono ?_
   rintro e V ⟨rfl,B,C⟩;go_wp2
   refine⟨⟨k+1,x,by go_num,Gt n B,C.congr λj H=>?_⟩,by simp[intOf];omega⟩;have e:Qa s % LB^(k+1)*Qa t=Qa s % LB^k*Qa t+LB^k*(Qa t*QD LB (Qa s) k):=by
    rw[Jt,Rt,R5,Ls (Qa t)]
   rw[e];unfold AC QX;by_cases h:k<=j/\j<k+(nd 64 (Qa s)+nd 64 (Qa t)+1-k)
   ·rw[if_pos h];obtain⟨i,rfl⟩:∃i,j=k+i:=⟨j-k,x3⟩
    rw[Ha QB,Tb]
   ·rw[if_neg h,Hb x3]
  ·obtain rfl:k=nd 64 (Qa s):=x3;rw[R8 (YI _)]at b;have a:Qa s*Qa t<LB^(nd 64 (Qa s)+nd 64 (Qa t)+1):=by
    rw[R9,Lt];exact Lb (Um (YI _) (YI _)) (Rv _ QB)
   have D:=hV (Bh _ _ _ _ wr x3 (L8 _) a (Cel.rd0 b (L8 _)));clear a;go_wp2_with fail
   refine D.out.mono ?_
   rintro e V ⟨rfl,E⟩;go_wp2
   go_ret
   have o:=QE l c l.size;exact⟨rfl,QE o E o.size⟩
def Qi(b:Bool)(v:Nat): Int:=if b then -(v:Int)else v
def neg(z:Int): Bool:=decide (z<0)
def Qx(z:Int): u4:=QK z.natAbs
def Zq(z:Int): Nat:=nd 8 z.natAbs
def JZ(z:Int): Int:=if z<0 then -1 else if z=0 then 0 else 1
theorem KZ(z:Int): Qa (Qx z)=z.natAbs:=En _
theorem Xg(z:Int): Qi (neg z) (Qa (Qx z))=z:=by
 rw[KZ];unfold Qi neg;by_cases h:z<0
 ·rw[Lz h,if_pos rfl];omega
 ·rw[Lh h,if_neg x6];omega
theorem XF(z:Int): (Qx z).size=Zq z:=Eo _
theorem Xv(b:Bool)(v:Nat): (Qi b v).natAbs=v:=by unfold Qi;split<;>omega
theorem ju(b:Bool)(v:Nat): Qi (!b) v=-Qi b v:=by cases b<;>simp[Qi]
theorem MP(b:Bool): Qi b 0=0:=by cases b<;>rfl
theorem jt(b:Bool)(v:Nat): neg (Qi b v)=(b&&!(v==0)):=by
 unfold neg Qi;cases b
 ·simp
 ·by_cases h:v=0
  ·subst h;simp
  ·have:(v==0)=false:=y8 h;rw[this];simp;omega
theorem D1(b:Bool)(v:Nat): Qx (Qi b v)=QK v:=by unfold Qx;rw[Xv]
theorem Ip{v:Nat}: (QK v).toList=[]↔v=0:=by
 rw[Rp];constructor
 ·intro h;have a:=En v;rw[h]at a;exact a.symm
 ·rintro rfl;rfl
theorem uM{x:Int}(h:neg x=neg y)(a:Qx x=Qx y): x=y:=by
 have:=Xg x;rw[h,a,Xg]at this;exact this.symm
theorem P3:Qx 0=⟨#[]⟩:=rfl
theorem D0(z:Int): z.natAbs<256^Zq z:=D6 8 x4 _
theorem G6(h:z.natAbs<256^n): Zq z<=n:=Xd (k:=8) x4 h
theorem GD(b:Bool)(s:u4): Zq (Qi b (Qa s))<=s.size:=G6 (by rw[Xv];exact FQ s)
theorem Fp(z:Int): Zq (-z)=Zq z:=by unfold Zq;rw[Int.natAbs_neg]
theorem Aw{x:Int}(a:Zq x<=n)(b:Zq y<=n): Zq (x+y)<=n+1:=by
 refine G6 ?_
 have c:=Lb (D0 x) (Li x4 a);have d:=Lb (D0 y) (Li x4 b);have e:=Int.natAbs_add_le x y;rw[R9];omega
theorem F2{x:Int}(a:Zq x<=n)(b:Zq y<=n): Zq (x-y)<=n+1:=by
 rw[Int.sub_eq_add_neg];exact Aw a (by rw[Fp];exact b)
theorem ZZ{x:Int}{m:Nat}(a:Zq x<=n)(b:Zq y<=m): Zq (x*y)<=n+m:=by
 refine G6 ?_
 rw[Ty,Lt];exact Um (Lb (D0 x) (Li x4 a)) (Lb (D0 y) (Li x4 b))
theorem KG{x:Int}(h:x.natAbs<=y.natAbs): Zq x<=Zq y:=BM x4 h
theorem F0{x:Int}{k:Nat}(a:Zq x<=n): Zq (x*2^k)<=n+k / 8+1:=by
 refine G6 ?_
 rw[Ty,Int.natAbs_pow,Sc,Lt];refine Um (Lb (D0 x) (Li x4 a)) ?_
 rw[show(256:Nat)=2^8 from rfl,<- Sn];exact Nat.pow_lt_pow_right x4 x3
theorem ep(h:-9223372036854775808<=z)(a:z<=9223372036854775807): Zq z<=8:=by
 refine G6 ?_
 have e:(256:Nat)^8=18446744073709551616:=x4;omega
def KY(f:Nat->Int): Nat->Int|0=>0|k+1=>KY f k+f k
def Kt(f:Nat->Int): Nat->Int|0=>1|k+1=>Kt f k*f k
theorem F3(h:∀j,Zq (f j)<=S): ∀k,Zq (KY f k)<=S+k
 | 0=>L9 (show Zq 0<=0 by decide) (La _)
 | k+1=>Aw (F3 h k) (L9 (h k) (Rg _ _))
theorem Mr(h:∀j,Zq (f j)<=S): ∀k,Zq (Kt f k)<=S*k+1
 | 0=>L9 (show Zq 1<=1 by decide) x3
 | k+1=>by
  have:=ZZ (Mr h k) (h k);rw[Nat.mul_succ];show Zq (Kt f k*f k)<=_;omega
theorem vV: JZ z<0↔z<0:=by unfold JZ;split<;>(try split)<;>omega
theorem sgn_eq: JZ z=0↔z=0:=by unfold JZ;split<;>(try split)<;>omega
theorem vU: 0<JZ z↔0<z:=by unfold JZ;split<;>(try split)<;>omega
theorem vT(z:Int): -1<=JZ z/\JZ z<=1:=by unfold JZ;split<;>(try split)<;>omega
theorem qz(x y:Int): JZ (x*y)=JZ x*JZ y:=by
 rcases Ue x 0 with a|a|a<;>rcases Ue y 0 with b|b|b<;>(try subst a)<;>(try subst b) <;>
  (try simp only[Int.zero_mul,Int.mul_zero,show JZ 0=0 from rfl])
 ·rw[show JZ x=-1 by unfold JZ;rw[if_pos a],show JZ y=-1 by unfold JZ;rw[if_pos b]];have:=Int.mul_pos_of_neg_of_neg a b;unfold JZ;rw[if_neg x3,if_neg x3];rfl
 ·rw[show JZ x=-1 by unfold JZ;rw[if_pos a],show JZ y=1 by unfold JZ;rw[if_neg x3,if_neg x3]];have:=Int.mul_neg_of_neg_of_pos a b;unfold JZ;rw[if_pos x3];rfl
 ·rw[show JZ x=1 by unfold JZ;rw[if_neg x3,if_neg x3],show JZ y=-1 by unfold JZ;rw[if_pos b]];have:=Int.mul_neg_of_pos_of_neg a b;unfold JZ;rw[if_pos x3];rfl
 ·rw[show JZ x=1 by unfold JZ;rw[if_neg x3,if_neg x3],show JZ y=1 by unfold JZ;rw[if_neg x3,if_neg x3]];have:=Int.mul_pos a b;unfold JZ;rw[if_neg x3,if_neg x3];rfl
theorem Mw(a b:Bool)(u v:Nat)(i:0<v):
  (Qi a u / Qi b v=Qi (a != b) (if a=true/\u % v≠0 then u / v+1 else u / v))/\(Qi a u % Qi b v=((if a=true/\u % v≠0 then v-u % v else u % v:Nat):Int)):=by
 have j:=T3 u v;have k:=Ra u i;have key:∀(q r:Int),Qi a u=Qi b v*q+r->0<=r->r<v->Qi a u / Qi b v=q/\Qi a u % Qi b v=r:=by
  intro q r h o p;have c:Qi b v≠0:=by unfold Qi;split<;>omega
  have s:=Int.emod_add_mul_ediv (Qi a u) (Qi b v);have t:=Int.emod_nonneg (Qi a u) c;have w:Qi a u % Qi b v<v:=by
   have:=Int.emod_lt (Qi a u) c;rw[Xv]at this;exact this
  generalize Qi a u / Qi b v=Q at *;generalize Qi a u % Qi b v=R at *;have g:Qi b v*(Q-q)=r-R:=by rw[Int.mul_sub];omega
  have l:Q-q=0:=by
   apply Classical.byContradiction;intro m;have n:(Qi b v*(Q-q)).natAbs=v*(Q-q).natAbs:=by rw[Ty,Xv]
   have x:v*1<=v*(Q-q).natAbs:=R4 _ x3;rw[g]at n;omega
  rw[l,Int.mul_zero]at g;omega
 generalize u / v=q at *;generalize u % v=r at *;have d:(u:Int)=(v:Int)*(q:Int)+(r:Int):=by rw[<- j];simp
 cases a
 ·simp only[Tp,false_and,if_false];cases b
  ·exact key _ _ (by simp[Qi];exact d) x3 x3
  ·exact key _ _ (by simp[Qi,Int.neg_mul,Int.mul_neg];exact d) x3 x3
 ·by_cases f:r=0
  ·simp only[f,ne_eq,not_true,and_false,if_false];subst f;cases b
   ·exact key _ _ (by simp[Qi,Int.mul_neg];omega) x3 x3
   ·exact key _ _ (by simp[Qi,Int.neg_mul];omega) x3 x3
  ·simp only[f,ne_eq,not_false_iff,and_true,if_true];have e:((v-r:Nat):Int)=(v:Int)-r:=x3;cases b
   ·refine key _ _ ?_ x3 x3;rw[e];simp[Qi,Int.mul_add,Int.mul_neg];omega
   ·refine key _ _ ?_ x3 x3;rw[e];simp[Qi,Int.mul_add,Int.neg_mul];omega
theorem ga(a:Bool)(u k:Nat): Qi a u / 2^k=Qi a (u / 2^k)-(if a=true/\u % 2^k≠0 then 1 else 0):=by
 have h:=(Mw a false u (2^k) (Lv k)).1;have e:Qi false (2^k)=2^k:=by simp[Qi]
 rw[e]at h;rw[h];cases a
 ·simp[Qi]
 ·by_cases b:u % 2^k=0
  ·simp[Qi,b]
  ·simp[Qi,b];omega
open Go
def dy(m e:Int): Dyadic:=Dyadic.ofIntWithPrec m (-e)
def dm:Dyadic->Int | .zero=>0 | .ofOdd n _ _=>n
def de:Dyadic->Int | .zero=>0 | .ofOdd _ k _=>-k
theorem JL(m e:Int): (dy m e).toRat=(m:Rat)*2^e:=by
 unfold dy;rw[Dyadic.toRat_ofIntWithPrec_eq_mul_two_pow,Tx]
theorem Hh{y:Dyadic}(h:x.toRat=y.toRat): x=y:=Dyadic.toRat_inj.1 h
theorem JD(e:Int): dy 0 e=0:=by
 unfold dy Dyadic.ofIntWithPrec;rw[dif_pos rfl];rfl
theorem Mz(x:Dyadic): dy (dm x) (de x)=x:=by
 cases x with
 | zero=>exact JD _
 | ofOdd n k a=>show Dyadic.ofIntWithPrec n (- -k)=_;rw[Tx];exact Dyadic.ofOdd_eq_ofIntWithPrec.symm
theorem dm_zero: dm x=0↔x=0:=by
 cases x with
 | zero=>exact⟨λ_=>rfl,λ_=>rfl⟩
 | ofOdd n k a=>exact⟨λh=>by have b:n=0:=h;subst b;simp at a,λh=>by cases h⟩
theorem mJ:(2:Rat)≠0:=x4
theorem TJ(k:Nat): (2:Rat)^(k:Int)=((2^k:Int):Rat):=by
 rw[Rat.zpow_natCast];simp
theorem C1(m e:Int)(k:Nat): dy (m*2^k) e=dy m (e+k):=by
 apply Hh;rw[JL,JL,Rat.zpow_add mJ,TJ,Rat.intCast_mul]
 grind
theorem MA(e:Int)(h:m % 2=1): dm (dy m e)=m/\de (dy m e)=e:=by
 have a:dy m e=Dyadic.ofOdd m (-e) h:=Dyadic.ofOdd_eq_ofIntWithPrec.symm;rw[a];exact⟨rfl,Tx e⟩
theorem az(h:m≠0): ∃o:Int,m=o*2^tz m.natAbs/\o % 2=1:=by
 obtain⟨q,b⟩:=B5 (v:=m.natAbs) x3;generalize tz m.natAbs=t at *;rcases Int.natAbs_eq m with a|a
 ·refine⟨2*q+1,?_,x3⟩;rw[a,b];simp[Int.mul_comm]
 ·refine⟨-(2*q+1),?_,x3⟩;rw[a,b,Int.neg_mul];simp[Int.mul_comm]
theorem bn(e:Int)(h:m≠0): dm (dy m e)=m / 2^tz m.natAbs/\de (dy m e)=e+tz m.natAbs:=by
 obtain⟨o,a,c⟩:=az h;generalize tz m.natAbs=t at *;have d:dy m e=dy o (e+t):=by rw[a];exact C1 o e t
 have b:=MA (e+t) c;rw[d,b.1,b.2];refine⟨?_,rfl⟩;rw[a,Int.mul_ediv_cancel _ (Int.ne_of_gt (Int.pow_pos x4))]
theorem Wg(m n e:Int): dy m e+dy n e=dy (m+n) e:=by
 apply Hh;rw[Dyadic.toRat_add,JL,JL,JL,Rat.intCast_add];grind
theorem iZ(m n e:Int): dy m e-dy n e=dy (m-n) e:=by
 apply Hh;rw[Dyadic.toRat_sub,JL,JL,JL,Rat.intCast_sub];grind
theorem Wh(m e:Int): -dy m e=dy (-m) e:=by
 apply Hh;rw[Dyadic.toRat_neg,JL,JL,Rat.intCast_neg];grind
theorem iY(m n e f:Int): dy m e*dy n f=dy (m*n) (e+f):=by
 apply Hh;rw[Dyadic.toRat_mul,JL,JL,JL,Rat.intCast_mul,Rat.zpow_add mJ];grind
theorem dy_one:dy 1 0=1:=rfl
theorem si{n e:Int}: dy m e<dy n e↔m<n:=by
 rw[<- Dyadic.toRat_lt_toRat_iff,JL,JL,Rat.mul_lt_mul_right (Rat.zpow_pos x4),Rat.intCast_lt_intCast]
def VH(x:Dyadic): Int:=JZ (dm x)
theorem SI(m:Int)(k:Nat): JZ (m*2^k)=JZ m:=by
 have h:JZ ((2:Int)^k)=1:=by
  have:=Int.pow_pos (n:=2) (m:=k) x4;unfold JZ;rw[if_neg x3,if_neg x3]
 rw[qz,h,Int.mul_one]
theorem Fw(m e:Int): VH (dy m e)=JZ m:=by
 unfold VH;by_cases h:m=0
 ·subst h;rw[JD];rfl
 ·obtain⟨o,a,b⟩:=az h;generalize tz m.natAbs=t at *;rw[a,C1,(MA (e+t) b).1,SI]
theorem dsgn_lt: VH x<0↔x<0:=by
 rw[<- Mz x,Fw,vV,<- JD (de x),si]
theorem dsgn_gt: 0<VH x↔0<x:=by
 rw[<- Mz x,Fw,vU,<- JD (de x),si]
theorem dsgn_eq: VH x=0↔x=0:=by
 unfold VH;rw[sgn_eq,dm_zero]
theorem NU(x:Dyadic): -1<=VH x/\VH x<=1:=vT _
def DB(L T:Nat)(x:Dyadic): Prop:=∃k:Int,x=dy k (-(L:Int))/\k.natAbs<2^(L+T)
theorem EO{a T':Nat}(h:DB L T x)(d:L<=a)(e:T<=T'): DB a T' x:=by
 obtain⟨k,rfl,c⟩:=h;refine⟨k*2^(a-L),?_,?_⟩
 ·rw[C1];congr 1;omega
 ·rw[Ty,Int.natAbs_pow];show k.natAbs*2^(a-L)<_;have b:k.natAbs*2^(a-L)<2^(L+T)*2^(a-L):=Rh c (Lv _);rw[<- Lt]at b;exact Lb b (Li x4 x3)
theorem F8(S:Nat){e:Int}(b:m.natAbs<2^S)(c:-(L:Int)<=e)(d:e+S<=T): DB L T (dy m e):=by
 refine⟨m*2^(e+L).toNat,?_,?_⟩
 ·rw[C1];congr 1;omega
 ·rw[Ty,Int.natAbs_pow];show m.natAbs*2^(e+L).toNat<_;have a:m.natAbs*2^(e+L).toNat<2^S*2^(e+L).toNat:=Rh b (Lv _);rw[<- Lt]at a;exact Lb a (Li x4 x3)
theorem AS(L T:Nat): DB L T 0:=⟨0,(JD _).symm,Lv _⟩
theorem iC{y:Dyadic}(a:DB L T x)(b:DB L T y): DB L (T+1) (x+y):=by
 obtain⟨k,rfl,c⟩:=a;obtain⟨j,rfl,d⟩:=b;refine⟨k+j,Wg _ _ _,?_⟩;rw[<- Sc,R9];omega
theorem UW(a:DB L T x): DB L T (-x):=by
 obtain⟨k,rfl,b⟩:=a;exact⟨-k,Wh _ _,by rwa [Int.natAbs_neg]⟩
theorem tU{y:Dyadic}(a:DB L T x)(b:DB L T y): DB L (T+1) (x-y):=by
 obtain⟨k,rfl,c⟩:=a;obtain⟨j,rfl,d⟩:=b;refine⟨k-j,iZ _ _ _,?_⟩;rw[<- Sc,R9];omega
theorem tR{a b:Nat}{y:Dyadic}(c:DB L T x)(d:DB a b y): DB (L+a) (T+b) (x*y):=by
 obtain⟨k,rfl,e⟩:=c;obtain⟨j,rfl,f⟩:=d;refine⟨k*j,?_,?_⟩
 ·rw[iY];congr 1;omega
 ·rw[Ty,show L+a+(T+b)=(L+T)+(a+b)by omega,Lt];rcases So j.natAbs with h|h
  ·rw[h,Nat.mul_zero];exact Ut (Lv _) (Lv _)
  ·exact Lb (Rh e h) (R4 _ (Sf f))
theorem V4(b:DB L T x): -(L:Int)<=de x/\de x<=T/\(dm x).natAbs<2^(L+T):=by
 obtain⟨k,rfl,a⟩:=b;by_cases h:k=0
 ·subst h;rw[JD];exact⟨by show -(L:Int)<=0;omega,by show(0:Int)<=T;omega,Lv _⟩
 ·obtain⟨c,d⟩:=bn (-(L:Int)) h;obtain⟨o,e,i⟩:=az h;rw[c,d];generalize tz k.natAbs=t at *;have f:k.natAbs=o.natAbs*2^t:=by rw[e,Ty,Int.natAbs_pow];rfl
  have g:2^t<=k.natAbs:=by rw[f];exact Nat.le_mul_of_pos_left _ x3
  have j:t<L+T:=(U0 (by decide:1<2)).1 (Lw g a);exact⟨x3,x3,Lw (Tu _ _) a⟩
theorem Ft(a:DB L T x): (Qx (dm x)).size<=(L+T) / 8+1:=by
 rw[XF];refine G6 (Lb (V4 a).2.2 ?_);rw[show 256=2^8 from rfl,<- Sn];exact Li x4 x3
