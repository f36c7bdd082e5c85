/- Laws beneath the statement. -/
import Derived.Test.YtemkmhpfjefbmaaGreatDoorLP2
import Derived.BigQuiet
import Derived.Test.YtemkmhpfjefbmaaGreatDoorLP3
namespace Go.Proofs.YtemkmhpfjefbmaaGreatDoor
set_option linter.defProp false
open Tryz
set_option maxHeartbeats 4000000
set_option maxRecDepth 100000
open Go.RowKit
section
def WZ{k:IntKind}{a b:Int}(h:a=b):Ending.returned (.int k a)=.returned (.int k b):=by rw[h]
def Pw(A J:Option Addr)(n l c N u v:Nat)(w:World)(hn:n<=4294967296)(Z:l<=4294967296)(O:n<=c)(z:l<=N)(hu:u<LB^n)(r:v<LB^l)(K:Rd w A n λj=>.int .u64 (QG LB u j:Nat))(o:Rd w J l λj=>.int .u64 (QG LB v j:Nat)):
    Calls prog 215 #[.slice A n c,.slice J l N] w λe s=>e=.returned (.int .i64 (Xe u v))/\∃k,s=w.drewN k:=by
  have V:nd 64 u<=n:=Xf x4 hu;have P:nd 64 v<=l:=Xf x4 r;have HU:=x0f hu;have HV:=x0f r;have C:=x0f (λW (h:Rd W A n λj=>.int .u64 (QG LB u j:Nat))=>XV A n c u W x3 O hu h);have L:=x0f (λW (h:Rd W J l λj=>.int .u64 (QG LB v j:Nat))=>XV J l N v W x3 z r h);clear hu r;by_cases f:nd 64 u=nd 64 v
  · have D:(((nd 64 u:Nat):Int) != ((nd 64 v:Nat):Int))=false:=by rw[f];simp
    have X:=x0f f;have Q:nd 64 u<=l:=x3;obtain⟨g,t⟩:∃g,g=nd 64 v:=⟨_,rfl⟩
    rw[f]at C D;rw[f]at V;rw[<- t]at C L D V P;have M:=x0f t;clear f t Q;go_enter func215,ntmps215
    go_wp2_with fail
    refine(C.out _ K).mono ?_
    rintro e s ⟨rfl,rfl⟩;go_wp2_with fail
    refine(L.out _ o).mono ?_
    rintro e s ⟨rfl,rfl⟩;go_wp2
    go_loopw [5] (λi wr=>∃k:Nat,k<=g/\i=.int .i64 ((k:Int)-1)/\Hid (∀j,k<=j->j<g->QG LB u j=QG LB v j)/\∃m,wr=w.drewN m) (λi _=>(intOf i+1).toNat)
    case atStart=>exact⟨g,L4 _,rfl,λj E x=>x3,0,rfl⟩
    case round =>
      obtain⟨k,R,rfl,y,m,rfl⟩:=hrel;rcases k with _|p
      · have d:=x0f (show Xe u v=0 by
          have e:u=v:=by
            refine AH (B:=LB) (n:=g) ?_ ?_ (λj hj=>y.out j (L7 _) hj)
            · rw[M.out,<- X.out];exact YV u
            · rw[M.out];exact YV v
          subst e;unfold Xe;simp)
        have e0:((0:Nat):Int)-1=-1:=rfl;rw[e0];go_wp2
        go_ret
        exact⟨by rw[d.out];rfl,m,rfl⟩
      · have e0:((p+1:Nat):Int)-1=(p:Int):=x3
        rw[e0];clear e0;obtain⟨b,off,rfl,F⟩:=K x3;obtain⟨b',G,rfl,H⟩:=o x3;have g1:w.cell? ⟨b,off+p,none⟩=some (.int .u64 (QG LB u p:Nat)):=F p x3;have g2:w.cell? ⟨b',G+p,none⟩=some (.int .u64 (QG LB v p:Nat)):=H p x3;clear F H;have q:∀a b:Nat,a<LB^g->b<LB^g->(∀j,p+1<=j->j<g->QG LB a j=QG LB b j)->QG LB a p<QG LB b p->a<b:=λa b ha D y hd =>
          j9 QF ha D R (λj E x=>y j E x) hd
        have hu:u<LB^g:=by rw[M.out,<- X.out];exact YV u
        have r:v<LB^g:=by rw[M.out];exact YV v
        have Y:=x0f (show(QG LB u p<QG LB v p->Xe u v=-1)/\(QG LB v p<QG LB u p->Xe u v=1)from
          ⟨λh=>by have:=q u v hu r y.out h;unfold Xe;rw[if_pos this],
           λh=>by have:=q v u r hu (λj E x=>(y.out j E x).symm) h;unfold Xe;rw[if_neg x3,if_neg x3]⟩)
        clear q hu r;rcases Nat.lt_trichotomy (QG LB u p) (QG LB v p)with hd|hd|hd
        · have I:((QG LB u p:Nat):Int)<((QG LB v p:Nat):Int):=x3
          have d:=x0f (Y.out.1 hd);clear hd;go_wp2
          go_quiet (fail)
          go_wp2
          go_ret
          exact⟨by rw[d.out];rfl,by simp only[World.drewN_drewN];exact⟨_,rfl⟩⟩
        · have I:¬((QG LB u p:Nat):Int)<((QG LB v p:Nat):Int):=x3
          have S:¬((QG LB v p:Nat):Int)<((QG LB u p:Nat):Int):=x3;have HD:=x0f hd;clear hd;go_wp2
          go_quiet (fail)
          go_wp2
          go_quiet (fail)
          go_wp2
          refine⟨⟨p,x3,rfl,λj E x=>?_,_,rfl⟩,by simp[intOf]⟩;by_cases e:j=p
          · subst e;exact HD.out
          · exact y.out j x3 x
        · have I:¬((QG LB u p:Nat):Int)<((QG LB v p:Nat):Int):=x3
          have S:((QG LB v p:Nat):Int)<((QG LB u p:Nat):Int):=x3;have d:=x0f (Y.out.2 hd);clear hd;go_wp2
          go_quiet (fail)
          go_wp2
          go_quiet (fail)
          go_wp2
          go_ret
          exact⟨by rw[d.out];rfl,by simp only[World.drewN_drewN];exact⟨_,rfl⟩⟩
  · have D:(((nd 64 u:Nat):Int) != ((nd 64 v:Nat):Int))=true:=by rw[bne_iff_ne];omega
    have T:(((nd 64 u:Nat):Int)==((nd 64 v:Nat):Int))=false:=Lp.2 x3;clear f;by_cases U:nd 64 u<nd 64 v
    · have d:=x0f (show Xe u v=-1 by unfold Xe;rw[if_pos (Hf 64 _ _ x4 U)])
      go_enter func215,ntmps215
      go_wp2_with fail
      refine(C.out _ K).mono ?_
      rintro e s ⟨rfl,rfl⟩;go_wp2_with fail
      refine(L.out _ o).mono ?_
      rintro e s ⟨rfl,rfl⟩;go_wp2
      go_ret
      exact⟨by rw[d.out];rfl,0,rfl⟩
    · have q:¬((nd 64 u:Nat):Int)<((nd 64 v:Nat):Int):=x3
      have d:=x0f (show Xe u v=1 by
        have:=Hf 64 v u x4 (by have:=of_decide_eq_true (p:=True) rfl;have h3:=Lp.1 T;omega);unfold Xe;rw[if_neg x3,if_neg x3])
      go_enter func215,ntmps215
      go_wp2_with fail
      refine(C.out _ K).mono ?_
      rintro e s ⟨rfl,rfl⟩;go_wp2_with fail
      refine(L.out _ o).mono ?_
      rintro e s ⟨rfl,rfl⟩;go_wp2
      go_ret
      exact⟨by rw[d.out];rfl,0,rfl⟩
def gn(A:Option Addr)(n c v:Nat)(w:World)(B:n<=4294967296)(l:n<=c)(m:v<LB^n)(o:Rd w A n λj=>.int .u64 (QG LB v j:Nat)):
  Calls prog 258 #[.slice A n c] w λe f=>e=.returned (.int .i64 (nd 1 v:Nat))/\w=f:=by
 have t:nd 64 v<=n:=Xf x4 m;have g:=x0f (XV A n c v w x3 l m o);by_cases i:v=0
 ·subst i;rw[EF]at g;go_enter func258,ntmps258
  go_wp2_with fail
  refine g.out.mono ?_
  rintro e f ⟨rfl,rfl⟩;go_wp2
  go_ret
  exact⟨rfl,rfl⟩
 ·have u:=GV 64 i;have a:=gA i;obtain⟨b,off,rfl,r⟩:=o x3;obtain⟨q,p⟩:∃q,nd 64 v=q+1:=⟨nd 64 v-1,x3⟩
  rw[p,Uj]at a;rw[p]at g t;have d:QG LB v q<18446744073709551616:=YO QF v q;have C:w.cell? ⟨b,off+q,none⟩=some (.int .u64 (QG LB v q:Nat)):=r q x3;have x:=x0f (Tryz.bits_LeadingZeros64 (QG LB v q:Nat) w x3 x3);have s:Lib.bitLen ((QG LB v q:Nat):Int).toNat=nd 1 (QG LB v q):=by rw[Sm,Fb _ d]
  have D:nd 1 (QG LB v q)<=64:=Xf x4 (l3 d);have y:=x0f s;have z:=x0f a;clear r o m p u s a i d;go_enter func258,ntmps258
  go_wp2_with fail
  refine g.out.mono ?_
  rintro e f ⟨rfl,rfl⟩;go_wp2_with fail
  refine x.out.mono ?_
  rintro e f ⟨rfl,rfl⟩;rw[y.out];go_wp2
  go_ret
  exact⟨WZ (by rw[z.out];omega),rfl⟩
def Aq(A:Option Addr)(n c v:Nat)(w:World)(hn:n<=4294967296)(y:n<=c)(z:v<LB^n)(K:Rd w A n λj=>.int .u64 (QG LB v j:Nat)):
  xP prog 216 #[.slice A n c] w (.string (QL v)):=by
 have L:nd 64 v<=n:=Xf x4 z;have a:=YV v;have M:=x0f (XV A n c v w x3 y z K);have g:=K.of_le L;obtain⟨p,l⟩:∃k,k=nd 64 v:=⟨_,rfl⟩
 have C:=oG v;rw[<- l]at M g a L;have W:=x0f (gn A p c v w x3 x3 a g);have X:nd 8 v<=8*p:=Xf x4 (by rw[X9];rw[Yk,X9]at a;rwa [show 8*(8*p)=64*p by omega]);obtain⟨N,D⟩:∃N,N=nd 8 v:=⟨_,rfl⟩
 rw[<- D]at C X;have O:=x0f (show(((nd 1 v:Nat):Int)+7) / 8=(N:Int)by omega);have Y:=x0f C;have Q:(((nd 1 v:Nat):Int)+7) / 8<=(N:Int):=x3;have R:(N:Int)<=(((nd 1 v:Nat):Int)+7) / 8:=x3;have hl:nd 1 v<=64*p:=Xf x4 (by rw[Tu];rwa [Yk,X9]at a);have E:1*N<=281474976710656:=x3;have F:N<=9223372036854775807:=x3;have Z:=x0f D;have HK:=x0f l;clear l D C z a;go_enter func216,ntmps216
 go_wp2_with fail
 refine M.out.mono ?_
 rintro e B ⟨rfl,rfl⟩;go_wp2_with fail
 refine W.out.mono ?_
 rintro e B ⟨rfl,rfl⟩;go_wp2_with (at_make;refine Yt rfl (.tmp 12) (.tmp 12) _ rfl 5 (.int .u8 0) 1 Ho uh rfl .i64 .i64 _ _ N rfl rfl O.out O.out E F ?_;intro w1 hC hB s)
 go_loopw [15] (λi wr=>∃k:Nat,k<=N/\i=.int .i64 k/\Below w.heap.size w wr/\Cel wr w.heap.size 5 N (λj=>.int .u8 ((if N<=j+k then QG 256 v (N-1-j)else 0:Nat):Int))) (λi _=>N-(intOf i).toNat)
 case atStart=>exact⟨0,L7 _,rfl,hB,hC.congr λj S=>by rw[if_neg x3];rfl⟩
 case round =>
  obtain⟨k,ad,rfl,m,f⟩:=hrel;by_cases s:k<N
  ·obtain⟨q,T⟩:∃q,q=k / 8:=⟨_,rfl⟩
   obtain⟨r,t⟩:∃r,r=k % 8:=⟨_,rfl⟩
   have G:q<p:=x3;obtain⟨b,off,rfl,U⟩:=g x3;have g1:wr.cell? ⟨b,off+q,none⟩=some (.int .u64 (QG LB v q:Nat)):=Lj m (U q G);obtain⟨d,hd⟩:∃d,N=k+d+1:=⟨N-k-1,x3⟩
   have ag:d<N:=x3;have V:(nd 1 v+7) / 8-1-k=d:=x8 Y.out;have g2:=f.cell (i:=(nd 1 v+7) / 8-1-k) x3;have g3:=f.frozen ((nd 1 v+7) / 8-1-k);have H:=x0f V;clear V;have I:(k:Int) / 8=(q:Int):=x3;have e3:(k:Int) % 8=(r:Int):=x3;have e4:((QG LB v q:Nat):Int) / 2^(r*8) % 256=((QG 256 v k:Nat):Int):=by
    rw[<- UP v k,<- T,<- t,show(2:Int)^(r*8)=((2^(r*8):Nat):Int)by simp];rfl
   have ao:r<8:=x3;have HQ:=x0f (show k=8*q+r by omega);have HD:=x0f hd;clear T t hd U;go_wp2
   rw[H.out];refine⟨⟨k+1,s,by go_num,m.setCell (L4 _) _,(f.set_ d _).congr λj S=>?_⟩,by simp[intOf];omega⟩;have:=HD.out;by_cases e:j=d
   ·subst e;simp only[if_true];rw[if_pos x3,show N-1-j=k by omega]
   ·simp only[if_neg e];by_cases I:N<=j+k
    ·rw[if_pos I,if_pos x3]
    ·rw[if_neg I,if_neg x3]
  ·obtain rfl:k=N:=x3;have u:=(f.rd (o:=0) (n:=k) x3).congr (f':=λj=>.int .u8 ((QG 256 v (k-1-j):Nat):Int)) (λj S=>by simp only[Lm];rw[if_pos x3]);have J:=EQ (P:=prog) 81 9 5 Ho Tryz.underlying5 Tryz.underlying9 (some ⟨w.heap.size,0,none⟩) k k (λj=>QG 256 v (k-1-j)) u;have x:(⟨((List.range k).map λj=>UInt8.ofNat (QG 256 v (k-1-j))).toArray⟩:ByteArray)=QL v:=by unfold QL VX;rw[<- Z.out]
   rw[x]at J;clear x u f;go_wp2
   go_ret
   exact⟨rfl,m⟩
def Q7(v j:Nat):y9:=.int .u64 (QG LB v j:Nat)
def NY(x y k:Nat)(w:xH):(callFunc 291 #[.int .u64 (QG LB x k:Nat),.int .u64 (QG LB y k:Nat),.int .u64 (KL LB x y k:Nat)]).run prog w =
  .ok (.value (.tuple #[.int .u64 (QG LB (x+y) k:Nat),.int .u64 (KL LB x y (k+1):Nat)])) w:=by
 rw[Tryz.bits_Add64 _ _ _ (UB QF x y k) w,fH QF x y k,bC QF x y k];rfl
def O3(x y k:Nat)(h:y<=x)(w:xH):(callFunc 292 #[.int .u64 (QG LB x k:Nat),.int .u64 (QG LB y k:Nat),.int .u64 (Jr LB x y k:Nat)]).run prog w =
  .ok (.value (.tuple #[.int .u64 (QG LB (x-y) k:Nat),.int .u64 (Jr LB x y (k+1):Nat)])) w:=by
 rw[Tryz.bits_Sub64 _ _ _ (jj LB x y k) w,tE QF h k,TN QF x y k];rfl
def IJ(a b:Nat)(w:xH):(callFunc 291 #[.int .u64 (a:Nat),.int .u64 (b:Nat),.int .u64 0]).run prog w =
 .ok (.value (.tuple #[.int .u64 ((a+b) % 18446744073709551616:Nat),.int .u64 ((a+b) / 18446744073709551616:Nat)])) w:=Tryz.bits_Add64 a b 0 x3 w
def IY(x y k:Nat)(a:QG LB y k=0)(w:xH):(callFunc 291 #[.int .u64 (QG LB x k:Nat),.int .u64 0,.int .u64 (KL LB x y k:Nat)]).run prog w =
  .ok (.value (.tuple #[.int .u64 (QG LB (x+y) k:Nat),.int .u64 (KL LB x y (k+1):Nat)])) w:=by
 have:=NY x y k w
 grind
def eu(x y k:Nat)(h:y<=x)(a:QG LB y k=0)(w:xH):(callFunc 292 #[.int .u64 (QG LB x k:Nat),.int .u64 0,.int .u64 (Jr LB x y k:Nat)]).run prog w =
  .ok (.value (.tuple #[.int .u64 (QG LB (x-y) k:Nat),.int .u64 (Jr LB x y (k+1):Nat)])) w:=by
 have:=O3 x y k h w
 grind
def sK(g o n c T m z x y:Nat)(s:Option Addr)(f:Nat->Value)(w:World)(H:n<=4294967296)(I:o+n<=T)(A:Cel w g 179 T (CT o n (Q7 x) f))(B:m<=4294967296)(hy:y<LB^m)(C:Rd w s m (Q7 y))(D:Off s g):
  Calls prog 300 #[.slice (some ⟨g,o,none⟩) n c,.slice s m z] w λe u=>e=.returned (.tuple #[])/\w.grownBy u (some g)/\Cel u g 179 T (CT o n (Q7 (x+y)) f):=by
 go_enter func300,ntmps300
 go_wp2
 go_loopw [4,9] (λE i wr=>∃k:Nat,k<=n/\i=.int .i64 k/\E=.int .u64 (KL LB x y k:Nat)/\w.grownBy wr (some g)/\Cel wr g 179 T (CT o n (λj=>if j<k then Q7 (x+y) j else Q7 x j) f))
  (λ_ i _=>n-(intOf i).toNat)
 case atStart=>exact⟨0,L7 _,rfl,by rw[bD];rfl,World.grownBy.refl _ _,A.congr λj _=>GD (λi _=>by rw[if_neg x3]) j⟩
 case round =>
  obtain⟨k,J,rfl,rfl,r,a⟩:=hrel;by_cases d:k<n
  ·have K:wr.cell? ⟨g,o+k,none⟩=some (.int .u64 (QG LB x k:Nat)):=by rw[a.cell x3,FI d,if_neg x3];rfl
   have L:=a.frozen (o+k);have l:=NY x y k;have t:=C.grown r D;by_cases p:k<m
   ·obtain⟨b,off,rfl,v⟩:=t x3;have M:wr.cell? ⟨b,off+k,none⟩=some (.int .u64 (QG LB y k:Nat)):=v k p;clear v;go_wp2
    exact⟨⟨k+1,d,by go_num,rfl,Zj r (Or.inl rfl) _,(a.set_ (o+k) _).congr λj _=>AW d (by simp only[Sh,if_true];rfl) (λj F G=>by
     by_cases q:j<k
     ·rw[if_pos q,if_pos x3]
     ·rw[if_neg q,if_neg x3]) j⟩,by simp[intOf];omega⟩
   ·have hd:QG LB y k=0:=ZH QF hy x3;clear l;have l:=IY x y k hd;clear hd;go_wp2
    exact⟨⟨k+1,d,by go_num,rfl,Zj r (Or.inl rfl) _,(a.set_ (o+k) _).congr λj _=>AW d (by simp only[Sh,if_true];rfl) (λj F G=>by
     by_cases q:j<k
     ·rw[if_pos q,if_pos x3]
     ·rw[if_neg q,if_neg x3]) j⟩,by simp[intOf];omega⟩
  ·obtain rfl:k=n:=x3;go_wp2
   go_end0
   exact⟨rfl,r,a.congr λj _=>GD (λi hi=>by rw[if_pos hi]) j⟩
def aC(g o n c T p C x y:Nat)(u:Option Addr)(f:Nat->Value)(w:World)(K:n<=4294967296)(L:o+n<=T)(D:Cel w g 179 T (CT o n (Q7 x) f))(E:p<=4294967296)(hy:y<LB^p)(l:y<=x)(v:x<LB^n)(F:Rd w u p (Q7 y))(G:Off u g):
  Calls prog 266 #[.slice (some ⟨g,o,none⟩) n c,.slice u p C] w λe A=>e=.returned (.bool true)/\w.grownBy A (some g)/\Cel A g 179 T (CT o n (Q7 (x-y)) f):=by
 go_enter func266,ntmps266
 go_wp2
 go_loopw [5,10] (λH i wr=>∃k:Nat,k<=n/\i=.int .i64 k/\H=.int .u64 (Jr LB x y k:Nat)/\w.grownBy wr (some g)/\Cel wr g 179 T (CT o n (λj=>if j<k then Q7 (x-y) j else Q7 x j) f))
  (λ_ i _=>n-(intOf i).toNat)
 case atStart=>exact⟨0,L7 _,rfl,by rw[TO];rfl,World.grownBy.refl _ _,D.congr λj _=>GD (λi _=>by rw[if_neg x3]) j⟩
 case round =>
  obtain⟨k,M,rfl,rfl,t,a⟩:=hrel;by_cases d:k<n
  ·have N:wr.cell? ⟨g,o+k,none⟩=some (.int .u64 (QG LB x k:Nat)):=by rw[a.cell x3,FI d,if_neg x3];rfl
   have O:=a.frozen (o+k);have m:=O3 x y k l;have z:=F.grown t G;by_cases q:k<p
   ·obtain⟨b,off,rfl,B⟩:=z x3;have P:wr.cell? ⟨b,off+k,none⟩=some (.int .u64 (QG LB y k:Nat)):=B k q;clear B;go_wp2
    exact⟨⟨k+1,d,by go_num,rfl,Zj t (Or.inl rfl) _,(a.set_ (o+k) _).congr λj _=>AW d (by simp only[Sh,if_true];rfl) (λj I J=>by
     by_cases r:j<k
     ·rw[if_pos r,if_pos x3]
     ·rw[if_neg r,if_neg x3]) j⟩,by simp[intOf];omega⟩
   ·have hd:QG LB y k=0:=ZH QF hy x3;clear m;have m:=eu x y k l hd;clear hd;go_wp2
    exact⟨⟨k+1,d,by go_num,rfl,Zj t (Or.inl rfl) _,(a.set_ (o+k) _).congr λj _=>AW d (by simp only[Sh,if_true];rfl) (λj I J=>by
     by_cases r:j<k
     ·rw[if_pos r,if_pos x3]
     ·rw[if_neg r,if_neg x3]) j⟩,by simp[intOf];omega⟩
  ·obtain rfl:k=n:=x3;have s:Jr LB x y k=0:=by unfold Jr;rw[Rc v,Rc (Lw l v),if_neg x3]
   rw[s];clear s v hy l;go_wp2
   go_ret
   exact⟨rfl,t,a.congr λj _=>GD (λi hi=>by rw[if_pos hi]) j⟩
def kb{d m:Nat}(a:d<LB)(b:m<LB):d*m<=340282366920938463426481119284349108225:=by
 have:=Nat.mul_le_mul (Nat.le_pred_of_lt a) (Nat.le_pred_of_lt b);exact this
variable{a:Nat}
theorem ks{d m b:Nat}(c:d<LB)(e:m<LB)(f:a<LB)(_hx:b<LB):
  d*m / 18446744073709551616+(d*m % 18446744073709551616+a) / 18446744073709551616<LB /\
  (b+(d*m % 18446744073709551616+a) % 18446744073709551616) % 18446744073709551616=(b+d*m+a) % LB /\
  d*m / 18446744073709551616+(d*m % 18446744073709551616+a) / 18446744073709551616+(b+(d*m % 18446744073709551616+a) % 18446744073709551616) / 18446744073709551616=(b+d*m+a) / LB:=by
 have h:=kb c e
 grind[Jo]
def MT(g o n c T s P x y m:Nat)(E:Option Addr)(f:Nat->Value)(w:World)(hn:n<=4294967296)(hT:o+n<=T)(Q:Cel w g 179 T (CT o n (Q7 x) f))(R:s<=4294967296)(M:m<LB)(hy:y<LB^s)(S:Rd w E s (Q7 y))(U:Off E g):
  Calls prog 264 #[.slice (some ⟨g,o,none⟩) n c,.slice E s P,.int .u64 m] w λe r=>e=.returned (.tuple #[])/\w.grownBy r (some g)/\Cel r g 179 T (CT o n (Q7 (x+y*m)) f):=by
 have C:=x0f M;clear M;go_enter func264,ntmps264
 go_wp2
 go_loopw [6,14] (λV i wr=>∃k:Nat,k<=n/\i=.int .i64 k/\V=.int .u64 (Jw LB x y m k:Nat)/\w.grownBy wr (some g)/\Cel wr g 179 T (CT o n (λj=>if j<k then Q7 (x+y*m) j else Q7 x j) f))
  (λ_ i _=>n-(intOf i).toNat)
 case atStart=>exact⟨0,L7 _,rfl,by rw[Wv];rfl,World.grownBy.refl _ _,Q.congr λj _=>GD (λi _=>by rw[if_neg x3]) j⟩
 case round =>
  obtain⟨k,hk,rfl,rfl,D,a⟩:=hrel;by_cases l:k<n
  ·have g1:wr.cell? ⟨g,o+k,none⟩=some (.int .u64 (QG LB x k:Nat)):=by rw[a.cell x3,FI l,if_neg x3];rfl
   have g2:=a.frozen (o+k);have F:=S.grown D U;obtain⟨d,hd⟩:∃d,d=QG LB y k:=⟨_,rfl⟩
   have p:d<LB:=by rw[hd];exact YO QF _ _
   let⟨s1,G,t⟩:=ks p C.out (OI QF C.out x y k) (YO QF x k);have H:=bR QF x y m k;have I:=Wu QF x y m k;rw[<- hd]at H I;rw[<- H]at G;rw[<- I]at t;have N:=Tryz.bits_Mul64 d m p C.out wr;have ca:=IJ (d*m % 18446744073709551616) (Jw LB x y m k) wr;have W:=IJ (QG LB x k) ((d*m % 18446744073709551616+Jw LB x y m k) % 18446744073709551616) wr;rw[G]at W;generalize (d*m % 18446744073709551616+Jw LB x y m k) % 18446744073709551616=J at *;generalize (d*m % 18446744073709551616+Jw LB x y m k) / 18446744073709551616=K at *;generalize (QG LB x k+J) / 18446744073709551616=X at *;generalize d*m % 18446744073709551616=Y at *;generalize d*m / 18446744073709551616=hi at *;have Z:IntKind.u64.wrap ((hi:Int)+(K:Int))=((hi+K:Nat):Int):=by rw[b7];rw[Jo]at s1;omega
   have q:=OI QF C.out x y (k+1);obtain⟨u,v⟩:∃u,u=hi+K:=⟨_,rfl⟩
   rw[<- v]at Z t;have w2:IntKind.u64.wrap ((u:Int)+(X:Int))=((Jw LB x y m (k+1):Nat):Int):=by rw[b7,<- t];rw[<- t,Jo]at q;omega
   have z:=x0f N;clear s1 G t H I q v N;by_cases A:k<s
   ·obtain⟨b,off,rfl,O⟩:=F x3;have g3:wr.cell? ⟨b,off+k,none⟩=some (.int .u64 (d:Nat)):=by rw[hd];exact O k A
    clear O hd p;go_wp2_with (go_at_call 268;refine z.out.mono ?_;rintro e r ⟨rfl,rfl⟩)
    exact⟨⟨k+1,l,by go_num,rfl,Zj D (Or.inl rfl) _,(a.set_ (o+k) _).congr λj _=>AW l (by simp only[Sh,if_true];rfl) (λj h1 u=>by
     by_cases q:j<k
     ·rw[if_pos q,if_pos x3]
     ·rw[if_neg q,if_neg x3]) j⟩,by simp[intOf];omega⟩
   ·have L:d=0:=by rw[hd];exact ZH QF hy x3
    clear hd p;subst L;have B:Hid (Calls prog 268 #[.int .u64 0,.int .u64 m] wr λe r=>e=.returned (.tuple #[.int .u64 hi,.int .u64 Y])/\r=wr):=z;clear z;have z:=B;clear B;go_wp2_with (go_at_call 268;refine z.out.mono ?_;rintro e r ⟨rfl,rfl⟩)
    exact⟨⟨k+1,l,by go_num,rfl,Zj D (Or.inl rfl) _,(a.set_ (o+k) _).congr λj _=>AW l (by simp only[Sh,if_true];rfl) (λj h1 u=>by
     by_cases q:j<k
     ·rw[if_pos q,if_pos x3]
     ·rw[if_neg q,if_neg x3]) j⟩,by simp[intOf];omega⟩
  ·obtain rfl:k=n:=x3;go_wp2
   go_end0
   exact⟨rfl,D,a.congr λj _=>GD (λi hi=>by rw[if_pos hi]) j⟩
def eN(A:Option Addr)(n c v a:Nat)(w:World)(hn:n<=4294967296)(aB:n<=c)(bc:a<=68719476736)(hv:v<LB^n)(hr:Rd w A n (Q7 v)):
  Calls prog 218 #[.slice A n c,.int .i64 (a:Nat)] w λe T=>∃g N,e=.returned (.slice (some ⟨g,0,none⟩) (nd 64 (v*2^a)) N)/\w.heap.size<=g/\Below w.heap.size w T /\
   Cel T g 179 N (Q7 (v*2^a))/\N=n+a / 64+1:=by
 obtain⟨q,hq⟩:∃q,q=a / 64:=⟨_,rfl⟩
 obtain⟨s,hs⟩:∃s,s=a % 64:=⟨_,rfl⟩
 have E:a=64*q+s:=x3;have e1:(a:Int) / 64=(q:Int):=x3;have e2:(a:Int) % 64=(s:Int):=x3;have e3:(a:Int).tmod 64=(s:Int):=by rw[L3 x3];exact e2
 have F:s<64:=x3;have bd:q<=1073741824:=x3;rw[<- hq];have U:=x0f E;have HV:=x0f hv;have V:8*(n+q+1)<=281474976710656:=x3;have G:n+q+1<=9223372036854775807:=x3;clear hq hs E hv;go_enter func218,ntmps218
 go_wp2_with (at_make;refine Yt rfl (.tmp 14) (.tmp 14) _ rfl 179 (.int .u64 0) 8 ZU GS rfl .i64 .i64 _ _ (n+q+1) rfl rfl rfl rfl V G ?_;intro w1 hC hB m)
 go_loopw [18] (λi wr=>∃k:Nat,k<=n/\i=.int .i64 k/\Below w.heap.size w wr/\Cel wr w.heap.size 179 (n+q+1) (Q7 (v % LB^k*2^a))) (λi _=>n-(intOf i).toNat)
 case atStart=>exact⟨0,L7 _,rfl,hB,hC.congr λj hj=>by unfold Q7;rw[Tx,V0,Ue,Vx];rfl⟩
 case round =>
  obtain⟨k,hk,rfl,r,f⟩:=hrel;by_cases m:k<n
  ·obtain⟨b,off,rfl,hc⟩:=hr x3;have g1:wr.cell? ⟨b,off+k,none⟩=some (.int .u64 (QG LB v k:Nat)):=Lj r (hc k m);have g2:wr.cell? ⟨w.heap.size,k+q,none⟩=some (.int .u64 (QG LB (v % LB^k*2^a) (k+q):Nat)):=f.cell (i:=k+q) x3;have g3:=f.frozen (k+q);clear hc;have hd:QG LB v k<LB:=YO QF v k;have W:v % LB^k*2^a<LB^(k+q)*2^s:=by
    have H:=Re v (Nat.pow_pos (n:=k) QF);rw[U.out,Lz 2,Lz LB,Yk,X9 64 q,<- R9];exact Rt (Rt H (R6 _)) (R6 s)
   have t:=zD W hd F;have I:v % LB^k*2^a+LB^(k+q)*(2^s*QG LB v k)=v % LB^(k+1)*2^a:=by
    rw[J8,U.out,Lz 2,Lz LB,Yk,X9 64 q,S8];congr 1;simp only[R9,Nat.mul_left_comm,Ls]
   rw[I]at t;have X:=RH (QG LB (v % LB^k*2^a) (k+q)) (QG LB v k*2^s % LB) (YO QF _ _) (Re _ QF);have J:=ES (QG LB v k) s;have hz:QG LB (v % LB^k*2^a) (k+q+1)=0:=by
    refine ZH (n:=k+q+1) QF ?_ (L4 _)
    rw[R8];exact L9 W (Rb _ (by rw[Yk];exact Lh x4 x3))
   have Y:=x0f t;have HZ:=x0f hz;obtain⟨d,u⟩:∃d,d=QG LB v k:=⟨_,rfl⟩
   rw[<- u]at g1 X J;obtain⟨Z,x⟩:∃Z,Z=d*2^s % LB:=⟨_,rfl⟩
   rw[<- x]at X J;have K:(QG LB (v % LB^k*2^a) (k+q) ||| Z)=QG LB (v % LB^(k+1)*2^a) (k+q):=by rw[t,if_pos rfl,<- u,x]
   rw[K]at X;have bi:IntKind.i64.wrap (s:Int)=(s:Int):=Le _ x3;have bk:IntKind.i64.wrap (64-(s:Int))=64-(s:Int):=Le _ x3;have bl:IntKind.i64.wrap ((k:Int)+(q:Int)+1)=(k:Int)+(q:Int)+1:=Le _ x3;have b1:(0:Int)<=(k:Int)+(q:Int):=x3;have b2:(k:Int)+(q:Int)<(n:Int)+(q:Int)+1:=x3;have b3:((k:Int)+(q:Int)).toNat=k+q:=x3;have b4:(0:Int)<=(k:Int)+(q:Int)+1:=x3;have b5:(k:Int)+(q:Int)+1<(n:Int)+(q:Int)+1:=x3;have b6:((k:Int)+(q:Int)+1).toNat=k+q+1:=x3;have HD:=x0f u;have HL:=x0f x;clear t hz u x K I W hd;go_wp2
   go_still_tail 10,x5
   change wpList _ _ _ _ _ wr.drew;have L:=r.drew;have l:=f.drew;have g4:wr.drew.cell? ⟨w.heap.size,k+q,none⟩=some (.int .u64 (QG LB (v % LB^k*2^a) (k+q):Nat)):=l.cell (i:=k+q) x3;have g5:=l.frozen (k+q);clear r f g1 g2 g3;generalize wr.drew=w2 at *;by_cases bm:0<s
   ·have ad:(d:Int) / 2^(64-s)=((d / 2^(64-s):Nat):Int):=aj d (64-s);have bn:(64-(s:Int)).toNat=64-s:=x3;have M:bits .or .u64 0 ((d / 2^(64-s):Nat):Int)=((d / 2^(64-s):Nat):Int):=by
     have z:d<LB:=by rw[HD.out];exact YO QF v k
     have:=RH 0 (d / 2^(64-s)) QF (Lw (Rn _ _) z);rw[Nat.zero_or]at this;exact this
    obtain⟨hi,B⟩:∃hi,hi=d / 2^(64-s):=⟨_,rfl⟩
    rw[<- B]at ad M;have HH:=x0f B;clear B;have O:=l.set_ (k+q) (.int .u64 ((QG LB (v % LB^(k+1)*2^a) (k+q):Nat):Int));have P:=L.setCell (p:=⟨w.heap.size,k+q,none⟩) (L4 _) (.int .u64 ((QG LB (v % LB^(k+1)*2^a) (k+q):Nat):Int));have Q:=x0f O;clear O;go_wp2
    have y:=Q.out;clear Q;generalize w2.setCell ⟨w.heap.size,k+q,none⟩ (.int .u64 ((QG LB (v % LB^(k+1)*2^a) (k+q):Nat):Int))=S at *;have g6:S.cell? ⟨w.heap.size,k+q+1,none⟩=some (.int .u64 0):=by
     rw[y.cell (i:=k+q+1) x3,if_neg x3];unfold Q7;rw[HZ.out];rfl
    have g7:=y.frozen (k+q+1);clear g4 g5 l;go_still_tail 12,x5
    change wpList _ _ _ _ _ S.drew;have ag:=P.drew;have R:=y.drew;have g8:S.drew.cell? ⟨w.heap.size,k+q+1,none⟩=some (.int .u64 0):=g6;have g9:=R.frozen (k+q+1);clear P y g6 g7;generalize S.drew=w4 at *;go_wp2
    refine⟨⟨k+1,m,by go_num,ag.setCell (L4 _) _,(R.set_ (k+q+1) _).congr λj hj=>?_⟩,by simp[intOf];omega⟩;have H:=Y.out j;unfold Q7;rw[H];by_cases D:j=k+q+1
    ·subst D;rw[if_pos rfl,if_neg x3,if_pos rfl,<- HD.out,<- HH.out]
    ·rw[if_neg D,if_neg D];by_cases C:j=k+q
     ·subst C;rw[if_pos rfl,if_pos rfl,Y.out (k+q),if_pos rfl]
     ·rw[if_neg C,if_neg C]
   ·go_wp2
    refine⟨⟨k+1,m,by go_num,L.setCell (L4 _) _,(l.set_ (k+q) _).congr λj hj=>?_⟩,by simp[intOf];omega⟩;have H:=Y.out j;unfold Q7;by_cases C:j=k+q
    ·subst C;rw[if_pos rfl]
    ·rw[if_neg C,H,if_neg C];by_cases D:j=k+q+1
     ·subst D;have z:QG LB v k<LB:=YO QF v k;rw[if_pos rfl,HZ.out,show 64-s=64 by omega,Sg (by rw[<- Yk];exact z)]
     ·rw[if_neg D]
  ·obtain rfl:k=n:=x3;rw[Rc HV.out]at f;have ao:Rd wr (some ⟨w.heap.size,0,none⟩) (k+q+1) (Q7 (v*2^a)):=by simpa using f.rd (o:=0) (n:=k+q+1) x3
   have aw:=x0f (show v*2^a<LB^(k+q+1)by
    rw[U.out,Lz 2,R8,Lz LB,<- R9,Yk,X9 64 q];refine L9 (Rt (Rt (show v<(2^64)^k from HV.out) (R6 (64*q))) (R6 s)) ?_
    exact Rb _ (Lh x4 x3))
   go_wp2_with (go_at_call 221;refine(XV _ _ _ _ _ G (L4 _) aw.out ao).mono ?_;rintro e T ⟨rfl,rfl⟩)
   go_ret
   exact⟨_,_,rfl,L4 _,r,f,rfl⟩
theorem Ed{v n:Nat}(b:v<LB^n)(h:n<=a / 64):v / 2^a=0:=by
 refine Sg (L9 b ?_);rw[Yk,X9];exact Lh x4 x3
def UR(A:Option Addr)(n c _v a:Nat)(w:World)(i:n<=4294967296)(b:a<=9223372036854775807)(d:n<=a / 64):
  Calls prog 222 #[.slice A n c,.int .i64 (a:Nat)] w λe f=>e=.returned (.slice none 0 0)/\w=f:=by
 have g:(n:Int)<=(a:Int) / 64:=x3;clear d;go_enter func222,ntmps222
 go_wp2
 go_ret
 exact⟨rfl,rfl⟩
def Of(A:Option Addr)(n c v l:Nat)(w:World)(hn:n<=4294967296)(aw:n<=c)(aB:l<=9223372036854775807)(S:l / 64<n)(T:v<LB^n)(hr:Rd w A n (Q7 v)):
  Calls prog 222 #[.slice A n c,.int .i64 (l:Nat)] w λe U=>∃g N,e=.returned (.slice (some ⟨g,0,none⟩) (nd 64 (v / 2^l)) N)/\w.heap.size<=g/\Below w.heap.size w U /\
   Cel U g 179 N (Q7 (v / 2^l))/\N<=n/\nd 64 (v / 2^l)<=N:=by
 obtain⟨q,hq⟩:∃q,q=l / 64:=⟨_,rfl⟩
 obtain⟨s,hs⟩:∃s,s=l % 64:=⟨_,rfl⟩
 have I:l=64*q+s:=x3;have e1:(l:Int) / 64=(q:Int):=x3;have e2:(l:Int) % 64=(s:Int):=x3;have e3:(l:Int).tmod 64=(s:Int):=by rw[L3 x3];exact e2
 have J:s<64:=x3;rw[<- hq]at S;obtain⟨b,off,rfl,V⟩:=hr x3;obtain⟨N,hN⟩:∃N,n=q+N:=⟨n-q,x3⟩
 have hX:v / LB^q<LB^N:=by rw[Lr (Se QF),<- Lz,T8,<- hN];exact T
 have K:Rd w (some ⟨b,off+q,none⟩) N (Q7 (v / LB^q)):=λ_=>⟨b,off+q,rfl,λj G=>by
  rw[Sf,V (q+j) x3];unfold Q7;rw[Vq]⟩
 have cc:=x0f (CN (some ⟨b,off+q,none⟩) N (c-q) (v / LB^q) 0 N w x3 x3 x3 x6 x3 hX K);have hC:=x0f V;have HQ:=x0f I;have HV:=x0f T;subst hN;have h3:q+N-q=N:=x3;have bc:0<N:=x3;clear hq hs I T V hr hX K;go_enter func222,ntmps222
 go_wp2_with fail
 refine cc.out.mono ?_
 rintro e w1 ⟨g,rfl,E,hB,L⟩;have ao:=L.lt;go_wp2
 go_loopw [19] (λi wr=>∃k:Nat,k<=N/\i=.int .i64 k/\Below w.heap.size w wr/\Cel wr g 179 N (λj=>if j<k then Q7 (v / 2^l) j else Q7 (v / LB^q) j)) (λi _=>N-(intOf i).toNat)
 case atStart=>exact⟨0,L7 _,rfl,hB,L.congr λj G=>by rw[if_neg x3];rfl⟩
 case round =>
  obtain⟨k,hk,rfl,F,m⟩:=hrel;by_cases u:k<N
  ·have g1:wr.cell? ⟨g,k,none⟩=some (.int .u64 (QG LB (v / LB^q) k:Nat)):=by rw[m.cell u,if_neg x3];rfl
   have g2:=m.frozen k;have d:=mw v q s k J;rw[<- HQ.out,<- Vq LB v q k]at d;have W:=aj (QG LB (v / LB^q) k) s;have y:QG LB (v / LB^q) k / 2^s<LB:=Lw (Rn _ _) (YO QF _ _);have X:=RH (QG LB (v / LB^q) k / 2^s) (QG LB v (q+k+1)*2^(64-s) % LB) y (Re _ QF);rw[<- d]at X;have Y:=ES (QG LB v (q+k+1)) (64-s);obtain⟨p,R⟩:∃p,p=QG LB (v / LB^q) k / 2^s:=⟨_,rfl⟩
   obtain⟨t,H⟩:∃t,t=QG LB v (q+k+1)*2^(64-s) % LB:=⟨_,rfl⟩
   rw[<- R]at W X d;rw[<- H]at X Y d;have a:=m.set_ k (.int .u64 (p:Int));have x:=F.setCell (p:=⟨g,k,none⟩) E (.int .u64 (p:Int));by_cases bd:k+1<N
   ·by_cases bi:0<s
    ·have C:(k:Int)+1<(N:Int):=x3;have M:(0:Int)<(s:Int):=x3;have r:=x0f a;have bk:=x0f d;clear a y R H d;go_wp2
     have z:=r.out;clear r g1 g2 F m;generalize wr.setCell ⟨g,k,none⟩ (.int .u64 (p:Int))=O at *;have g3:O.cell? ⟨g,k,none⟩=some (.int .u64 (p:Nat)):=by rw[z.cell u,if_pos rfl]
     have g4:=z.frozen k;have g5:O.cell? ⟨b,off+(q+k+1),none⟩=some (.int .u64 (QG LB v (q+k+1):Nat)):=Lj x (hC.out (q+k+1) x3);have b1:(0:Int)<=(q:Int)+(k:Int)+1:=x3;have b2:(q:Int)+(k:Int)+1<(q:Int)+(N:Int):=x3;have b3:((q:Int)+(k:Int)+1).toNat=q+k+1:=x3;have bl:IntKind.i64.wrap (s:Int)=(s:Int):=Le _ x3;have bm:IntKind.i64.wrap (64-(s:Int))=64-(s:Int):=Le _ x3;have bn:IntKind.i64.wrap ((q:Int)+(k:Int))=(q:Int)+(k:Int):=Le _ x3;have bp:IntKind.i64.wrap ((q:Int)+(k:Int)+1)=(q:Int)+(k:Int)+1:=Le _ x3;have bq:IntKind.i64.wrap (q:Int)=(q:Int):=Le _ x3;have bs:(64-(s:Int)).toNat=64-s:=x3;have b4:(0:Int)<=64-(s:Int):=x3;go_still_tail 18,x5
     change wpList _ _ _ _ _ O.drew;have Z:=x.drew;have P:=z.drew;have g8:O.drew.cell? ⟨g,k,none⟩=some (.int .u64 (p:Nat)):=g3;have g9:=P.frozen k;clear x z g3 g4 g5;generalize O.drew=w4 at *;go_wp2
     refine⟨⟨k+1,u,by go_num,Z.setCell E _,(P.set_ k _).congr λj G=>?_⟩,by simp[intOf];omega⟩;by_cases B:j=k
     ·subst B;rw[if_pos rfl,if_pos x3];rfl
     ·rw[if_neg B,if_neg B];by_cases D:j<k
      ·rw[if_pos D,if_pos x3]
      ·rw[if_neg D,if_neg x3]
    ·have M:¬(0:Int)<(s:Int):=x3;have C:(k:Int)+1<(N:Int):=x3;have f:QG LB (v / 2^l) k=p:=by
      rw[d,H,show s=0 by omega,Nat.sub_zero,<- Yk,Nat.mul_mod_left,Nat.or_zero]
     have HP:=x0f f;have r:=x0f a;clear y R H d f a;go_wp2
     have f:=HP.out;have a:=r.out;refine⟨⟨k+1,u,by go_num,x,a.congr λj G=>?_⟩,by simp[intOf];omega⟩;by_cases B:j=k
     ·subst B;rw[if_pos rfl,if_pos x3];unfold Q7;rw[f]
     ·rw[if_neg B];by_cases D:j<k
      ·rw[if_pos D,if_pos x3]
      ·rw[if_neg D,if_neg x3]
   ·have C:¬(k:Int)+1<(N:Int):=x3;have f:QG LB (v / 2^l) k=p:=by
     rw[d,H,show q+k+1=q+N by omega,ZH QF HV.out (L4 _),Ue,Nat.zero_mod,Nat.or_zero]
    have HP:=x0f f;have r:=x0f a;clear y R H d f a;go_wp2
    have f:=HP.out;have a:=r.out;refine⟨⟨k+1,u,by go_num,x,a.congr λj G=>?_⟩,by simp[intOf];omega⟩;by_cases B:j=k
    ·subst B;rw[if_pos rfl,if_pos x3];unfold Q7;rw[f]
    ·rw[if_neg B];by_cases D:j<k
     ·rw[if_pos D,if_pos x3]
     ·rw[if_neg D,if_neg x3]
  ·obtain rfl:k=N:=x3;have a:=m.congr (f':=Q7 (v / 2^l)) (λj G=>by rw[if_pos G]);have ad:Rd wr (some ⟨g,0,none⟩) k (Q7 (v / 2^l)):=by simpa using a.rd (o:=0) (n:=k) x3
   have Q:=x0f (show v / 2^l<LB^k by
    rw[HQ.out,Lz 2,<- Rk,<- X9 64 q,<- Yk];refine Lw (Rn _ _) ?_
    rw[Lr (Se QF),<- Lz,T8];exact HV.out)
   have ag:k<=9223372036854775807:=x3;clear m;go_wp2_with (go_at_call 221;refine(XV _ _ _ _ _ ag (L4 _) Q.out ad).mono ?_;rintro e U ⟨rfl,rfl⟩)
   go_ret
   exact⟨_,_,rfl,E,F,a,x3,Xf (k:=64) x4 Q.out⟩
def Qa(s:xM):Nat:=KH s.data.toList
theorem XT(v:Nat):Qa (QL v)=v:=FK v
def Dk(s:xM):Qa s<256^s.size:=by have:=AC s.data.toList;rwa [show s.data.toList.length=s.size by simp]at this
def De(s:xM):nd 64 (Qa s)<=(s.size+7) / 8:=by have:=uO s.data.toList;rwa [show s.data.toList.length=s.size by simp]at this
variable{g T:Nat}
def Cel.rd0{w:xH}{t:o0}{n:Nat}{f:Nat->y9}(h:Cel w g t T f)(a:n<=T):Rd w (some ⟨g,0,none⟩) n f :=
 (h.rd (o:=0) (n:=n) x3).congr λj _=>by rw[Lm]
def KV(s:xM)(w:xH)(d:s.size<=4294967296):
  Calls prog 191 #[.string s] w λe a=>∃g N,e=.returned (.slice (some ⟨g,0,none⟩) (nd 64 (Qa s)) N)/\w.heap.size<=g/\Below w.heap.size w a /\
   Cel a g 179 N (Q7 (Qa s))/\nd 64 (Qa s)<=N/\N<=4294967296/\Rd a (some ⟨g,0,none⟩) (nd 64 (Qa s)) (Q7 (Qa s)) :=
 (QaX s w d).mono λe a ⟨g,N,f,h,i,b,j⟩=>by
  have k:=De s;have c:nd 64 (Qa s)<=N:=x3;exact⟨g,N,f,h,i,b,c,x3,Cel.rd0 b c⟩
def Qaq(A:xN)(c v:Nat)(w:xH)(b:nd 64 v<=4294967296)(a:nd 64 v<=c)(d:Rd w A (nd 64 v) (Q7 v)):
 Calls prog 258 #[.slice A (nd 64 v) c] w λe f=>e=.returned (.int .i64 (nd 1 v:Nat))/\w=f:=gn A _ c v w b a (YV v) d
def Ch(A:xN)(c v:Nat)(w:xH)(b:nd 64 v<=4294967296)(a:nd 64 v<=c)(d:Rd w A (nd 64 v) (Q7 v)):
 xP prog 216 #[.slice A (nd 64 v) c] w (.string (QL v)):=Aq A _ c v w b a (YV v) d
def IV(A b:xN)(c d u v:Nat)(w:xH)(i:nd 64 u<=4294967296)(f:nd 64 v<=4294967296)(g:nd 64 u<=c)(a:nd 64 v<=d)(j:Rd w A (nd 64 u) (Q7 u))(h:Rd w b (nd 64 v) (Q7 v)):
  Calls prog 215 #[.slice A (nd 64 u) c,.slice b (nd 64 v) d] w λe l=>e=.returned (.int .i64 (Xe u v))/\∃k,l=w.drewN k :=
 Pw A b _ _ c d u v w i f g a (YV u) (YV v) j h
def ED(s:ByteArray)(w:World)(a:s.size<=4294967296):
  xP prog 196 #[.string s] w (.int .i64 (nd 1 (Qa s):Nat)):=by
 go_enter func196,ntmps196
 go_wp2_with fail
 refine(KV s w a).mono ?_
 rintro e i ⟨g,N,rfl,j,c,k,d,l,f⟩;go_wp2_with fail
 refine(Qaq _ _ _ _ x3 d f).mono ?_
 rintro e m ⟨rfl,rfl⟩;go_wp2
 go_ret
 exact⟨rfl,c⟩
def oA(s t:ByteArray)(w:World)(f:s.size<=4294967296)(i:t.size<=4294967296):
  xP prog 301 #[.string s,.string t] w (.int .i64 (Xe (Qa s) (Qa t))):=by
 go_enter func301,ntmps301
 go_wp2_with fail
 refine(KV s w f).mono ?_
 rintro e l ⟨g,N,rfl,r,d,u,m,v,n⟩;go_wp2_with fail
 refine(KV t l i).mono ?_
 rintro e x ⟨y,z,rfl,o,a,p,b,q,c⟩;go_wp2_with fail
 refine(IV _ _ _ _ _ _ _ x3 x3 m b (n.below a) c).mono ?_
 rintro e A ⟨rfl,k,rfl⟩;go_wp2
 go_ret
 exact⟨rfl,Zk (QW d a d.size) k⟩
def OK(s:ByteArray)(w:World):
  Calls prog 257 #[.string s] w λe c=>e=.returned (.string (QL (Qa s)))/\w=c:=by
 have a:=Tryz.strings_TrimLeft_one s 0 x4 w;have b:(⟨(Lib.trimLeftB s.data.toList 0).toArray⟩:ByteArray)=QL (Qa s):=by unfold QL Qa;rw[FJ];rfl
 rw[b]at a;have d:=x0f a;clear a b;go_enter func257,ntmps257
 go_wp2_with fail
 refine d.out.mono ?_
 rintro e f ⟨rfl,rfl⟩;go_wp2
 go_ret
 exact⟨rfl,rfl⟩
def Io(n:Nat)(w:World)(a:n<LB):
  xP prog 161 #[.int .u64 (n:Nat)] w (.string (QL n)):=by
 have b:Rd (w.alloc (.cells #[.int .u64 (n:Nat)] 179)) (some ⟨w.heap.size,0,none⟩) 1 (Q7 n):=by
  have:=(Cel.new w 179 #[.int .u64 (n:Nat)]).rd (o:=0) (n:=1) x6;refine this.congr λj g=>?_
  obtain rfl:j=0:=x3;simp[Q7,QG,Rc a]
 have d:=x0f (Aq (some ⟨w.heap.size,0,none⟩) 1 1 n _ x3 x3 (l3 a) b);clear b a;go_enter func161,ntmps161
 go_wp2_with fail
 refine d.out.mono ?_
 rintro e i ⟨rfl,f⟩;go_wp2
 go_ret
 exact⟨rfl,QW ((p5 _ _).alloc (L4 _) _) f x6⟩
theorem B5(o n:Nat)(f:Nat->y9)(j:Nat):CT o n (λi=>f (o+i)) f j=f j:=by
 grind[CT]
def Wz(s t:ByteArray)(w:World)(E:s.size<=4294967296)(F:t.size<=4294967296):
  xP prog 290 #[.string s,.string t] w (if Qa s<Qa t then .tuple #[.string ⟨#[]⟩,.bool false]else .tuple #[.string (QL (Qa s-Qa t)),.bool true]):=by
 by_cases a:Qa s<Qa t
 ·rw[if_pos a];have K:=cmpI_lt.2 a;clear a;go_enter func290,ntmps290
  go_wp2_with fail
  refine(KV s w E).mono ?_
  rintro e p ⟨g,N,rfl,G,f,q,m,L,r⟩;go_wp2_with fail
  refine(KV t p F).mono ?_
  rintro e H ⟨M,O,rfl,u,b,v,d,x,c⟩;go_wp2_with fail
  refine(IV _ _ _ _ _ _ _ x3 x3 m d (r.below b) c).mono ?_
  rintro e P ⟨rfl,k,rfl⟩;go_wp2
  go_ret2
  exact⟨rfl,Zk (QW f b f.size) k⟩
 ·rw[if_neg a];have K:¬ Xe (Qa s) (Qa t)<0:=λh=>a (cmpI_lt.1 h)
  have y:=x0f (Sx a);clear a;go_enter func290,ntmps290
  go_wp2_with fail
  refine(KV s w E).mono ?_
  rintro e p ⟨g,N,rfl,G,f,q,m,L,r⟩;go_wp2_with fail
  refine(KV t p F).mono ?_
  rintro e H ⟨M,O,rfl,u,b,v,d,x,c⟩;go_wp2_with fail
  refine(IV _ _ _ _ _ _ _ x3 x3 m d (r.below b) c).mono ?_
  rintro e P ⟨rfl,k,rfl⟩;have Q:=q.lt;have z:Cel (H.drewN k) g 179 N (CT 0 (nd 64 (Qa s)) (Q7 (Qa s)) (Q7 (Qa s))):=((q.bel b).drewN k).congr λj _=>by
   have:=B5 0 (nd 64 (Qa s)) (Q7 (Qa s)) j;simp only[Lm]at this;exact this.symm
  go_wp2_with fail
  refine(aC _ _ _ _ _ _ _ _ _ _ _ _ x3 x3 z x3 (YV _) y.out (YV _) (c.drewN k) (Off.some_ x3)).mono ?_
  rintro e I ⟨rfl,A,B⟩;have R:nd 64 (Qa s-Qa t)<=nd 64 (Qa s):=AY x4 (V9 _ _);have C:Rd I (some ⟨g,0,none⟩) (nd 64 (Qa s)) (Q7 (Qa s-Qa t)):=(B.rd (o:=0) (n:=nd 64 (Qa s)) x3).congr λj S=>FI S
  go_wp2_with fail
  refine(Aq _ _ _ _ _ x3 m (Lw (V9 _ _) (YV _)) C).mono ?_
  rintro e T ⟨rfl,D⟩;go_wp2
  go_ret2
  have i:=Zk (QW f b f.size) k;have l:Below w.heap.size w I:=Zu i A i.size G;exact⟨rfl,QW l D l.size⟩
def Ql{a:List Nat}{w b:xH}(h:TabAt g a w)(d:Below w.heap.size w b):TabAt g a b:=λj c=>(d.cell (p:=⟨g,j,none⟩) (G7 (h j c))).trans (h j c)
def Be(s:ByteArray)(w:World)(t:s.size<=4294967296)(q:TabAt 4 Lib.deBruijn64tab w):
  xP prog 143 #[.string s] w (.int .i64 (tz (Qa s):Nat)):=by
 have v:=x0f q;clear q;go_enter func143,ntmps143
 go_wp2_with fail
 refine(KV s w t).mono ?_
 rintro e r ⟨g,N,rfl,A,c,x,C,D,E⟩;go_wp2
 go_loop [8] (λi=>∃k:Nat,k<=nd 64 (Qa s)/\i=.int .i64 k/\Hid (∀j,j<k->QG LB (Qa s) j=0)) (λi=>nd 64 (Qa s)-(intOf i).toNat)
 case atStart=>exact⟨0,L7 _,rfl,λj b=>x3⟩
 case round =>
  obtain⟨k,F,rfl,d⟩:=hrel;by_cases f:k<nd 64 (Qa s)
  ·have G:r.cell? ⟨g,k,none⟩=some (.int .u64 (QG LB (Qa s) k:Nat)):=x.cell x3;by_cases hd:QG LB (Qa s) k=0
   ·have y:=x0f hd;have l:(((QG LB (Qa s) k:Nat):Int) != 0)=false:=by rw[hd];rfl
    clear hd;go_wp2
    refine⟨⟨k+1,f,by go_num,λj b=>?_⟩,by simp[intOf];omega⟩;by_cases e:j=k
    ·subst e;exact y.out
    ·exact d.out j x3
   ·have l:(((QG LB (Qa s) k:Nat):Int) != 0)=true:=by rw[bne_iff_ne];omega
    have a:=x0f (show tz (Qa s)=64*k+tz (QG LB (Qa s) k)from xp (by
     refine AH (B:=LB) (n:=k) (Re _ (Se QF)) (Se QF) λj b=>?_
     rw[Ge b,Vx];exact d.out j b) hd)
    have o:=Tryz.bits_TrailingZeros64 (QG LB (Qa s) k) (YO QF _ _) r (λ_=>Ql v.out c);have p:Lib.ctz 64 (QG LB (Qa s) k)<=64:=by
     let⟨m,_,H⟩:=Lib.ctzFrom_spec 64 (QG LB (Qa s) k) x3 (YO QF _ _);unfold Lib.ctz;rw[if_neg hd];omega
    rw[Qb7 hd (YO QF _ _)]at o p;have z:=x0f o;clear hd o;go_wp2_with fail
    refine z.out.mono ?_
    rintro e I ⟨rfl,rfl⟩;go_wp2
    go_ret
    exact⟨WZ (by rw[a.out];omega),c⟩
  ·obtain rfl:k=nd 64 (Qa s):=x3;have a:=x0f (show Qa s=0 by
    refine AH (B:=LB) (n:=nd 64 (Qa s)) (YV _) (Se QF) λj b=>?_
    rw[Vx];exact d.out j b)
   go_wp2
   go_ret
   exact⟨by rw[a.out];rfl,c⟩
def Wy(s t:ByteArray)(w:World)(I:s.size<=4294967296)(J:t.size<=4294967296):
  xP prog 287 #[.string s,.string t] w (.string (QL (Qa s*Qa t))):=by
 have b1:nd 64 (Qa s)<=1073741824:=x8 (De s);have b2:nd 64 (Qa t)<=1073741824:=x8 (De t);have p:8*(nd 64 (Qa s)+nd 64 (Qa t)+1)<=281474976710656:=x3;have q:nd 64 (Qa s)+nd 64 (Qa t)+1<=9223372036854775807:=x3;go_enter func287,ntmps287
 go_wp2_with fail
 refine(KV s w I).mono ?_
 rintro e L ⟨g,N,rfl,W,F,M,X,Y,Z⟩;go_wp2_with fail
 refine(KV t L J).mono ?_
 rintro e d ⟨O,P,rfl,Q,f,r,R,S,u⟩;have l:=QW F f F.size;have T:=r.lt;go_wp2_with (at_make;refine Yt rfl (.tmp 19) (.tmp 19) _ rfl 179 (.int .u64 0) 8 ZU GS rfl .i64 .i64 _ _ (nd 64 (Qa s)+nd 64 (Qa t)+1) rfl rfl rfl rfl p q ?_;intro U v m G)
 go_loopw [23] (λi wr=>∃k:Nat,k<=nd 64 (Qa s)/\i=.int .i64 k/\U.grownBy wr (some d.heap.size)/\Cel wr d.heap.size 179 (nd 64 (Qa s)+nd 64 (Qa t)+1) (Q7 (Qa s % LB^k*Qa t))) (λi _=>nd 64 (Qa s)-(intOf i).toNat)
 case atStart=>exact⟨0,L7 _,rfl,World.grownBy.refl _ _,v.congr λj H=>by unfold Q7;rw[Tx,V0,Ue,Vx];rfl⟩
 case round =>
  obtain⟨k,hk,rfl,n,b⟩:=hrel;have c:Below d.heap.size d wr:=Zu m n m.size (L4 _);by_cases x:k<nd 64 (Qa s)
  ·have g1:wr.cell? ⟨g,k,none⟩=some (.int .u64 (QG LB (Qa s) k:Nat)):=((M.bel f).bel c).cell x3;have y:Cel wr d.heap.size 179 (nd 64 (Qa s)+nd 64 (Qa t)+1) (CT k (nd 64 (Qa s)+nd 64 (Qa t)+1-k) (Q7 (Qa s % LB^k*Qa t / LB^k)) (Q7 (Qa s % LB^k*Qa t))) :=
    b.congr λj H=>by
     unfold CT;by_cases h:k<=j/\j<k+(nd 64 (Qa s)+nd 64 (Qa t)+1-k)
     ·rw[if_pos h];unfold Q7;rw[Vq,show k+(j-k)=j by omega]
     ·rw[if_neg h]
   have z:Rd wr (some ⟨O,0,none⟩) (nd 64 (Qa t)) (Q7 (Qa t)):=u.below c;have A:=x0f (MT d.heap.size k (nd 64 (Qa s)+nd 64 (Qa t)+1-k) (nd 64 (Qa s)+nd 64 (Qa t)+1-k) (nd 64 (Qa s)+nd 64 (Qa t)+1) (nd 64 (Qa t)) P _ (Qa t) (QG LB (Qa s) k) _ _ wr x3 x3 y x3 (YO QF _ _) (YV _) z (Off.some_ x3));go_wp2_with fail
   refine A.out.mono ?_
   rintro e V ⟨rfl,B,C⟩;go_wp2
   refine⟨⟨k+1,x,by go_num,Vr n B,C.congr λj H=>?_⟩,by simp[intOf];omega⟩;have e:Qa s % LB^(k+1)*Qa t=Qa s % LB^k*Qa t+LB^k*(Qa t*QG LB (Qa s) k):=by
    rw[J8,S8,R9,Ls (Qa t)]
   rw[e];unfold CT Q7;by_cases h:k<=j/\j<k+(nd 64 (Qa s)+nd 64 (Qa t)+1-k)
   ·rw[if_pos h];obtain⟨i,rfl⟩:∃i,j=k+i:=⟨j-k,x3⟩
    rw[I0 QF,Sq]
   ·rw[if_neg h,I1 x3]
  ·obtain rfl:k=nd 64 (Qa s):=x3;rw[Rc (YV _)]at b;have a:Qa s*Qa t<LB^(nd 64 (Qa s)+nd 64 (Qa t)+1):=by
    rw[R8,Lz];exact L9 (Ux (YV _) (YV _)) (Rz _ QF)
   have D:=x0f (Aq _ _ _ _ wr x3 (L4 _) a (Cel.rd0 b (L4 _)));clear a;go_wp2_with fail
   refine D.out.mono ?_
   rintro e V ⟨rfl,E⟩;go_wp2
   go_ret
   have o:=QW l c l.size;exact⟨rfl,QW o E o.size⟩
def Qe(b:Bool)(v:Nat):Int:=if b then -(v:Int)else v
def neg(z:Int):Bool:=decide (z<0)
def QJ(z:Int):xM:=QL z.natAbs
def Zr(z:Int):Nat:=nd 8 z.natAbs
def JZ(z:Int):Int:=if z<0 then -1 else if z=0 then 0 else 1
theorem VM(z:Int):Qa (QJ z)=z.natAbs:=FK _
theorem Xp(z:Int):Qe (neg z) (Qa (QJ z))=z:=by
 rw[VM];unfold Qe neg;by_cases h:z<0
 ·rw[Lk h,if_pos rfl];omega
 ·rw[Lc h,if_neg x6];omega
theorem XU(z:Int):(QJ z).size=Zr z:=GE _
theorem Xd(b:Bool)(v:Nat):(Qe b v).natAbs=v:=by unfold Qe;split<;>omega
def nD(b:Bool)(v:Nat):Qe (!b) v=-Qe b v:=by cases b<;>simp[Qe]
def Ox(b:Bool):Qe b 0=0:=by cases b<;>rfl
def nB(b:Bool)(v:Nat):neg (Qe b v)=(b&&!(v==0)):=by
 unfold neg Qe;cases b
 ·simp
 ·by_cases h:v=0
  ·subst h;simp
  ·have:(v==0)=false:=l3 h;rw[this];simp;omega
def B4(b:Bool)(v:Nat):QJ (Qe b v)=QL v:=by unfold QJ;rw[Xd]
def nstr_empty{v:Nat}:(QL v).toList=[]↔v=0:=by
 rw[S5];constructor
 ·intro h;have a:=FK v;rw[h]at a;exact a.symm
 ·rintro rfl;rfl
variable{y:Int}
def QaH{x:Int}(h:neg x=neg y)(a:QJ x=QJ y):x=y:=by
 have:=Xp x;rw[h,a,Xp]at this;exact this.symm
def ol:QJ 0=⟨#[]⟩:=rfl
def Bc(z:Int):z.natAbs<256^Zr z:=B9 8 x4 _
variable{z:Int}
def DY{n:Nat}(h:z.natAbs<256^n):Zr z<=n:=Xf (k:=8) x4 h
def GN(b:Bool)(s:xM):Zr (Qe b (Qa s))<=s.size:=DY (by rw[Xd];exact Dk s)
theorem H8(z:Int):Zr (-z)=Zr z:=by unfold Zr;rw[Int.natAbs_neg]
def DX{x:Int}{n:Nat}(a:Zr x<=n)(b:Zr y<=n):Zr (x+y)<=n+1:=by
 refine DY ?_
 have c:=L9 (Bc x) (Lh x4 a);have d:=L9 (Bc y) (Lh x4 b);have e:=Int.natAbs_add_le x y;rw[R8];omega
def υ{x:Int}{n:Nat}(a:Zr x<=n)(b:Zr y<=n):Zr (x-y)<=n+1:=by
 rw[Int.sub_eq_add_neg];exact DX a (by rw[H8];exact b)
def Js{x:Int}{n m:Nat}(a:Zr x<=n)(b:Zr y<=m):Zr (x*y)<=n+m:=by
 refine DY ?_
 rw[Uo,Lz];exact Ux (L9 (Bc x) (Lh x4 a)) (L9 (Bc y) (Lh x4 b))
def J0{x:Int}(h:x.natAbs<=y.natAbs):Zr x<=Zr y:=AY x4 h
def IN{x:Int}{n k:Nat}(a:Zr x<=n):Zr (x*2^k)<=n+k / 8+1:=by
 refine DY ?_
 rw[Uo,Int.natAbs_pow,Sf,Lz];refine Ux (L9 (Bc x) (Lh x4 a)) ?_
 rw[show(256:Nat)=2^8 from rfl,<- T1];exact Nat.pow_lt_pow_right x4 x3
theorem jl(h:-9223372036854775808<=z)(a:z<=9223372036854775807):Zr z<=8:=by
 refine DY ?_
 have e:(256:Nat)^8=18446744073709551616:=x4;omega
def VL(f:Nat->Int):Nat->Int|0=>0|k+1=>VL f k+f k
def X5(f:Nat->Int):Nat->Int|0=>1|k+1=>X5 f k*f k
def IP{f:Nat->Int}{S:Nat}(h:∀j,Zr (f j)<=S):∀k,Zr (VL f k)<=S+k
 |0=>L6 (show Zr 0<=0 by decide) (L7 _)
 |k+1=>DX (IP h k) (L6 (h k) (Rm _ _))
def N8{f:Nat->Int}{S:Nat}(h:∀j,Zr (f j)<=S):∀k,Zr (X5 f k)<=S*k+1
 |0=>L6 (show Zr 1<=1 by decide) x3
 |k+1=>by
  have:=Js (N8 h k) (h k);rw[Nat.mul_succ];show Zr (X5 f k*f k)<=_;omega
theorem Nt:JZ z<0↔z<0:=by unfold JZ;split<;>(try split)<;>omega
theorem sgn_eq:JZ z=0↔z=0:=by unfold JZ;split<;>(try split)<;>omega
def QbI:0<JZ z↔0<z:=by unfold JZ;split<;>(try split)<;>omega
def QbH(z:Int):-1<=JZ z/\JZ z<=1:=by unfold JZ;split<;>(try split)<;>omega
def wD(x y:Int):JZ (x*y)=JZ x*JZ y:=by
 rcases Int.lt_trichotomy x 0 with a|a|a<;>rcases Int.lt_trichotomy y 0 with b|b|b<;>(try subst a)<;>(try subst b) <;>
  (try simp only[Int.zero_mul,Int.mul_zero,show JZ 0=0 from rfl])
 ·rw[show JZ x=-1 by unfold JZ;rw[if_pos a],show JZ y=-1 by unfold JZ;rw[if_pos b]];have:=Int.mul_pos_of_neg_of_neg a b;unfold JZ;rw[if_neg x3,if_neg x3];rfl
 ·rw[show JZ x=-1 by unfold JZ;rw[if_pos a],show JZ y=1 by unfold JZ;rw[if_neg x3,if_neg x3]];have:=Int.mul_neg_of_neg_of_pos a b;unfold JZ;rw[if_pos x3];rfl
 ·rw[show JZ x=1 by unfold JZ;rw[if_neg x3,if_neg x3],show JZ y=-1 by unfold JZ;rw[if_pos b]];have:=Int.mul_neg_of_pos_of_neg a b;unfold JZ;rw[if_pos x3];rfl
 ·rw[show JZ x=1 by unfold JZ;rw[if_neg x3,if_neg x3],show JZ y=1 by unfold JZ;rw[if_neg x3,if_neg x3]];have:=Int.mul_pos a b;unfold JZ;rw[if_neg x3,if_neg x3];rfl
def Od(a b:Bool)(u v:Nat)(i:0<v):
  (Qe a u / Qe b v=Qe (a != b) (if a=true/\u % v≠0 then u / v+1 else u / v))/\(Qe a u % Qe b v=((if a=true/\u % v≠0 then v-u % v else u % v:Nat):Int)):=by
 have j:=Tc u v;have k:=Re u i;have key:∀(q r:Int),Qe a u=Qe b v*q+r->0<=r->r<v->Qe a u / Qe b v=q/\Qe a u % Qe b v=r:=by
  intro q r h o p;have c:Qe b v≠0:=by unfold Qe;split<;>omega
  have s:=Int.emod_add_mul_ediv (Qe a u) (Qe b v);have t:=Int.emod_nonneg (Qe a u) c;have w:Qe a u % Qe b v<v:=by
   have:=Int.emod_lt (Qe a u) c;rw[Xd]at this;exact this
  generalize Qe a u / Qe b v=Q at *;generalize Qe a u % Qe b v=R at *;have g:Qe b v*(Q-q)=r-R:=by rw[Int.mul_sub];omega
  have l:Q-q=0:=by
   apply Classical.byContradiction;intro m;have n:(Qe b v*(Q-q)).natAbs=v*(Q-q).natAbs:=by rw[Uo,Xd]
   have x:v*1<=v*(Q-q).natAbs:=Rb _ x3;rw[g]at n;omega
  rw[l,Int.mul_zero]at g;omega
 generalize u / v=q at *;generalize u % v=r at *;have d:(u:Int)=(v:Int)*(q:Int)+(r:Int):=by rw[<- j];simp
 cases a
 ·simp only[Tv,false_and,if_false];cases b
  ·exact key _ _ (by simp[Qe];exact d) x3 x3
  ·exact key _ _ (by simp[Qe,Int.neg_mul,Int.mul_neg];exact d) x3 x3
 ·by_cases f:r=0
  ·simp only[f,ne_eq,not_true,and_false,if_false];subst f;cases b
   ·exact key _ _ (by simp[Qe,Int.mul_neg];omega) x3 x3
   ·exact key _ _ (by simp[Qe,Int.neg_mul];omega) x3 x3
  ·simp only[f,ne_eq,not_false_iff,and_true,if_true];have e:((v-r:Nat):Int)=(v:Int)-r:=x3;cases b
   ·refine key _ _ ?_ x3 x3;rw[e];simp[Qe,Int.mul_add,Int.mul_neg];omega
   ·refine key _ _ ?_ x3 x3;rw[e];simp[Qe,Int.mul_add,Int.neg_mul];omega
def kI(a:Bool)(u k:Nat):Qe a u / 2^k=Qe a (u / 2^k)-(if a=true/\u % 2^k≠0 then 1 else 0):=by
 have h:=(Od a false u (2^k) (R6 k)).1;have e:Qe false (2^k)=2^k:=by simp[Qe]
 rw[e]at h;rw[h];cases a
 ·simp[Qe]
 ·by_cases b:u % 2^k=0
  ·simp[Qe,b]
  ·simp[Qe,b];omega
open Go
def dy(m e:Int):Dyadic:=Dyadic.ofIntWithPrec m (-e)
def dm:Dyadic->Int | .zero=>0 | .ofOdd n _ _=>n
def de:Dyadic->Int | .zero=>0 | .ofOdd _ k _=>-k
def Kq(m e:Int):(dy m e).toRat=(m:Rat)*2^e:=by
 unfold dy;rw[Dyadic.toRat_ofIntWithPrec_eq_mul_two_pow,U6]
variable{y:Dyadic}
def I8{x:Dyadic}(h:x.toRat=y.toRat):x=y:=Dyadic.toRat_inj.1 h
def Jj(e:Int):dy 0 e=0:=by
 unfold dy Dyadic.ofIntWithPrec;rw[dif_pos rfl];rfl
theorem F8(x:Dyadic):dy (dm x) (de x)=x:=by
 cases x with
 |zero=>exact Jj _
 |ofOdd n k a=>show Dyadic.ofIntWithPrec n (- -k)=_;rw[U6];exact Dyadic.ofOdd_eq_ofIntWithPrec.symm
def dm_zero{x:Dyadic}:dm x=0↔x=0:=by
 cases x with
 |zero=>exact⟨λ_=>rfl,λ_=>rfl⟩
 |ofOdd n k a=>exact⟨λh=>by have b:n=0:=h;subst b;simp at a,λh=>by cases h⟩
def rP:(2:Rat)≠0:=x4
def aI(k:Nat):(2:Rat)^(k:Int)=((2^k:Int):Rat):=by
 rw[Rat.zpow_natCast];simp
theorem Fj(m e:Int)(k:Nat):dy (m*2^k) e=dy m (e+k):=by
 apply I8;rw[Kq,Kq,Rat.zpow_add rP,aI,Rat.intCast_mul]
 grind
def Og{m:Int}(e:Int)(h:m % 2=1):dm (dy m e)=m/\de (dy m e)=e:=by
 have a:dy m e=Dyadic.ofOdd m (-e) h:=Dyadic.ofOdd_eq_ofIntWithPrec.symm;rw[a];exact⟨rfl,U6 e⟩
def eL{m:Int}(h:m≠0):∃o:Int,m=o*2^tz m.natAbs/\o % 2=1:=by
 let⟨q,b⟩:=Ck (v:=m.natAbs) x3;generalize tz m.natAbs=t at *;rcases Int.natAbs_eq m with a|a
 ·refine⟨2*q+1,?_,x3⟩;rw[a,b];simp[Int.mul_comm]
 ·refine⟨-(2*q+1),?_,x3⟩;rw[a,b,Int.neg_mul];simp[Int.mul_comm]
theorem UQ{m:Int}(e:Int)(h:m≠0):dm (dy m e)=m / 2^tz m.natAbs/\de (dy m e)=e+tz m.natAbs:=by
 let⟨o,a,c⟩:=eL h;generalize tz m.natAbs=t at *;have d:dy m e=dy o (e+t):=by rw[a];exact Fj o e t
 have b:=Og (e+t) c;rw[d,b.1,b.2];refine⟨?_,rfl⟩;rw[a,Int.mul_ediv_cancel _ (Int.ne_of_gt (Int.pow_pos x4))]
theorem PK(m n e:Int):dy m e+dy n e=dy (m+n) e:=by
 apply I8;rw[Dyadic.toRat_add,Kq,Kq,Kq,Rat.intCast_add];grind
theorem mL(m n e:Int):dy m e-dy n e=dy (m-n) e:=by
 apply I8;rw[Dyadic.toRat_sub,Kq,Kq,Kq,Rat.intCast_sub];grind
theorem bZ(m e:Int):-dy m e=dy (-m) e:=by
 apply I8;rw[Dyadic.toRat_neg,Kq,Kq,Rat.intCast_neg];grind
theorem zK(m n e f:Int):dy m e*dy n f=dy (m*n) (e+f):=by
 apply I8;rw[Dyadic.toRat_mul,Kq,Kq,Kq,Rat.intCast_mul,Rat.zpow_add rP];grind
def dy_one:dy 1 0=1:=rfl
def yb{m n e:Int}:dy m e<dy n e↔m<n:=by
 rw[<- Dyadic.toRat_lt_toRat_iff,Kq,Kq,Rat.mul_lt_mul_right (Rat.zpow_pos x4),Rat.intCast_lt_intCast]
def GP(x:Dyadic):Int:=JZ (dm x)
def af(m:Int)(k:Nat):JZ (m*2^k)=JZ m:=by
 have h:JZ ((2:Int)^k)=1:=by
  have:=Int.pow_pos (n:=2) (m:=k) x4;unfold JZ;rw[if_neg x3,if_neg x3]
 rw[wD,h,Int.mul_one]
def Ig(m e:Int):GP (dy m e)=JZ m:=by
 unfold GP;by_cases h:m=0
 ·subst h;rw[Jj];rfl
 ·let⟨o,a,b⟩:=eL h;generalize tz m.natAbs=t at *;rw[a,Fj,(Og (e+t) b).1,af]
def dsgn_lt{x:Dyadic}:GP x<0↔x<0:=by
 rw[<- F8 x,Ig,Nt,<- Jj (de x),yb]
def dsgn_gt{x:Dyadic}:0<GP x↔0<x:=by
 rw[<- F8 x,Ig,QbI,<- Jj (de x),yb]
def dsgn_eq{x:Dyadic}:GP x=0↔x=0:=by
 unfold GP;rw[sgn_eq,dm_zero]
def PI(x:Dyadic):-1<=GP x/\GP x<=1:=QbH _
def DB(L T:Nat)(x:Dyadic):Prop:=∃k:Int,x=dy k (-(L:Int))/\k.natAbs<2^(L+T)
variable{L:Nat}
def UJ{b:Nat}{x:Dyadic}(h:DB L T x)(e:L<=a)(f:T<=b):DB a b x:=by
 obtain⟨k,rfl,d⟩:=h;refine⟨k*2^(a-L),?_,?_⟩
 ·rw[Fj];congr 1;omega
 ·rw[Uo,Int.natAbs_pow];show k.natAbs*2^(a-L)<_;have c:k.natAbs*2^(a-L)<2^(L+T)*2^(a-L):=Rt d (R6 _);rw[<- Lz]at c;exact L9 c (Lh x4 x3)
def IX{m e:Int}{S:Nat}(b:m.natAbs<2^S)(c:-(L:Int)<=e)(d:e+S<=T):DB L T (dy m e):=by
 refine⟨m*2^(e+L).toNat,?_,?_⟩
 ·rw[Fj];congr 1;omega
 ·rw[Uo,Int.natAbs_pow];show m.natAbs*2^(e+L).toNat<_;have a:m.natAbs*2^(e+L).toNat<2^S*2^(e+L).toNat:=Rt b (R6 _);rw[<- Lz]at a;exact L9 a (Lh x4 x3)
def Id(L T:Nat):DB L T 0:=⟨0,(Jj _).symm,R6 _⟩
def zw{x:Dyadic}(a:DB L T x)(b:DB L T y):DB L (T+1) (x+y):=by
 obtain⟨k,rfl,c⟩:=a;obtain⟨j,rfl,d⟩:=b;refine⟨k+j,PK _ _ _,?_⟩;rw[<- Sf,R8];omega
theorem zx{x:Dyadic}(a:DB L T x):DB L T (-x):=by
 obtain⟨k,rfl,b⟩:=a;exact⟨-k,bZ _ _,by rwa [Int.natAbs_neg]⟩
def zy{x:Dyadic}(a:DB L T x)(b:DB L T y):DB L (T+1) (x-y):=by
 obtain⟨k,rfl,c⟩:=a;obtain⟨j,rfl,d⟩:=b;refine⟨k-j,mL _ _ _,?_⟩;rw[<- Sf,R8];omega
def Ma{b:Nat}{x:Dyadic}(c:DB L T x)(d:DB a b y):DB (L+a) (T+b) (x*y):=by
 obtain⟨k,rfl,e⟩:=c;obtain⟨j,rfl,f⟩:=d;refine⟨k*j,?_,?_⟩
 ·rw[zK];congr 1;omega
 ·rw[Uo,show L+a+(T+b)=(L+T)+(a+b)by omega,Lz];rcases T5 j.natAbs with h|h
  ·rw[h,Nat.mul_zero];exact Vg (R6 _) (R6 _)
  ·exact L9 (Rt e h) (Rb _ (Sv f))
def G8{x:Dyadic}(b:DB L T x):-(L:Int)<=de x/\de x<=T/\(dm x).natAbs<2^(L+T):=by
 obtain⟨k,rfl,a⟩:=b;by_cases h:k=0
 ·subst h;rw[Jj];exact⟨by show -(L:Int)<=0;omega,by show(0:Int)<=T;omega,R6 _⟩
 ·let⟨c,d⟩:=UQ (-(L:Int)) h;let⟨o,e,i⟩:=eL h;rw[c,d];generalize tz k.natAbs=t at *;have f:k.natAbs=o.natAbs*2^t:=by rw[e,Uo,Int.natAbs_pow];rfl
  have g:2^t<=k.natAbs:=by rw[f];exact Nat.le_mul_of_pos_left _ x3
  have j:t<L+T:=(Ud (by decide:1<2)).1 (Lw g a);exact⟨x3,x3,Lw (Tj _ _) a⟩
def Ic{x:Dyadic}(a:DB L T x):(QJ (dm x)).size<=(L+T) / 8+1:=by
 rw[XU];refine DY (L9 (G8 a).2.2 ?_);rw[show 256=2^8 from rfl,<- T1];exact Lh x4 x3
end
def gy(n:Int):max n 0=(n.toNat:Int):=x3
def MG{v n:Nat}(h:v<LB^n):nd 64 v<=n:=Xf (k:=64) x4 h
def qw(v m:Nat):v*2^m<LB^(nd 64 v+m / 64+1):=by
 refine L9 (Rt (YV v) (R6 _)) ?_
 rw[Yk,X9,X9,<- Lz];exact Lh x4 x3
def oC(s:ByteArray)(n:Int)(w:World)(q:s.size<=4294967296)(r:n<=68719476736):
  xP prog 193 #[.string s,.int .i64 n] w (.string (QL (Qa s*2^n.toNat))):=by
 have b1:nd 64 (Qa s)<=1073741824:=x8 (De s);have u:=gy n;have a:n.toNat<=68719476736:=x3;have d:=MG (qw (Qa s) n.toNat);have l:nd 64 (Qa s*2^n.toNat)<=4294967296:=x3;obtain⟨m,b⟩:∃m,m=n.toNat:=⟨_,rfl⟩
 rw[<- b]at u a l d ⊢;clear b r;go_enter func193,ntmps193
 go_wp2_with fail
 refine(KV s w q).mono ?_
 rintro e v ⟨g,N,rfl,B,o,C,x,D,y⟩;go_wp2_with fail
 refine(eN _ _ _ (Qa s) m v x3 x a (YV _) y).mono ?_
 rintro e E ⟨F,z,rfl,A,f,i,j⟩;have c:nd 64 (Qa s*2^m)<=z:=x3;clear j;go_wp2_with fail
 refine(Ch _ _ _ _ l c (Cel.rd0 i c)).mono ?_
 rintro e G ⟨rfl,k⟩;go_wp2
 go_ret
 have p:=QW o f o.size;exact⟨rfl,QW p k p.size⟩
def EE(s:ByteArray)(n:Int)(w:World)(p:s.size<=4294967296)(q:n<=9223372036854775807):
  xP prog 195 #[.string s,.int .i64 n] w (.string (QL (Qa s / 2^n.toNat))):=by
 have b1:nd 64 (Qa s)<=1073741824:=x8 (De s);have t:=gy n;have a:n.toNat<=9223372036854775807:=x3;obtain⟨m,c⟩:∃m,m=n.toNat:=⟨_,rfl⟩
 rw[<- c]at t a ⊢;clear c q;have C:nd 64 (Qa s / 2^m)<=nd 64 (Qa s):=AY x4 (Rn _ _);go_enter func195,ntmps195
 go_wp2_with fail
 refine(KV s w p).mono ?_
 rintro e l ⟨g,N,rfl,D,i,E,u,F,v⟩;by_cases d:m / 64<nd 64 (Qa s)
 ·have hd:=x0f (Of _ _ _ (Qa s) m l x3 u a d (YV _) v);clear d;go_wp2_with fail
  refine hd.out.mono ?_
  rintro e x ⟨G,H,rfl,y,j,k,z,f⟩;go_wp2_with fail
  refine(Ch _ _ _ _ x3 f (Cel.rd0 k f)).mono ?_
  rintro e A ⟨rfl,b⟩;go_wp2
  go_ret
  have o:=QW i j i.size;exact⟨rfl,QW o b o.size⟩
 ·have hd:=x0f (UR (some ⟨g,0,none⟩) _ N (Qa s) m l x3 a (Sx d));have B:=x0f (Ed (YV (Qa s)) (Sx d));clear d;go_wp2_with fail
  refine hd.out.mono ?_
  rintro e x ⟨rfl,rfl⟩;go_wp2_with fail
  refine(Ch none 0 0 _ x4 x4 Rd.nil_).mono ?_
  rintro e A ⟨rfl,b⟩;go_wp2
  go_ret
  exact⟨by rw[B.out];rfl,QW i b i.size⟩
def oz(A:Option Addr)(n c:Nat)(a:Nat->ByteArray)(w:World)(hn:n<=268435456)(F:∀j,(a j).size<=1073741824)(G:Rd w A n λj=>.string (a j)):
  xP prog 288 #[.slice A n c] w (.string (QL (Gb (λj=>Qa (a j)) n))):=by
 have HS:=x0f F;have q:∀M k,M=134217728->nd 64 (Gb (λj=>Qa (a j)) k)<=M+k:=λM k H=>MG (az (M:=M) (λj=>by
  have U:=De (a j);have W:=F j;exact L9 (YV _) (Lh QF x3)) k)
 have HB:=x0f (show ∀k,nd 64 (Gb (λj=>Qa (a j)) k)<=134217728+k from λk=>q _ k rfl);clear q;clear F;go_enter func288,ntmps288
 go_wp2
 go_loopw [3,9] (λv i wr=>∃(k:Nat) (r:Option Addr) (s:Nat),k<=n/\i=.int .i64 k/\v=.slice r (nd 64 (Gb (λj=>Qa (a j)) k)) s/\nd 64 (Gb (λj=>Qa (a j)) k)<=s/\Below w.heap.size w wr/\Rd wr r (nd 64 (Gb (λj=>Qa (a j)) k)) (Q7 (Gb (λj=>Qa (a j)) k))) (λ_ i _=>n-(intOf i).toNat)
 case atStart=>exact⟨0,none,0,L7 _,rfl,rfl,L7 _,p5 _ _,Rd.nil_⟩
 case round =>
  obtain⟨k,r,s,hk,rfl,rfl,t,d,u⟩:=hrel;have ad:=HB.out k;have f:=YV (Gb (λj=>Qa (a j)) k);generalize X:Gb (λj=>Qa (a j)) k=V at *;have Y:=x0f X;have Z:=x0f f;clear X f;by_cases x:k<n
  ·obtain⟨b,off,rfl,y⟩:=G x3;have g1:wr.cell? ⟨b,off+k,none⟩=some (.string (a k)):=Lj d (y k x);have ag:=HS.out k;have ao:=De (a k);clear y;go_wp2_with fail
   refine(KV (a k) _ x3).mono ?_
   rintro e w1 ⟨g,N,rfl,hg,hb,hC,U,W,hr⟩;have I:=u.below hb;obtain⟨M,H⟩:∃M,M=max (nd 64 V) (nd 64 (Qa (a k)))+1:=⟨_,rfl⟩
   have cc:=x0f (CN r (nd 64 V) s V (max (nd 64 V:Int) (nd 64 (Qa (a k)):Int)+1) M w1 x3 t x3 x3 x3 Z.out I);have aw:nd 64 V<=M:=x3;have J:M<=4294967296:=x3;have l:V+Qa (a k)<LB^M:=by
    have U:=Z.out;have W:=YV (Qa (a k));have h3:LB^nd 64 V<=LB^max (nd 64 V) (nd 64 (Qa (a k))):=Lh QF x3;have h4:LB^nd 64 (Qa (a k))<=LB^max (nd 64 V) (nd 64 (Qa (a k))):=Lh QF x3;rw[H,R8];have h5:LB^max (nd 64 V) (nd 64 (Qa (a k)))*2<=LB^max (nd 64 V) (nd 64 (Qa (a k)))*LB:=Rb _ x4;omega
   have z:=x0f l;clear H l;go_wp2_with fail
   refine cc.out.mono ?_
   rintro e w2 ⟨E,rfl,K,B,L⟩;have aB:=hC.lt;have O:Cel w2 E 179 M (CT 0 M (Q7 V) (Q7 V)):=L.congr λj _=>by
    have:=B5 0 M (Q7 V) j;simp only[Lm]at this;exact this.symm
   go_wp2_with fail
   refine(sK E 0 M M M _ N V (Qa (a k)) _ _ w2 J x3 O x3 (YV _) (hr.below B) (Off.some_ x3)).mono ?_
   rintro e w3 ⟨rfl,P,Q⟩;have C:Rd w3 (some ⟨E,0,none⟩) M (Q7 (V+Qa (a k))):=(Q.rd (o:=0) (n:=M) x3).congr λj hj=>FI hj
   go_wp2_with fail
   refine(XV _ M M (V+Qa (a k)) w3 x3 (L4 _) z.out C).mono ?_
   rintro e w4 ⟨rfl,rfl⟩;go_wp2
   have h6:nd 64 (V+Qa (a k))<=M:=MG z.out;have m:Gb (λj=>Qa (a j)) (k+1)=V+Qa (a k):=by show Gb _ k+_=_;rw[Y.out]
   have p:=QW d hb d.size;have D:=QW p B p.size;have R:=Zu D P D.size (L6 p.size K);exact⟨⟨k+1,some ⟨E,0,none⟩,M,x,by go_num,by rw[m],by rw[m];exact h6,R,by rw[m];exact C.of_le h6⟩,by simp[intOf];omega⟩
  ·obtain rfl:k=n:=x3;have S:=x0f (Ch r s V wr x3 t u);go_wp2_with fail
   refine S.out.mono ?_
   rintro e w5 ⟨rfl,T⟩;go_wp2
   go_ret
   exact⟨by rw[Y.out];rfl,QW d T d.size⟩
def Eb{q a b:Nat}(h:Yr<=q\/a<b):(4294967296:Int)<=(q:Int)\/(¬(4294967296:Int)<=(q:Int)/\(a:Int)<(b:Int)):=by
 grind[Zt]
theorem bS(a y:Nat)(w:World)(hy:0<y)(b:a<LB)(_hy2:y<LB):
  Calls prog 263 #[.int .u64 0,.int .u64 (a:Nat),.int .u64 (y:Nat)] w λe c=>e=.returned (.tuple #[.int .u64 ((a / y:Nat):Int),.int .u64 ((a % y:Nat):Int)])/\∃k,c=w.drewN k:=by
 have g:((y:Int)==0)=false:=Lp.2 x3;have i:¬(y:Int)<=0:=x3;have d:=x0f b;clear b;go_enter func263,ntmps263
 go_wp2
 go_quiet (fail)
 go_wp2
 have e:IntKind.u64.wrap ((a:Int) / (y:Int))=((a / y:Nat):Int):=by
  rw[<- Vd,b7];have j:=Rn a y;have f:=d.out;rw[Jo]at f;generalize a / y=q at *;omega
 rw[e];go_ret2
 exact⟨by rw[Int.natCast_emod];rfl,_,rfl⟩
def jz(hi G y:Nat)(w:World)(hy:9223372036854775808<=y)(x:y<LB)(hh:hi<y)(K:G<LB)(h0:0<hi):
  Calls prog 263 #[.int .u64 (hi:Nat),.int .u64 (G:Nat),.int .u64 (y:Nat)] w λe w'=>e=.returned (.tuple #[.int .u64 (((hi*LB+G) / y:Nat):Int),.int .u64 (((hi*LB+G) % y:Nat):Int)])/\∃k,w'=w.drewN k:=by
 have ao:=Tryz.bits_LeadingZeros64 y w x3 (by rw[Jo]at x;omega);rw[Sm,I4 hy x]at ao;have bs:=x0f ao;have e1:((y:Int)==0)=false:=Lp.2 x3;have e2:¬(y:Int)<=hi:=x3;have e3:((hi:Int)==0)=false:=Lp.2 x3;have cj:IntKind.u64.wrap (y:Int)=(y:Int):=by rw[b7];rw[Jo]at x;omega
 have ck:IntKind.u64.wrap (hi:Int)=(hi:Int):=by rw[b7];rw[Jo]at x;omega
 have cl:IntKind.u64.wrap (G:Int)=(G:Int):=by rw[b7];rw[Jo]at K;omega
 obtain⟨d,bu⟩:∃d,d=y / 4294967296:=⟨_,rfl⟩
 obtain⟨D,o⟩:∃D,D=y % 4294967296:=⟨_,rfl⟩
 obtain⟨A,bv⟩:∃A,A=G / 4294967296:=⟨_,rfl⟩
 obtain⟨E,bl⟩:∃E,E=G % 4294967296:=⟨_,rfl⟩
 have f1:(y:Int) / 4294967296=(d:Int):=x3;have f2:bits .and .u64 (y:Int) 4294967295=(D:Int):=by
  have:=u64_and_nat y 4294967295 x x4;rw[show 4294967295=2^32-1 from rfl,Nat.and_two_pow_sub_one_eq_mod]at this;rw[o];exact this
 have f3:(G:Int) / 4294967296=(A:Int):=x3;have f4:bits .and .u64 (G:Int) 4294967295=(E:Int):=by
  have:=u64_and_nat G 4294967295 K x4;rw[show 4294967295=2^32-1 from rfl,Nat.and_two_pow_sub_one_eq_mod]at this;rw[bl];exact this
 have f5:(G:Int) / 18446744073709551616=0:=by rw[Jo]at K;omega
 have f6:bits .or .u64 (hi:Int) 0=(hi:Int):=by
  have:=u64_or_nat hi 0 (by rw[Jo]at x;omega) x4;rw[Nat.or_zero]at this;exact this
 have b1:2147483648<=d:=x3;have b2:d<4294967296:=by rw[Jo]at x;omega
 have b3:D<4294967296:=x3;have b4:A<4294967296:=by rw[Jo]at K;omega
 have t:E<4294967296:=x3;have HB:=x0f (show(2147483648<=d/\d<4294967296)/\D<4294967296/\A<4294967296/\E<4294967296 from⟨⟨b1,b2⟩,b3,b4,t⟩);have b0:0<d:=x3;clear b1 b2 b3 b4 t;have s:=x0f (show y=d*Yr+D by rw[Zt];omega);have bm:=x0f (show G=A*Yr+E by rw[Zt];omega);clear bu o bv bl;have HY:=x0f hy;have V:=x0f x;have cm:=x0f K;have HH:=x0f hh;clear ao hy x K hh;go_enter func263,ntmps263
 go_wp2_with fail
 refine bs.out.mono ?_
 rintro e w' ⟨rfl,rfl⟩;let⟨⟨b1,b2⟩,b3,b4,t⟩:=HB.out;obtain⟨qa,aw⟩:∃q,q=hi / d:=⟨_,rfl⟩
 obtain⟨ra,bn⟩:∃r,r=hi % d:=⟨_,rfl⟩
 have c:hi<d*Yr+D:=by rw[<- s.out];exact HH.out
 have L:=Ha hi A b1 b2 b3 c b4;rw[<- aw,<- bn]at L;have f7:IntKind.u64.wrap ((hi:Int) / (d:Int))=(qa:Int):=by
  have h1:=L.qle;rw[Zt]at h1;rw[<- Vd,<- aw,b7];omega
 have f8:IntKind.u64.wrap ((hi:Int)-IntKind.u64.wrap ((qa:Int)*(d:Int)))=(ra:Int):=by
  have h1:=L.eq;have h2:=L.rlt;have h3:=HH.out;have h4:=V.out;rw[<- Ty];rw[Zt]at h2;rw[Jo]at h4;generalize qa*d=p at *;simp only[b7];omega
 have HG:=x0f L;clear aw bn L c b1 b2 b3 b4 t;go_upto_block 0 with fail
 go_cut [15,16] (λa b wx=>a=.int .u64 (((hi*Yr+A) / y:Nat):Int)/\wx=w')
 case first =>
  go_wp2
  go_loop [15,16] (λa b=>∃q r:Nat,a=.int .u64 (q:Int)/\b=.int .u64 (r:Int)/\Guess hi A d D q r) (λa _=>(intOf a).toNat)
  case atStart=>exact⟨qa,ra,rfl,rfl,HG.out⟩
  case round =>
   obtain⟨q,r,rfl,rfl,F⟩:=hrel;let⟨⟨b1,b2⟩,b3,b4,t⟩:=HB.out;let⟨k1,X,Y,v,P⟩:=Hb F b2 b3 b4;have c:hi<d*Yr+D:=by rw[<- s.out];exact HH.out
   have B:0<d*Yr+D:=by rw[<- s.out];have:=HY.out;omega
   obtain⟨M,f⟩:∃M,M=r+d:=⟨_,rfl⟩
   obtain⟨s1,j⟩:∃s1,s1=Yr*r:=⟨_,rfl⟩
   obtain⟨S,g⟩:∃S,S=Yr*r+A:=⟨_,rfl⟩
   obtain⟨p,N⟩:∃p,p=q-1:=⟨_,rfl⟩
   obtain⟨m,H⟩:∃m,m=q*D:=⟨_,rfl⟩
   rw[<- f]at k1;rw[<- j]at X;rw[<- g,<- j]at Y;rw[<- H]at v;rw[<- N]at P;by_cases l:Yr<=q\/Yr*r+A<q*D
   ·have C:=D6 F b3 c b4 l;have k6:=P C.1;have bX:p<q:=x8 C.1;by_cases O:r+d<Yr
    ·have i:=Mk F b3 c b4 l O;rw[<- N,<- f]at i;have I:=x0f i;have aB:¬(4294967296:Int)<=(M:Int):=by rw[f];rw[Zt]at O;omega
     have n:(4294967296:Int)<=(q:Int)\/(¬(4294967296:Int)<=(q:Int)/\(S:Int)<(m:Int)):=by rw[g,H];exact Eb l
     clear i l O C P f j g N H c B F b1 b2 b3 b4 t;rcases n with W|⟨W,h6⟩
     ·clear v;go_wp2
      exact⟨⟨p,M,rfl,rfl,I.out⟩,by simp[intOf];omega⟩
     ·have k7:=v x3;clear v;go_wp2
      exact⟨⟨p,M,rfl,rfl,I.out⟩,by simp[intOf];omega⟩
    ·have i:=Ot F b3 c b4 l (Sx O);rw[<- N]at i;rw[<- s.out]at i;have I:=x0f i;have aB:(4294967296:Int)<=(M:Int):=by rw[f];rw[Zt]at O;omega
     have n:(4294967296:Int)<=(q:Int)\/(¬(4294967296:Int)<=(q:Int)/\(S:Int)<(m:Int)):=by rw[g,H];exact Eb l
     clear i l O C P f j g N H c B F b1 b2 b3 b4 t;rcases n with W|⟨W,h6⟩
     ·clear v;go_wp2
      go_meet
      exact⟨by rw[I.out],rfl⟩
     ·have k7:=v x3;clear v;go_wp2
      go_meet
      exact⟨by rw[I.out],rfl⟩
   ·have W:¬(4294967296:Int)<=(q:Int):=by intro h;exact l (Or.inl (by rw[Zt];omega))
    have h6:¬(S:Int)<(m:Int):=by rw[g,H];intro h;exact l (Or.inr x3)
    have i:=Mj F B (Sx λh=>l (Or.inr h));rw[<- s.out]at i;have I:=x0f i;have k7:=v x3;clear i l P v f j g N H c B F b1 b2 b3 b4 t;go_wp2
    go_meet
    exact⟨by rw[I.out],rfl⟩
 case rest =>
  obtain⟨rfl,rfl⟩:=hcut;let⟨⟨b1,b2⟩,b3,b4,t⟩:=HB.out;have o:0<y:=x8 HY.out;have f9:=OW hi A y rfl o V.out;have J:=Re (hi*Yr+A) o;have bc:=(Tc (hi*Yr+A) y).symm;have bd:=eF hi A E y o;obtain⟨Q,hQ⟩:∃Q,Q=(hi*Yr+A) / y:=⟨_,rfl⟩
  obtain⟨R,hR⟩:∃R,R=(hi*Yr+A) % y:=⟨_,rfl⟩
  rw[<- hQ,<- hR]at f9;rw[<- hR]at J;rw[<- hQ,<- hR]at bd;rw[<- hQ,<- hR]at bc;have bY:=x0f bc;clear bc;rw[<- hQ];have Z:Q<4294967296:=by
   rw[hQ,Lr o];have h1:=HH.out;rw[Zt];omega
  have ca:=x0f Z;have cb:=x0f bd;have c:R<d*Yr+D:=by rw[<- s.out];exact J
  have L:=Ha R E b1 b2 b3 c t;obtain⟨qb,bi⟩:∃q,q=R / d:=⟨_,rfl⟩
  obtain⟨rb,bp⟩:∃r,r=R % d:=⟨_,rfl⟩
  rw[<- bi,<- bp]at L;have g7:IntKind.u64.wrap ((R:Int) / (d:Int))=(qb:Int):=by
   have h1:=L.qle;rw[Zt]at h1;rw[<- Vd,<- bi,b7];omega
  have g8:IntKind.u64.wrap ((R:Int)-IntKind.u64.wrap ((qb:Int)*(d:Int)))=(rb:Int):=by
   have h1:=L.eq;have h2:=L.rlt;have h4:=V.out;rw[<- Ty];rw[Zt]at h2;rw[Jo]at h4;generalize qb*d=p at *;simp only[b7];omega
  have cc:=x0f L;have ad:=x0f J;clear HG f7 f8 bi bp L c bd hQ hR J Z b1 b2 b3 b4 t;go_upto_block 2 with fail
  go_cut [16,18] (λb a wx=>a=.int .u64 (((R*Yr+E) / y:Nat):Int)/\wx=wc)
  case first =>
   go_wp2
   go_loop [16,18] (λb a=>∃q r:Nat,a=.int .u64 (q:Int)/\b=.int .u64 (r:Int)/\Guess R E d D q r) (λ_ a=>(intOf a).toNat)
   case atStart=>exact⟨qb,rb,rfl,rfl,cc.out⟩
   case round =>
    obtain⟨q,r,rfl,rfl,F⟩:=hrel;let⟨⟨b1,b2⟩,b3,b4,t⟩:=HB.out;let⟨k1,X,Y,v,P⟩:=Hb F b2 b3 t;have c:R<d*Yr+D:=by rw[<- s.out];exact ad.out
    have B:0<d*Yr+D:=by rw[<- s.out];have:=HY.out;omega
    obtain⟨M,f⟩:∃M,M=r+d:=⟨_,rfl⟩
    obtain⟨s1,j⟩:∃s1,s1=Yr*r:=⟨_,rfl⟩
    obtain⟨S,g⟩:∃S,S=Yr*r+E:=⟨_,rfl⟩
    obtain⟨p,N⟩:∃p,p=q-1:=⟨_,rfl⟩
    obtain⟨m,H⟩:∃m,m=q*D:=⟨_,rfl⟩
    rw[<- f]at k1;rw[<- j]at X;rw[<- g,<- j]at Y;rw[<- H]at v;rw[<- N]at P;by_cases l:Yr<=q\/Yr*r+E<q*D
    ·have C:=D6 F b3 c t l;have k6:=P C.1;have bX:p<q:=x8 C.1;by_cases O:r+d<Yr
     ·have i:=Mk F b3 c t l O;rw[<- N,<- f]at i;have I:=x0f i;have aB:¬(4294967296:Int)<=(M:Int):=by rw[f];rw[Zt]at O;omega
      have n:(4294967296:Int)<=(q:Int)\/(¬(4294967296:Int)<=(q:Int)/\(S:Int)<(m:Int)):=by rw[g,H];exact Eb l
      clear i l O C P f j g N H c B F b1 b2 b3 b4 t;rcases n with W|⟨W,h6⟩
      ·clear v;go_wp2
       exact⟨⟨p,M,rfl,rfl,I.out⟩,by simp[intOf];omega⟩
      ·have k7:=v x3;clear v;go_wp2
       exact⟨⟨p,M,rfl,rfl,I.out⟩,by simp[intOf];omega⟩
     ·have i:=Ot F b3 c t l (Sx O);rw[<- N]at i;rw[<- s.out]at i;have I:=x0f i;have aB:(4294967296:Int)<=(M:Int):=by rw[f];rw[Zt]at O;omega
      have n:(4294967296:Int)<=(q:Int)\/(¬(4294967296:Int)<=(q:Int)/\(S:Int)<(m:Int)):=by rw[g,H];exact Eb l
      clear i l O C P f j g N H c B F b1 b2 b3 b4 t;rcases n with W|⟨W,h6⟩
      ·clear v;go_wp2
       go_meet
       exact⟨by rw[I.out],rfl⟩
      ·have k7:=v x3;clear v;go_wp2
       go_meet
       exact⟨by rw[I.out],rfl⟩
    ·have W:¬(4294967296:Int)<=(q:Int):=by intro h;exact l (Or.inl (by rw[Zt];omega))
     have h6:¬(S:Int)<(m:Int):=by rw[g,H];intro h;exact l (Or.inr x3)
     have i:=Mj F B (Sx λh=>l (Or.inr h));rw[<- s.out]at i;have I:=x0f i;have k7:=v x3;clear i l P v f j g N H c B F b1 b2 b3 b4 t;go_wp2
     go_meet
     exact⟨by rw[I.out],rfl⟩
  case rest =>
   obtain⟨rfl,rfl⟩:=hcut;have o:0<y:=x8 HY.out;obtain⟨q0,T⟩:∃q0,q0=(R*Yr+E) / y:=⟨_,rfl⟩
   have bq:q0<4294967296:=by
    rw[T,Lr o];have h1:=ad.out;let⟨⟨b1,b2⟩,b3,b4,t⟩:=HB.out;rw[Zt];omega
   have cd:=ca.out;have k1:IntKind.u64.wrap ((Q:Int)*4294967296)=((Q*Yr:Nat):Int):=by rw[b7,Zt];omega
   have X:IntKind.u64.wrap (((Q*Yr:Nat):Int)+(q0:Int))=((Q*Yr+q0:Nat):Int):=by rw[b7];simp only[Zt];omega
   have e:(hi*Yr+A)*Yr+E=hi*LB+(A*Yr+E):=by rw[Jo];simp only[Zt];omega
   have U:Q*Yr+q0=(hi*LB+G) / y:=by
    rw[T,cb.out,bm.out,e]
   have Y:=OW R E y T o V.out;have ag:(R*Yr+E) % y=(hi*LB+G) % y:=by
    rw[bm.out,<- e,bY.out,S8,Sf,R9,Nat.mul_add_mod]
   rw[ag]at Y;rw[<- T];obtain⟨z,hz⟩:∃z,z=Q*Yr:=⟨_,rfl⟩
   obtain⟨rr,bk⟩:∃rr,rr=(hi*LB+G) % y:=⟨_,rfl⟩
   rw[<- hz]at k1 X U;rw[U]at X;rw[<- bk]at Y;have cf:=x0f bk;have v:(rr:Int) / 2^0=(rr:Int):=x6;have HF:=x0f X;have ch:=x0f Y;clear T bq cd hz U X e ag bk Y;go_wp2
   rw[HF.out,ch.out];go_ret2
   exact⟨by rw[<- cf.out];rfl,0,rfl⟩
def jA(a b y:Nat)(w:xH)(g:9223372036854775808<=y)(c:y<LB)(h:a<y)(d:b<LB):
  Calls prog 263 #[.int .u64 (a:Nat),.int .u64 (b:Nat),.int .u64 (y:Nat)] w λe i=>e=.returned (.tuple #[.int .u64 (((a*LB+b) / y:Nat):Int),.int .u64 (((a*LB+b) % y:Nat):Int)])/\∃k,i=w.drewN k:=by
 rcases T5 a with f|f
 ·subst f
  grind[bS]
 ·exact jz a b y w g c h d f
def nY(D c U:Option Addr)(B C nb l y V P Y q:Nat)(w:World)(bd:nb<=1073741824)(bi:y<=1073741824)(E:y<=V)(hY:Y<LB^nb)(r:0<Y)(hP:P<LB^y)(hr:Rd w c nb (Q7 Y))(F:Rd w U y (Q7 P))(hq:q<LB)(G:P<Y*q):
  Calls prog 265 #[.agg #[.slice D B C,.slice c nb l],.slice U y V,.int .u64 (q:Nat)] w λe w'=>∃g,e=.returned (.tuple #[.int .u64 ((P / Y:Nat):Int),.slice (some ⟨g,0,none⟩) (nb+1) (nb+1)]) /\
   w.heap.size<=g/\Below w.heap.size w w'/\Cel w' g 179 (nb+1) (Q7 (Y*(P / Y))):=by
 have HQ:=x0f (show P / Y<q/\q<LB from⟨by rw[Lr r,Ls];exact G,hq⟩);have O:=x0f hY;have t:=x0f r;have HP:=x0f hP;have W:8*(nb+1)<=281474976710656:=x3;have H:nb+1<=9223372036854775807:=x3;clear hq G hY r hP;go_enter func265,ntmps265
 go_wp2
 have d:Below w.heap.size w (w.alloc (.cells #[.slice D B C,.slice c nb l] 264)):=(p5 _ _).alloc (L4 _) _;have I:(w.alloc (.cells #[.slice D B C,.slice c nb l] 264)).cell? ⟨w.heap.size,1,none⟩=some (.slice c nb l):=by
  rw[World.cell?_alloc_at _ _ _ _ rfl];rfl
 have J:w.heap.size<(w.alloc (.cells #[.slice D B C,.slice c nb l] 264)).heap.size:=x6;generalize w.alloc (.cells #[.slice D B C,.slice c nb l] 264)=Q at *;have K:=hr.below d;have L:=F.below d;clear hr F;go_loopw [2] (λs wr=>∃q:Nat,s=.int .u64 (q:Int)/\Hid (P / Y<q/\q<LB)/\Below Q.heap.size Q wr) (λs _=>(intOf s).toNat)
 case atStart=>exact⟨q,rfl,HQ.out,p5 _ _⟩
 case round =>
  obtain⟨k,rfl,M,n⟩:=hrel;have X:wr.cell? ⟨w.heap.size,1,none⟩=some (.slice c nb l):=(n.cell (p:=⟨w.heap.size,1,none⟩) J).trans I;obtain⟨p,hp⟩:∃p,k=p+1:=⟨k-1,x8 (Lw (L7 _) M.out.1)⟩
  have bk:IntKind.u64.wrap ((k:Int)-1)=(p:Int):=by
   have:=M.out.2;rw[Jo]at this;rw[b7];omega
  have z:=x0f (show P / Y<=p/\p<LB/\p<k from⟨x8 M.out.1,x8 M.out.2,x3⟩);clear hp M;go_wp2_with (at_make;refine Yt rfl (.tmp 14) (.tmp 14) _ rfl 179 (.int .u64 0) 8 ZU GS rfl .i64 .i64 _ _ (nb+1) rfl rfl rfl rfl W H ?_;intro Z ad o aB;have bc:Z.cell? ⟨w.heap.size,1,none⟩=some (.slice c nb l):=(o.cell (p:=⟨w.heap.size,1,none⟩) (L9 J n.size)).trans X)
  have ag:=(K.below n).below o;have bl:=(L.below n).below o;have ao:Cel Z wr.heap.size 179 (nb+1) (CT 0 (nb+1) (Q7 0) (Q7 0)):=ad.congr λj hj=>by
   have:=B5 0 (nb+1) (Q7 0) j;simp only[Lm]at this;rw[this];unfold Q7;rw[Vx];rfl
  have ho:Off c wr.heap.size:=by
   intro a R hb;rcases T5 nb with S|S
   ·have A:=O.out;have h2:=t.out;rw[S,Tx]at A;omega
   ·let⟨b,off,e,hc⟩:=K S;rw[e]at R;injection R with R
    subst R;have:=G7 (hc 0 S);have h3:=n.size;simp at hb this;omega
  go_wp2_with fail
  refine(MT wr.heap.size 0 (nb+1) (nb+1) (nb+1) nb l 0 Y p c _ Z x3 x3 ao x3 z.out.2.1 O.out ag ho).mono ?_
  rintro e w2 ⟨rfl,aw,u⟩;rw[Lm]at u;have v:=u.congr (f':=Q7 (Y*p)) λj hj=>by
   have:=B5 0 (nb+1) (Q7 (Y*p)) j;simp only[Lm]at this;unfold CT at *;rw[if_pos ⟨x3,x3⟩,Nat.sub_zero]
  have f:Y*p<LB^(nb+1):=by
   rw[R8];exact L9 (Rt O.out (Lw (L7 _) z.out.2.1) |> λ_=>Ux O.out z.out.2.1) (L4 _)
  have cc:=x0f (XV (some ⟨wr.heap.size,0,none⟩) (nb+1) (nb+1) (Y*p) w2 H (L4 _) f (Cel.rd0 v (L4 _)));have N:nd 64 (Y*p)<=nb+1:=MG f;clear f u;go_wp2_with fail
  refine cc.out.mono ?_
  rintro e w3 ⟨rfl,rfl⟩;have x:Below Q.heap.size Q w2:=by
   have A:=QW n o n.size;exact Zu A aw A.size n.size
  go_wp2_with fail
  refine(Pw _ U (nd 64 (Y*p)) y _ V (Y*p) P w2 x3 x3 N E (YV _) HP.out (Cel.rd0 v N) (L.below x)).mono ?_
  rintro e w4 ⟨rfl,m,rfl⟩;by_cases i:P<Y*p
  ·have A:¬ Xe (Y*p) P<=0:=x8 (cmpI_gt.2 i);have T:=x0f i;clear i;go_wp2
   refine⟨⟨p,rfl,⟨by rw[Lr t.out,Ls];exact T.out,z.out.2.1⟩,Zk x m⟩,by simp[intOf];exact z.out.2.2⟩
  ·have A:Xe (Y*p) P<=0:=by
    have:¬ 0<Xe (Y*p) P:=λh=>i (cmpI_gt.1 h)
    omega
   have T:=x0f (show p=P / Y from Ra ((Te t.out).2 (by rw[Ls];omega)) z.out.1);clear i;go_wp2
   go_ret2
   refine⟨wr.heap.size,by rw[<- T.out];rfl,L6 d.size n.size,?_,?_⟩
   ·exact Zk (QW d x d.size) m
   ·rw[<- T.out];exact v.drewN m
def jy(r:Option Addr)(g N c nb d T X Y at_:Nat)(w:World)(hN:N<=1073741824)(cA:N<=c)(cB:N<=T)(t:0<nb)(cC:at_+nb<N)(hX:X<Y*LB^(at_+1))(hY:LB^(nb-1)*9223372036854775808<=Y)(K:Y<LB^nb)(hC:Cel w g 179 T (Q7 X))(hr:Rd w r nb (Q7 Y))(ho:Off r g):
  Calls prog 220 #[.agg #[.slice (some ⟨g,0,none⟩) N c,.slice r nb d],.int .i64 (at_:Nat)] w λe w'=>e=.returned (.int .u64 ((X / LB^at_ / Y:Nat):Int)) /\
   w.grownBy w' (some g)/\Cel w' g 179 T (Q7 (X-LB^at_*(Y*(X / LB^at_ / Y)))):=by
 let⟨t1,t2,t3,t4,t5,t6⟩:=kZ t hX hY K;have cD:=hC.lt;have F:=x0f (show(X / LB^at_<Y*LB/\X / LB^at_<LB^(nb+1)/\9223372036854775808<=QG LB Y (nb-1))/\X / LB^at_ / Y<LB/\0<Y from⟨⟨t1,t2,t3⟩,t5,t6⟩);have ca:=x0f t4;have HX:=x0f hX;have HY:=x0f hY;have A:=x0f K;clear t1 t2 t3 t4 t5 t6 hX hY K;go_enter func220,ntmps220
 go_upto_region 1 with fail
 have W:w.grownBy (w.alloc (.cells #[.slice (some ⟨g,0,none⟩) N c,.slice r nb d] 264)) (some g):=grownBy_alloc (World.grownBy.refl _ _) _;have u:(w.alloc (.cells #[.slice (some ⟨g,0,none⟩) N c,.slice r nb d] 264)).cell? ⟨w.heap.size,0,none⟩=some (.slice (some ⟨g,0,none⟩) N c):=by
  rw[World.cell?_alloc_at _ _ _ _ rfl];rfl
 have x:(w.alloc (.cells #[.slice (some ⟨g,0,none⟩) N c,.slice r nb d] 264)).cell? ⟨w.heap.size,1,none⟩=some (.slice r nb d):=by
  rw[World.cell?_alloc_at _ _ _ _ rfl];rfl
 have L:w.heap.size<(w.alloc (.cells #[.slice (some ⟨g,0,none⟩) N c,.slice r nb d] 264)).heap.size:=x6;have B:=hC.alloc (.cells #[.slice (some ⟨g,0,none⟩) N c,.slice r nb d] 264);have M:=hr.alloc (.cells #[.slice (some ⟨g,0,none⟩) N c,.slice r nb d] 264);clear hC hr;generalize w.alloc (.cells #[.slice (some ⟨g,0,none⟩) N c,.slice r nb d] 264)=G at *;obtain⟨b,off,rfl,hc⟩:=M t;have g1:G.cell? ⟨g,at_+nb,none⟩=some (.int .u64 (QG LB X (at_+nb):Nat)):=B.cell x3;have g2:G.cell? ⟨b,off+(nb-1),none⟩=some (.int .u64 (QG LB Y (nb-1):Nat)):=hc (nb-1) x3;have g3:G.cell? ⟨g,at_+nb-1,none⟩=some (.int .u64 (QG LB X (at_+nb-1):Nat)):=B.cell x3;have ct:1<=nb:=t;clear hc;go_upto_if 27 with fail
 go_cut [7] (λs wx=>∃q:Nat,s=.int .u64 (q:Int)/\X / LB^at_ / Y<=q/\q<LB/\∃k,wx=G.drewN k)
 case first =>
  by_cases C:QG LB X (at_+nb)<QG LB Y (nb-1)
  ·have hd:=x0f (jA (QG LB X (at_+nb)) (QG LB X (at_+nb-1)) (QG LB Y (nb-1)) · F.out.1.2.2 (YO QF _ _) C (YO QF _ _));have HL:=x0f (ca.out C);have Z:((QG LB X (at_+nb):Nat):Int)<((QG LB Y (nb-1):Nat):Int):=x3;clear C;have v1:IntKind.i64.wrap ((at_:Int)+(nb:Int))=(at_:Int)+(nb:Int):=Le _ x3;have v2:IntKind.i64.wrap ((at_:Int)+(nb:Int)-1)=(at_:Int)+(nb:Int)-1:=Le _ x3;have v3:IntKind.i64.wrap ((nb:Int)-1)=(nb:Int)-1:=Le _ x3;have v4:(0:Int)<=(at_:Int)+(nb:Int)-1:=x3;have v5:(at_:Int)+(nb:Int)-1<(N:Int):=x3;have v6:((at_:Int)+(nb:Int)-1).toNat=at_+nb-1:=x3;have v7:(0:Int)<=(nb:Int)-1:=x3;have v8:(nb:Int)-1<(nb:Int):=x3;have v9:((nb:Int)-1).toNat=nb-1:=x3;go_wp2
   go_quiet ((go_at_call 263;exact Calls.quiet_of (hd.out _)))
   go_wp2
   go_meet
   exact⟨_,rfl,HL.out.1,HL.out.2,_,rfl⟩
  ·have Z:¬((QG LB X (at_+nb):Nat):Int)<((QG LB Y (nb-1):Nat):Int):=x3;clear C;go_wp2
   go_meet
   exact⟨18446744073709551615,rfl,Nat.le_sub_one_of_lt F.out.2.1,x4,0,rfl⟩
 case rest =>
  obtain⟨q,rfl,ad,ag,k,rfl⟩:=hcut;have O:=B.drewN k;have ao:=CB W k;have P:(G.drewN k).cell? ⟨w.heap.size,1,none⟩=some (.slice (some ⟨b,off,none⟩) nb d):=x;have aw:(G.drewN k).cell? ⟨w.heap.size,0,none⟩=some (.slice (some ⟨g,0,none⟩) N c):=u;have D:=M.drewN k;have y:w.heap.size<(G.drewN k).heap.size:=L;have HQ:=x0f (show X / LB^at_ / Y<=q/\q<LB from⟨ad,ag⟩);clear B W u x M L g1 g2 g3 ad ag;generalize G.drewN k=H at *;have cb:8*(nb+1)<=281474976710656:=x3;have aB:nb+1<=9223372036854775807:=x3;have cF:at_<c:=x3;have cu:at_+nb+1<=c:=x3;go_wp2_with (at_make;refine Yt rfl (.tmp 56) (.tmp 56) _ rfl 179 (.int .u64 0) 8 ZU GS rfl .i64 .i64 _ _ (nb+1) rfl rfl rfl rfl cb aB ?_;intro w2 bc z bd;have bi:w2.cell? ⟨w.heap.size,1,none⟩=some (.slice (some ⟨b,off,none⟩) nb d):=(z.cell (p:=⟨w.heap.size,1,none⟩) y).trans P)
  rw[show at_+nb+1-at_=nb+1 by omega];have bk:=D.below z;have bl:Cel w2 H.heap.size 179 (nb+1) (CT 0 (nb+1) (Q7 0) (Q7 0)):=bc.congr λj hj=>by
   have:=B5 0 (nb+1) (Q7 0) j;simp only[Lm]at this;rw[this];unfold Q7;rw[Vx];rfl
  have cw:=O.lt;have L:b<H.heap.size:=by
   let⟨b',cy,e,hc⟩:=D t;injection e with e
   injection e with e1
   have:=G7 (hc 0 t);simp at this;omega
  refine(MT H.heap.size 0 (nb+1) (nb+1) (nb+1) nb d 0 Y q _ _ w2 x3 x3 bl x3 HQ.out.2 A.out bk (Off.some_ x3)).mono ?_
  rintro e f ⟨rfl,bm,Q⟩;rw[Lm]at Q;have E:=Q.congr (f':=Q7 (Y*q)) λj hj=>by
   unfold CT;rw[if_pos ⟨x3,x3⟩,Nat.sub_zero]
  have i:Y*q<LB^(nb+1):=by
   rw[R8];exact Ux A.out HQ.out.2
  have cc:=x0f (XV (some ⟨H.heap.size,0,none⟩) (nb+1) (nb+1) (Y*q) f aB (L4 _) i (Cel.rd0 E (L4 _)));have bn:nd 64 (Y*q)<=nb+1:=MG i;have H5:=x0f i;clear i bl Q;go_wp2_with fail
  refine cc.out.mono ?_
  rintro e w4 ⟨rfl,rfl⟩;have l:Below H.heap.size H f:=Zu z bm z.size (L4 _);have R:Cel f g 179 T (Q7 X):=O.bel l;have S:Rd f (some ⟨g,at_,none⟩) (nb+1) (Q7 (X / LB^at_)):=(R.rd (o:=at_) (n:=nb+1) x3).congr λj _=>by unfold Q7;rw[Vq]
  have bp:=D.below l;have I:f.cell? ⟨w.heap.size,1,none⟩=some (.slice (some ⟨b,off,none⟩) nb d):=(l.cell (p:=⟨w.heap.size,1,none⟩) y).trans P;have J:f.cell? ⟨w.heap.size,0,none⟩=some (.slice (some ⟨g,0,none⟩) N c):=(l.cell (p:=⟨w.heap.size,0,none⟩) y).trans aw;go_wp2_with fail
  refine(Pw _ _ (nd 64 (Y*q)) (nb+1) _ (c-at_) (Y*q) (X / LB^at_) f x3 x3 bn x3 (YV _) F.out.1.2.1 (Cel.rd0 E bn) S).mono ?_
  rintro e w4 ⟨rfl,m,rfl⟩;have cd:w.grownBy (f.drewN m) (some g):=CB (CA ao l) m;have bq:=E.drewN m;have bs:=R.drewN m;have cf:=bp.drewN m;have bu:=S.drewN m;have ch:(f.drewN m).cell? ⟨w.heap.size,1,none⟩=some (.slice (some ⟨b,off,none⟩) nb d):=I;have cj:(f.drewN m).cell? ⟨w.heap.size,0,none⟩=some (.slice (some ⟨g,0,none⟩) N c):=J;have cG:=l.size;have ck:f.heap.size=(f.drewN m).heap.size:=rfl;have cH:H.heap.size<(f.drewN m).heap.size:=bq.lt;clear bc z bd bi bk bm cc R S bp I J E ck O ao P aw D;generalize f.drewN m=w4 at *;go_upto_if 67 with fail
  go_cut [7,9] (λs v wx=>s=.int .u64 ((X / LB^at_ / Y:Nat):Int)/\∃U,v=.slice (some ⟨U,0,none⟩) (nb+1) (nb+1)/\g≠U/\Below w4.heap.size w4 wx/\Cel wx U 179 (nb+1) (Q7 (Y*(X / LB^at_ / Y))))
  case first =>
   by_cases a:X / LB^at_<Y*q
   ·have h1:0<Xe (Y*q) (X / LB^at_):=cmpI_gt.2 a;have cl:=x0f (nY (some ⟨g,0,none⟩) (some ⟨b,off,none⟩) (some ⟨g,at_,none⟩) N c nb d (nb+1) (c-at_) (X / LB^at_) Y q w4 x3 x3 x3 A.out F.out.2.2 F.out.1.2.1 cf bu HQ.out.2 a);clear a;go_wp2_with fail
    refine cl.out.mono ?_
    rintro e w5 ⟨U,rfl,cL,cm,V⟩;go_wp2
    go_meet
    exact⟨rfl,U,rfl,x3,cm,V⟩
   ·have h1:¬ 0<Xe (Y*q) (X / LB^at_):=λh=>a (cmpI_gt.1 h)
    have HE:=x0f (show q=X / LB^at_ / Y from Ra ((Te F.out.2.2).2 (by rw[Ls];omega)) HQ.out.1);clear a;go_wp2
    go_meet
    exact⟨by rw[<- HE.out],H.heap.size,rfl,x3,p5 _ _,by rw[<- HE.out];exact bq⟩
  case rest =>
   obtain⟨rfl,U,rfl,cn,bv,V⟩:=hcut;have bX:X<LB^(at_+nb+1):=by
    have h1:=HX.out;have h2:Y*LB^(at_+1)<=LB^nb*LB^(at_+1):=Lt _ (Sv A.out);rw[<- Lz,show nb+(at_+1)=at_+nb+1 by omega]at h2;exact L9 h1 h2
   have a:Y*(X / LB^at_ / Y)<=X / LB^at_:=Nat.mul_div_le _ _;have bY:Cel wc g 179 T (CT at_ (nb+1) (Q7 (X / LB^at_)) (Q7 X)):=(bs.bel bv).congr λj _=>by
    unfold CT;by_cases h:at_<=j/\j<at_+(nb+1)
    ·rw[if_pos h];unfold Q7;rw[Vq,show at_+(j-at_)=j by omega]
    ·rw[if_neg h]
   have cp:=x0f (aC g at_ (nb+1) (c-at_) T (nb+1) (nb+1) (X / LB^at_) (Y*(X / LB^at_ / Y)) (some ⟨U,0,none⟩) _ wc x3 x3 bY x3 (Lw a F.out.1.2.1) a F.out.1.2.1 (Cel.rd0 V (L4 _)) (Off.some_ (λe=>cn e.symm)));have HR:=x0f (λj=>mz (j:=j) bX a);clear bX a bY;go_wp2_with fail
   refine cp.out.mono ?_
   rintro e w6 ⟨rfl,cq,cr⟩;go_wp2
   go_ret
   refine⟨rfl,Vr (CA cd bv) cq,cr.congr λj _=>?_⟩;unfold CT Q7;rw[HR.out j];split<;>rfl
