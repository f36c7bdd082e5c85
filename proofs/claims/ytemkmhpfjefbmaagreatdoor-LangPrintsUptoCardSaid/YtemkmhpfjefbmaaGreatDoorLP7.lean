/- Laws beneath the statement. -/
import Derived.Test.YtemkmhpfjefbmaaGreatDoorLP4
namespace Go.Proofs.YtemkmhpfjefbmaaGreatDoor
set_option linter.defProp false
open Tryz
set_option maxHeartbeats 4000000
set_option maxRecDepth 100000
open Go.RowKit
def VJ(A:Option Addr)(n c v:Nat)(w:World)(C:n<=9223372036854775807)(u:n<=c)(l:v<2^n)(m:Rd w A n (Xn v)):
  Calls prog 233 #[.slice A n c] w λe x=>e=.returned (.slice A (nd 1 v) c)/\w=x:=by
 have a:v<(2^1)^n:=by rw[Tu];exact l
 go_enter func233,ntmps233
 go_wp2
 go_loop [3] (λs=>∃k:Nat,k<=n/\s=.int .i64 k/\Hid (∀j,k<=j->j<n->QG 2 v j=0)) (λs=>(intOf s).toNat)
 case atStart=>exact⟨n,L4 _,rfl,λj y t=>x3⟩
 case round =>
  obtain⟨k,z,rfl,o⟩:=hrel;by_cases p:k=0
  ·subst p;have d:nd 1 v=0:=MI 1 x4 a (L7 _) o.out x3;have H:=x0f d;clear d m l a;go_wp2
   go_ret
   exact⟨by rw[H.out];rfl,rfl⟩
  ·obtain⟨b,off,rfl,q⟩:=m x3;have f:w.cell? ⟨b,off+(k-1),none⟩=some (.int .u8 (QG 2 v (k-1):Nat)):=q (k-1) x3;have D:=x0f q;clear q;by_cases i:QG 2 v (k-1)=0
   ·have g:((QG 2 v (k-1):Nat):Int)=0:=x3;have B:=x0f i;rw[g]at f;clear i g l m a;have r:1<=k:=x3;go_wp2
    refine⟨⟨k-1,x3,by go_num,λj y t=>?_⟩,by simp[intOf];omega⟩;by_cases e:j=k-1
    ·subst e;exact B.out
    ·exact o.out j x3 t
   ·have g:(((QG 2 v (k-1):Nat):Int)==0)=false:=l3 i;have d:nd 1 v=k:=MI 1 x4 a z o.out (λ_=>i);have H:=x0f d;have r:1<=k:=x3;clear d m l i a;go_wp2
    go_ret
    exact⟨by rw[H.out];rfl,rfl⟩
def ZW(A:Option Addr)(n c v i:Nat)(w:World)(k:n<=9223372036854775807)(hi:i<=9223372036854775807)(a:v<2^n)(d:Rd w A n (Xn v)):
  Calls prog 274 #[.slice A n c,.int .i64 (i:Nat)] w λe j=>e=.returned (.int .u8 (QG 2 v i:Nat))/\w=j:=by
 by_cases h:i<n
 ·obtain⟨b,off,rfl,g⟩:=d x3;have f:w.cell? ⟨b,off+i,none⟩=some (.int .u8 (QG 2 v i:Nat)):=g i h;clear g d a;go_enter func274,ntmps274
  go_wp2
  go_ret
  exact⟨rfl,rfl⟩
 ·have H:=x0f (show QG 2 v i=0 from ZH x4 a x3);clear a d;go_enter func274,ntmps274
  go_wp2
  go_ret
  exact⟨by rw[H.out];rfl,rfl⟩
def NH{d r:Nat}(a:d<2)(b:r<8):IntKind.u8.wrap ((d:Int)*2^r)=((d*2^r:Nat):Int):=by
 have c:2^r<=128:=Nat.pow_le_pow_right (n:=2) x4 (show r<=7 by omega);have e:d*2^r<=1*2^r:=Lt _ x3;refine VZ ?_ x3;rw[Ty,Int.natCast_pow];rfl
def XP(A:Option Addr)(n c v:Nat)(w:World)(hn:n<=4294967296)(B:n<=c)(C:v<2^n)(U:Rd w A n (Xn v)):
  xP prog 174 #[.slice A n c] w (.string (QL v)):=by
 have W:nd 1 v<=n:=Xf x4 (by rw[Tu];exact C);have X:=x0f (VJ A n c v w x3 B C U);have s:=U.of_le W;have f:=B9 1 x4 v;rw[Tu]at f;have z:=oG v;obtain⟨L,Y⟩:∃L,L=nd 1 v:=⟨_,rfl⟩
 obtain⟨N,E⟩:∃N,N=nd 8 v:=⟨_,rfl⟩
 rw[<- Y]at X s z W f;rw[<- E]at z;have Z:=x0f (show((L:Int)+7) / 8=(N:Int)by omega);have HE:=x0f z;have ad:((L:Int)+7) / 8<=(N:Int):=x3;have ag:(N:Int)<=((L:Int)+7) / 8:=x3;have F:1*N<=281474976710656:=x3;have G:N<=9223372036854775807:=x3;have HN:=x0f E;have HV:=x0f f;clear E z C Y f;go_enter func174,ntmps174
 go_wp2_with fail
 refine X.out.mono ?_
 rintro e V ⟨rfl,rfl⟩;go_wp2_with (at_make;refine Yt rfl (.tmp 10) (.tmp 10) _ rfl 5 (.int .u8 0) 1 Ho uh rfl .i64 .i64 _ _ N rfl rfl Z.out Z.out F G ?_;intro w1 hC hB m)
 go_loopw [4] (λi wr=>∃k:Nat,k<=L/\i=.int .i64 k/\Below w.heap.size w wr/\Cel wr w.heap.size 5 N (λj=>.int .u8 ((QG 256 (v % 2^k) (N-1-j):Nat):Int))) (λi _=>L-(intOf i).toNat)
 case atStart=>exact⟨0,L7 _,rfl,hB,hC.congr λj H=>by rw[Tx,V0,Vx];rfl⟩
 case round =>
  obtain⟨k,ao,rfl,g,a⟩:=hrel;by_cases m:k<L
  ·obtain⟨q,I⟩:∃q,q=k / 8:=⟨_,rfl⟩
   obtain⟨r,t⟩:∃r,r=k % 8:=⟨_,rfl⟩
   obtain⟨b,off,rfl,hc⟩:=s x3;have g1:wr.cell? ⟨b,off+k,none⟩=some (.int .u8 (QG 2 v k:Nat)):=Lj g (hc k m);have aw:q+1<=N:=x8 HE.out;obtain⟨D,hD⟩:∃D,D=N-1-q:=⟨_,rfl⟩
   have J:D<N:=x3;have K:=a.cell (i:=D) J;have g3:=a.frozen D;have l:QG 2 v k<2:=YO x4 v k;have e2:(k:Int) / 8=(q:Int):=x3;have aB:(k:Int).tdiv 8=(q:Int):=by rw[Int.tdiv_eq_ediv_of_nonneg x3];exact e2
   have e3:(k:Int) % 8=(r:Int):=x3;have bc:(k:Int).tmod 8=(r:Int):=by rw[L3 x3];exact e3
   have M:r<8:=x3;have w1:IntKind.i64.wrap (q:Int)=(q:Int):=Le _ x3;have w2:IntKind.i64.wrap (r:Int)=(r:Int):=Le _ x3;have w3:IntKind.i64.wrap ((N:Int)-1)=(N:Int)-1:=Le _ x3;have w5:(N:Int)-1-q=(D:Int):=x3;have w4:IntKind.i64.wrap (D:Int)=(D:Int):=Le _ x3;have O:N-1-D=q:=x3;rw[O]at K;have p:=Ug v k;have bd:=NH l M;have Q:IntKind.u8.wrap (((QG 256 (v % 2^k) q:Nat):Int)+((QG 2 v k*2^r:Nat):Int))=((QG 256 (v % 2^(k+1)) q:Nat):Int) :=
    VZ (by rw[p q,if_pos I,<- t];omega) (YO x4 _ _)
   have HQ:=x0f (show k=8*q+r by omega);have H3:=x0f (show(((QG 256 (v % 2^k) q:Nat):Int)+((QG 2 v k:Nat):Int)*2^r) % 256=((QG 256 (v % 2^(k+1)) q:Nat):Int)by
    rw[<- Q,Ty,Int.natCast_pow];simp[IntKind.wrap,IntKind.signed,IntKind.bits])
   have HS:=x0f p;have R:=x0f I;have HD:=x0f hD;have u:=x0f O;clear I t hc p O l hD;go_wp2
   go_still_tail 18,x5
   change wpList _ _ _ _ _ wr.drew;have S:=g.drew;have d:=a.drew;have bi:wr.drew.cell? _=_:=g1;have bk:wr.drew.cell? _=_:=K;have bl:=d.frozen D;clear g a g1 K g3;generalize wr.drew=w9 at *;go_wp2
   refine⟨⟨k+1,m,by go_num,S.setCell (L4 _) _,(d.set_ D _).congr λj H=>?_⟩,by simp[intOf];omega⟩;by_cases e:j=D
   ·subst e;simp only[if_true];rw[u.out];exact Lu _ H3.out
   ·simp only[if_neg e];rw[HS.out,if_neg (by rw[<- R.out];have:=u.out;omega)]
  ·obtain rfl:k=L:=x3;have d:=a.congr (f':=λj=>.int .u8 ((QG 256 v (N-1-j):Nat):Int)) (λj H=>by rw[Rc HV.out]);have x:=(d.rd (o:=0) (n:=N) x3).congr (f':=λj=>.int .u8 ((QG 256 v (N-1-j):Nat):Int)) (λj H=>by simp only[Lm]);have T:=EQ (P:=prog) 81 9 5 Ho Tryz.underlying5 Tryz.underlying9 (some ⟨w.heap.size,0,none⟩) N N (λj=>QG 256 v (N-1-j)) x;have y:(⟨((List.range N).map λj=>UInt8.ofNat (QG 256 v (N-1-j))).toArray⟩:ByteArray)=QL v:=by unfold QL VX;rw[<- HN.out]
   rw[y]at T;clear y x a d;go_wp2
   go_ret
   exact⟨rfl,g⟩
def Xy(s:xM):nd 1 (Qa s)<=8*s.size:=by
 refine Xf x4 ?_
 have:=Dk s;rw[Tu];rwa [show 256=2^8 from rfl,<- T1]at this
def Iy(v p k:Nat)(a:k<8):bits .and .u8 (((QG 256 v p:Nat):Int) / 2^k) 1=((QG 2 v (8*p+k):Nat):Int):=by
 rw[show(((QG 256 v p:Nat):Int) / 2^k)=((QG 256 v p / 2^k:Nat):Int)by rw[Vd,Int.natCast_pow];rfl,BL,gB v p k a];exact Lw (Rn _ _) (YO x4 _ _)
def QR(s:ByteArray)(w:World)(J:s.size<=268435456):
  Calls prog 228 #[.string s] w λe o=>∃A c,e=.returned (.slice A (nd 1 (Qa s)) c)/\nd 1 (Qa s)<=c/\Rd o A (nd 1 (Qa s)) (Xn (Qa s))/\Below w.heap.size w o:=by
 have d:∀(p:Nat),p<s.size->∀W:World,(Instr.index 9 (.string s) (.int .i64 ((s.size:Int)-1-p))).run prog W=.ok (.int .u8 (QG 256 (Qa s) p:Nat)) W:=λp z W=>by
  rw[Bk s Tryz.underlying9 .i64 _ (s.size-1-p) x3 x3];unfold Qa;rw[Ec _ _ (l3 z)];rfl
 have B:Qa s<2^(8*s.size):=by have:=Dk s;rwa [show 256=2^8 from rfl,<- T1]at this
 have C:=x0f B;have q:=x0f d;clear B d;generalize Qa s=V at *;go_enter func228,ntmps228
 go_wp2
 go_loopw [3,4] (λv i wr=>∃p:Nat,p<=s.size/\i=.int .i64 ((s.size:Int)-1-p)/\OwnR wr w.heap.size 5 v (8*p) (Xn V)/\Below w.heap.size w wr) (λ_ i _=>(intOf i+1).toNat)
 case atStart=>exact⟨0,L7 _,x6,OwnR.nil_ _ _ _ _,p5 _ _⟩
 case round =>
  obtain⟨p,z,rfl,b,D⟩:=hrel;by_cases l:p<s.size
  ·have d:=q.out p l;have r:(p:Int)<=(s.size:Int)-1:=x3;have hd:decide ((p:Int)<=(s.size:Int)-1)=true:=Lk r;go_wp2
   go_loopw [3,5] (λv i wr=>∃k:Nat,k<=8/\i=.int .i64 (k:Nat)/\OwnR wr w.heap.size 5 v (8*p+k) (Xn V)/\Below w.heap.size w wr) (λ_ i _=>8-(intOf i).toNat)
   case atStart=>exact⟨0,L7 _,rfl,b,D⟩
   case round =>
    obtain⟨k,K,rfl,a,f⟩:=hrel;by_cases m:k<8
    ·have E:=Iy V p k m;have t:8*p+k+1<=9223372036854775807:=x3;have u:(8*p+k+1)*1<=140737488355328:=x3;go_wp2_with (at_builtin;refine Ax rfl (.tmp 17) (.tmp 24) _ rfl w.heap.size 5 (.int .u8 0) 1 Ho uh rfl _ (8*p+k) (Xn V) _ rfl rfl a rfl t u f.size ?_;intro L o g x F)
     refine⟨⟨k+1,m,by go_num,g.congr λj M=>?_,f.trans x⟩,by simp[intOf];omega⟩;by_cases e:j=8*p+k
     ·subst e;simp only[if_true];rfl
     ·simp only[if_neg e]
    ·obtain rfl:k=8:=x3;go_wp2
     refine⟨⟨p+1,l,by rw[Int.natCast_succ];go_num,a,f⟩,by simp[intOf];omega⟩
  ·obtain rfl:p=s.size:=x3;obtain⟨A,c,rfl,y,n,G⟩:=b.rd;have H:nd 1 V<=8*s.size:=Xf x4 (by rw[Tu];exact C.out);have I:=x0f (VJ A (8*s.size) c V wr x3 y C.out n);go_wp2_with fail
   refine I.out.mono ?_
   rintro e o ⟨rfl,rfl⟩;go_wp2
   go_ret
   exact⟨A,c,rfl,x3,n.of_le H,D⟩
def VI(A t:Option Addr)(n d c D u v:Nat)(w:World)(P:n<=4294967296)(H:d<=4294967296)(hu:u<2^n)(x:v<2^d)(E:Rd w A n (Xn u))(g:Rd w t d (Xn v)):
    Calls prog 234 #[.slice A n c,.slice t d D] w λe b=>e=.returned (.int .i64 (Xe u v))/\w=b:=by
  obtain⟨K,I⟩:∃K,K=max n d:=⟨_,rfl⟩
  have F:max (n:Int) (d:Int)=(K:Int):=x3;have J:K<=4294967296:=x3;have y:=x0f (show u<2^K from L9 hu (Lh x4 x3));have z:=x0f (show v<2^K from L9 x (Lh x4 x3));have L:=x0f (λi (hi:i<=9223372036854775807)=>ZW A n c u i w x3 hi hu E);have M:=x0f (λi (hi:i<=9223372036854775807)=>ZW t d D v i w x3 hi x g);clear hu x E g I;go_enter func234,ntmps234
  go_wp2
  go_loop [5] (λi=>∃k:Nat,k<=K/\i=.int .i64 ((k:Int)-1)/\Hid (∀j,k<=j->j<K->QG 2 u j=QG 2 v j)) (λi=>(intOf i+1).toNat)
  case atStart=>exact⟨K,L4 _,rfl,λj l f=>x3⟩
  case round =>
    obtain⟨k,m,rfl,s⟩:=hrel;rcases k with _|p
    · have a:=x0f (show Xe u v=0 by
        have e:u=v:=AH (B:=2) (n:=K) y.out z.out (λj N=>s.out j (L7 _) N);subst e;unfold Xe;simp)
      have e0:((0:Nat):Int)-1=-1:=rfl;rw[e0];go_wp2
      go_ret
      exact⟨by rw[a.out];rfl,rfl⟩
    · have e0:((p+1:Nat):Int)-1=(p:Int):=x3
      rw[e0];clear e0;have o:=x0f (L.out p x3);have q:=x0f (M.out p x3);have G:=x0f (show(QG 2 u p<QG 2 v p->Xe u v=-1)/\(QG 2 v p<QG 2 u p->Xe u v=1)from
        ⟨λh=>by have:=j9 (B:=2) x4 y.out z.out m (λj l f=>s.out j l f) h;unfold Xe;rw[if_pos this],
         λh=>by have:=j9 (B:=2) x4 z.out y.out m (λj l f=>(s.out j l f).symm) h;unfold Xe;rw[if_neg x3,if_neg x3]⟩)
      rcases Nat.lt_trichotomy (QG 2 u p) (QG 2 v p)with hd|hd|hd
      · have r:((QG 2 u p:Nat):Int)<((QG 2 v p:Nat):Int):=x3
        have a:=x0f (G.out.1 hd);clear hd;go_wp2_with fail
        refine o.out.mono ?_
        rintro e b ⟨rfl,rfl⟩;go_wp2_with fail
        refine q.out.mono ?_
        rintro e b ⟨rfl,rfl⟩;go_wp2
        go_ret
        exact⟨by rw[a.out];rfl,rfl⟩
      · have r:¬((QG 2 u p:Nat):Int)<((QG 2 v p:Nat):Int):=x3
        have C:¬((QG 2 v p:Nat):Int)<((QG 2 u p:Nat):Int):=x3;have O:=x0f hd;clear hd;go_wp2_with fail
        refine o.out.mono ?_
        rintro e b ⟨rfl,rfl⟩;go_wp2_with fail
        refine q.out.mono ?_
        rintro e b ⟨rfl,rfl⟩;go_wp2_with fail
        refine o.out.mono ?_
        rintro e b ⟨rfl,rfl⟩;go_wp2_with fail
        refine q.out.mono ?_
        rintro e b ⟨rfl,rfl⟩;go_wp2
        refine⟨⟨p,x3,rfl,λj l f=>?_⟩,by simp[intOf]⟩;by_cases e:j=p
        · subst e;exact O.out
        · exact s.out j x3 f
      · have r:¬((QG 2 u p:Nat):Int)<((QG 2 v p:Nat):Int):=x3
        have C:((QG 2 v p:Nat):Int)<((QG 2 u p:Nat):Int):=x3;have a:=x0f (G.out.2 hd);clear hd;go_wp2_with fail
        refine o.out.mono ?_
        rintro e b ⟨rfl,rfl⟩;go_wp2_with fail
        refine q.out.mono ?_
        rintro e b ⟨rfl,rfl⟩;go_wp2_with fail
        refine o.out.mono ?_
        rintro e b ⟨rfl,rfl⟩;go_wp2_with fail
        refine q.out.mono ?_
        rintro e b ⟨rfl,rfl⟩;go_wp2
        go_ret
        exact⟨by rw[a.out];rfl,rfl⟩
def JH(m:Nat)(a:m<256)(x:Int)(b:x=(m:Int)):bits .and .u8 x 1=((m % 2:Nat):Int):=by
 subst b;exact BL m a
def Gx(A M:Option Addr)(n p c U u v up:Nat)(w:World)(hn:n<=4294967296)(ad:p<=4294967296)(ag:up<=4294967296)(hu:u<2^n)(O:v<2^p)(hr:Rd w A n (Xn u))(P:Rd w M p (Xn v)):
  Calls prog 293 #[.slice A n c,.slice M p U,.int .i64 (up:Nat)] w λe y=>∃g N,e=.returned (.slice (some ⟨g,0,none⟩) N N)/\Below w.heap.size w y/\w.heap.size<=g /\
   Rd y (some ⟨g,0,none⟩) N (Xn (u+v*2^up))/\u+v*2^up<2^N/\N=max n (p+up)+1:=by
 obtain⟨K,V⟩:∃K,K=max n (p+up):=⟨_,rfl⟩
 have W:max (n:Int) ((p:Int)+(up:Int))=(K:Int):=x3;have ao:K<=8589934592:=x3;have z:1*(K+1)<=281474976710656:=x3;have C:K+1<=9223372036854775807:=x3;have r:u+v*2^up<2^(K+1):=by
  have h1:u<2^K:=L9 hu (Lh x4 x3);have h2:v*2^up<2^(p+up):=by rw[Lz];exact Rt O (R6 up)
  have h3:2^(p+up)<=2^K:=Lh x4 x3;rw[R8];omega
 have X:=x0f r;have HK:=x0f V;have HU:=x0f hu;have HV:=x0f O;have D:=x0f z;have E:=x0f C;have t:=CV v up;obtain⟨Y,Z⟩:∃Y,Y=v*2^up:=⟨_,rfl⟩
 rw[<- Z]at X t ⊢;have F:=x0f t;clear V r hu O Z z C t;go_enter func293,ntmps293
 go_wp2_with (at_make;refine Yt rfl (.tmp 18) (.tmp 18) _ rfl 5 (.int .u8 0) 1 Ho uh rfl .i64 .i64 _ _ (K+1) rfl rfl rfl rfl D.out E.out ?_;intro w1 hC hB x)
 go_loopw [8,9] (λcy i wr=>∃k:Nat,k<=K+1/\i=.int .i64 (k:Nat)/\cy=.int .u8 (KL 2 u Y k:Nat)/\Below w.heap.size w wr/\Cel wr w.heap.size 5 (K+1) (λj=>if j<k then Xn (u+Y) j else .int .u8 0)) (λ_ i _=>K+1-(intOf i).toNat)
 case atStart=>exact⟨0,L7 _,rfl,by rw[bD];rfl,hB,hC.congr λj _=>by rw[if_neg x3]⟩
 case round =>
  obtain⟨k,hk,rfl,rfl,l,a⟩:=hrel;by_cases x:k<K+1
  ·have d1:=x0f (ZW A n c u k wr x3 x3 HU.out (hr.below l));have d2:=x0f (λ(i:Nat) (hi:i<=9223372036854775807)=>ZW M p U v i wr x3 hi HV.out (P.below l));have G:=x0f l;have g2:wr.cell? ⟨w.heap.size,k,none⟩=some (.int .u8 0):=by rw[a.cell x3,if_neg x3]
   have g3:=a.frozen k;have Q:=x0f (UB (B:=2) x4 u Y k);have HD:=x0f (fH (B:=2) x4 u Y k);have HC:=x0f (bC (B:=2) x4 u Y k);have s:=x0f (a.set_ k (Xn (u+Y) k));have ha:QG 2 u k<2:=YO x4 _ _;have aw:KL 2 u Y k<2:=x8 Q.out;by_cases q:up<=k
   ·obtain⟨m,hm⟩:∃m,k=up+m:=⟨k-up,x3⟩
    have b:=F.out k;rw[if_pos q,show k-up=m by omega]at b;have hb:QG 2 v m<2:=YO x4 _ _;have aB:(k:Int)-(up:Int)=(m:Int):=x3;have H:(up:Int)<=(k:Int):=x3;have R:m<=9223372036854775807:=x3;have d3:=x0f (d2.out m R);have d:=HD.out;have f:=HC.out;rw[b]at d f;have I:bits .and .u8 (((QG 2 u k:Nat):Int)+((KL 2 u Y k:Nat):Int)+((QG 2 v m:Nat):Int)) 1=((QG 2 (u+Y) k:Nat):Int):=by
     rw[d,JH (QG 2 u k+QG 2 v m+KL 2 u Y k) x3 _ x3]
    have S:(((QG 2 u k:Nat):Int)+((KL 2 u Y k:Nat):Int)+((QG 2 v m:Nat):Int)) / 2=((KL 2 u Y (k+1):Nat):Int):=by
     rw[f];omega
    clear d f b hm q a l;go_wp2_with fail
    refine d1.out.mono ?_
    rintro e y ⟨rfl,rfl⟩;go_wp2_with fail
    refine d3.out.mono ?_
    rintro e y ⟨rfl,rfl⟩;go_wp2
    refine⟨⟨k+1,x,by go_num,rfl,G.out.setCell (L4 _) _,s.out.congr λj T=>?_⟩,by simp[intOf];omega⟩;by_cases e:j=k
    ·subst e;simp only[if_true];rw[if_pos x3]
    ·simp only[if_neg e];by_cases J:j<k
     ·rw[if_pos J,if_pos x3]
     ·rw[if_neg J,if_neg x3]
   ·have b:=F.out k;rw[if_neg q]at b;have H:¬(up:Int)<=(k:Int):=x3;have d:=HD.out;have f:=HC.out;rw[b]at d f;have I:bits .and .u8 (((QG 2 u k:Nat):Int)+((KL 2 u Y k:Nat):Int)) 1=((QG 2 (u+Y) k:Nat):Int):=by
     rw[d,JH (QG 2 u k+0+KL 2 u Y k) x3 _ x3]
    have S:(((QG 2 u k:Nat):Int)+((KL 2 u Y k:Nat):Int)) / 2=((KL 2 u Y (k+1):Nat):Int):=by
     rw[f];omega
    clear d f b q a l;go_wp2_with fail
    refine d1.out.mono ?_
    rintro e y ⟨rfl,rfl⟩;go_wp2
    refine⟨⟨k+1,x,by go_num,rfl,G.out.setCell (L4 _) _,s.out.congr λj T=>?_⟩,by simp[intOf];omega⟩;by_cases e:j=k
    ·subst e;simp only[if_true];rw[if_pos x3]
    ·simp only[if_neg e];by_cases J:j<k
     ·rw[if_pos J,if_pos x3]
     ·rw[if_neg J,if_neg x3]
  ·obtain rfl:k=K+1:=x3;have L:=(a.rd (o:=0) (n:=K+1) x3).congr (f':=Xn (u+Y)) (λj T=>by simp only[Lm];rw[if_pos T]);have HR:=x0f L;clear L a;go_wp2
   go_ret
   exact⟨_,_,rfl,l,L4 _,HR.out,X.out,by rw[HK.out]⟩
def BA(A D:Option Addr)(n d c I u v:Nat)(w:World)(hn:n<=17179869184)(O:d<=17179869184)(hu:u<2^n)(J:v<2^d)(f:v<=u)(P:Rd w A n (Xn u))(E:Rd w D d (Xn v)):
  Calls prog 235 #[.slice A n c,.slice D d I] w λe C=>∃g,e=.returned (.slice (some ⟨g,0,none⟩) n n)/\Below w.heap.size w C/\w.heap.size<=g/\Rd C (some ⟨g,0,none⟩) n (Xn (u-v)):=by
 have l:1*n<=281474976710656:=x3;have m:n<=9223372036854775807:=x3;have Q:=x0f hu;have R:=x0f J;have F:=x0f f;have p:=x0f l;have r:=x0f m;clear hu J l m f;go_enter func235,ntmps235
 go_wp2_with (at_make;refine Yt rfl (.tmp 10) (.tmp 10) _ rfl 5 (.int .u8 0) 1 Ho uh rfl .i64 .i64 _ _ n rfl rfl rfl rfl p.out r.out ?_;intro w1 S T s)
 go_loopw [6,7] (λU i wr=>∃k:Nat,k<=n/\i=.int .i64 (k:Nat)/\U=.int .u8 (Jr 2 u v k:Nat)/\Below w.heap.size w wr/\Cel wr w.heap.size 5 n (λj=>if j<k then Xn (u-v) j else .int .u8 0)) (λ_ i _=>n-(intOf i).toNat)
 case atStart=>exact⟨0,L7 _,rfl,by rw[TO];rfl,T,S.congr λj _=>by rw[if_neg x3]⟩
 case round =>
  obtain⟨k,hk,rfl,rfl,b,a⟩:=hrel;by_cases s:k<n
  ·have V:=x0f (ZW A n c u k wr x3 x3 Q.out (P.below b));have W:=x0f (ZW D d I v k wr x3 x3 R.out (E.below b));have G:=x0f b;have g2:wr.cell? ⟨w.heap.size,k,none⟩=some (.int .u8 0):=by rw[a.cell x3,if_neg x3]
   have g3:=a.frozen k;have H:=x0f (jj 2 u v k);have t:=tE (B:=2) x4 F.out k;have x:=TN (B:=2) x4 u v k;have y:=x0f (a.set_ k (Xn (u-v) k));have ha:QG 2 u k<2:=YO x4 _ _;have hb:QG 2 v k<2:=YO x4 _ _;have X:Jr 2 u v k<2:=x8 H.out;obtain⟨q,Y⟩:∃q,q=(2+QG 2 u k-QG 2 v k-Jr 2 u v k) / 2:=⟨_,rfl⟩
   have K:bits .and .u8 (2+((QG 2 u k:Nat):Int)-((QG 2 v k:Nat):Int)-((Jr 2 u v k:Nat):Int)) 1=((QG 2 (u-v) k:Nat):Int):=by
    rw[t,JH (QG 2 u k+2-QG 2 v k-Jr 2 u v k) x3 _ x3]
   have Z:(2+((QG 2 u k:Nat):Int)-((QG 2 v k:Nat):Int)-((Jr 2 u v k:Nat):Int)) / 2=(q:Int):=x3;have ad:q<=1:=x3;have L:1-(q:Int)=((Jr 2 u v (k+1):Nat):Int):=by
    rw[x];split<;>omega
   clear t x a b Y;go_wp2_with fail
   refine V.out.mono ?_
   rintro e C ⟨rfl,rfl⟩;go_wp2_with fail
   refine W.out.mono ?_
   rintro e C ⟨rfl,rfl⟩;go_wp2
   refine⟨⟨k+1,s,by go_num,rfl,G.out.setCell (L4 _) _,y.out.congr λj M=>?_⟩,by simp[intOf];omega⟩;by_cases e:j=k
   ·subst e;simp only[if_true];rw[if_pos x3]
   ·simp only[if_neg e];by_cases N:j<k
    ·rw[if_pos N,if_pos x3]
    ·rw[if_neg N,if_neg x3]
  ·obtain rfl:k=n:=x3;have z:=(a.rd (o:=0) (n:=k) x3).congr (f':=Xn (u-v)) (λj M=>by simp only[Lm];rw[if_pos M]);have HR:=x0f z;clear z a;go_wp2
   go_ret
   exact⟨_,rfl,b,L4 _,HR.out⟩
def SD{w:xH}{base n v:Nat}{val:y9}(h:OwnR w base 5 val n (Xn v))(d:n<=4294967296)(f:v<2^n):
  xP prog 174 #[val] w (.string (QL v)):=by
 obtain⟨A,c,rfl,a,b,_⟩:=h.rd;exact XP A n c v w d a f b
def gZ(v:Nat)(w:World)(u:v<LB):
  xP prog 127 #[.int .u64 (v:Nat)] w (.string (QL v)):=by
 have z:=x0f u;clear u;go_enter func127,ntmps127
 go_wp2
 go_loopw [0,3] (λi r wr=>∃k x:Nat,k<=64/\i=.int .u64 (x:Nat)/\Hid (x=v / 2^k)/\OwnR wr w.heap.size 5 r k (Xn v)/\Below w.heap.size w wr) (λi _ _=>(intOf i).toNat)
 case atStart=>exact⟨0,v,L7 _,rfl,by show v=v / 2^0;simp,OwnR.nil_ _ _ _ _,p5 _ _⟩
 case round =>
  obtain⟨k,x,K,rfl,d,b,l⟩:=hrel;have n:(x:Int)<18446744073709551616:=by
   have D:=z.out;have o:=Rn v (2^k);rw[<- d.out]at o;rw[Jo]at D;omega
  by_cases a:x=0
  ·subst a;have f:v<2^k:=by
    have o:=d.out;have:=Tc v (2^k);rw[<- o,Nat.mul_zero,Lm]at this;have L:=Re v (R6 k);omega
   have E:=x0f (SD b x3 f);clear f;go_wp2_with fail
   refine E.out.mono ?_
   rintro e m ⟨rfl,F⟩;go_wp2
   go_ret
   exact⟨rfl,QW l F l.size⟩
  ·have g:k<64:=by
    refine Uw λh=>a ?_
    rw[d.out];exact Sg (L9 z.out (by rw[Yk];exact Lh x4 h))
   have A:(0:Int)<(x:Int):=x3;have hd:((x:Int) % 2)=((QG 2 v k:Nat):Int):=by
    have:QG 2 v k=x % 2:=by rw[d.out];rfl
    omega
   have G:QG 2 v k<2:=YO x4 _ _;have B:(x:Int).tmod 2=((QG 2 v k:Nat):Int):=by rw[L3 x3];exact hd
   have p:k+1<=9223372036854775807:=x3;have q:(k+1)*1<=140737488355328:=x3;obtain⟨y,hy⟩:∃y,y=x / 2:=⟨_,rfl⟩
   have s:(x:Int) / 2=(y:Int):=x3;have H:(x:Int).tdiv 2=(y:Int):=by rw[Int.tdiv_eq_ediv_of_nonneg x3];exact s
   have M:IntKind.u64.wrap (y:Int)=(y:Int):=by rw[b7];omega
   have N:IntKind.u64.wrap ((QG 2 v k:Nat):Int)=((QG 2 v k:Nat):Int):=by rw[b7];omega
   have O:IntKind.u8.wrap ((QG 2 v k:Nat):Int)=((QG 2 v k:Nat):Int):=VZ rfl x3;have C:=x0f hy;have I:=x0f a;clear hy n;clear a;go_wp2_with (at_builtin;refine Ax rfl (.tmp 8) (.tmp 12) _ rfl w.heap.size 5 (.int .u8 0) 1 Ho uh rfl _ k (Xn v) _ rfl rfl b rfl p q l.size ?_;intro P m c t J)
   refine⟨⟨k+1,y,g,by go_num,?_,c.congr λj Q=>?_,l.trans t⟩,?_⟩
   ·show y=v / 2^(k+1);rw[C.out,d.out,R8,Rk]
   ·by_cases e:j=k
    ·subst e;simp only[if_true];rfl
    ·simp only[if_neg e]
   ·have:=I.out;have:=C.out;simp[intOf];omega
def aE(s:ByteArray)(w:World)(a:s.size<=268435456):
  xP prog 168 #[.string s] w (.int .i64 (nd 1 (Qa s):Nat)):=by
 go_enter func168,ntmps168
 go_wp2_with fail
 refine(QR s w a).mono ?_
 rintro e g ⟨A,c,rfl,d,i,f⟩;go_wp2
 go_ret
 exact⟨rfl,f⟩
def am(s t:ByteArray)(w:World)(g:s.size<=268435456)(i:t.size<=268435456):
  xP prog 294 #[.string s,.string t] w (.int .i64 (Xe (Qa s) (Qa t))):=by
 have b1:nd 1 (Qa s)<=4294967296:=x8 (Xy s);have b2:nd 1 (Qa t)<=4294967296:=x8 (Xy t);have l:=x0f b1;have m:=x0f b2;have n:=x0f (B9 1 x4 (Qa s));have o:=x0f (B9 1 x4 (Qa t));clear b1 b2;go_enter func294,ntmps294
 go_wp2_with fail
 refine(QR s w g).mono ?_
 rintro e p ⟨A,c,rfl,q,r,d⟩;go_wp2_with fail
 refine(QR t p i).mono ?_
 rintro e u ⟨v,x,rfl,f,b,a⟩;go_wp2_with fail
 refine(VI A v _ _ c x _ _ u l.out m.out (by have:=n.out;rwa [Tu]at this) (by have:=o.out;rwa [Tu]at this) (r.below a) b).mono ?_
 rintro e y ⟨rfl,rfl⟩;go_wp2
 go_ret
 exact⟨rfl,QW d a d.size⟩
def XX(v:Nat):v<2^nd 1 v:=by have:=B9 1 x4 v;rwa [Tu]at this
def VS(s t:ByteArray)(w:World)(p:s.size<=268435456)(q:t.size<=268435456):
  xP prog 271 #[.string s,.string t] w (if Qa s<Qa t then .tuple #[.string ⟨#[]⟩,.bool false]else .tuple #[.string (QL (Qa s-Qa t)),.bool true]):=by
 have r:=x0f (show nd 1 (Qa s)<=4294967296 by have:=Xy s;omega);have D:=x0f (show nd 1 (Qa t)<=4294967296 by have:=Xy t;omega);have x:=x0f (XX (Qa s));have E:=x0f (XX (Qa t));have cs:=x0f (λW=>QR s W p);have F:=x0f (λW=>QR t W q);have y:=x0f (am s t w p q);generalize Qa s=u at *;generalize Qa t=v at *;by_cases a:u<v
 ·have G:Xe u v<0:=cmpI_lt.2 a;simp only[if_pos a];clear a;go_enter func271,ntmps271
  go_wp2_with fail
  refine y.out.mono ?_
  rintro e z ⟨rfl,j⟩;go_wp2
  go_ret2
  exact⟨rfl,j⟩
 ·have G:¬ Xe u v<0:=λh=>a (cmpI_lt.1 h)
  have H:=x0f (show v<=u by omega);simp only[if_neg a];clear a;go_enter func271,ntmps271
  go_wp2_with fail
  refine y.out.mono ?_
  rintro e z ⟨rfl,j⟩;go_wp2_with fail
  refine(cs.out z).mono ?_
  rintro e I ⟨A,c,rfl,J,K,k⟩;go_wp2_with fail
  refine(F.out I).mono ?_
  rintro e L ⟨M,N,rfl,B,l,b⟩;have d:=QW j k j.size;have f:=QW d b d.size;go_wp2_with fail
  refine(BA A M _ _ c N _ _ L (x8 r.out) (x8 D.out) x.out E.out H.out (K.below b) l).mono ?_
  rintro e O ⟨g,rfl,m,P,n⟩;have i:=QW f m f.size;go_wp2_with fail
  refine(XP _ _ _ _ O r.out (L4 _) (Lw (V9 _ _) x.out) n).mono ?_
  rintro e Q ⟨rfl,o⟩;go_wp2
  go_ret2
  exact⟨rfl,QW i o i.size⟩
def aL(s:ByteArray)(n:Int)(w:World)(m:s.size<=268435456)(z:n<=1073741824):
  xP prog 272 #[.string s,.int .i64 n] w (.string (QL (Qa s*2^n.toNat))):=by
 have k:=x0f (show nd 1 (Qa s)<=2147483648 by have:=Xy s;omega);have p:=x0f (XX (Qa s));have cs:=x0f (λW=>QR s W m);generalize Qa s=V at *;have B:=gy n;have b:=x0f (show n.toNat<=1073741824 by omega);generalize n.toNat=up at *;go_enter func272,ntmps272
 go_wp2_with fail
 refine(cs.out w).mono ?_
 rintro e q ⟨A,c,rfl,r,t,l⟩;go_wp2_with fail
 refine(Gx none A 0 _ 0 c 0 V up q (L7 _) (x8 k.out) (x8 b.out) (R6 0) p.out Rd.nil_ t).mono ?_
 rintro e u ⟨g,N,rfl,i,C,d,a,v⟩;rw[Lm]at d a;have f:=QW l i l.size;have x:=x0f (show N<=4294967296 by have:=k.out;have:=b.out;omega);have y:=x0f a;clear v a;go_wp2_with fail
 refine(XP _ N N _ u x.out (L4 _) y.out d).mono ?_
 rintro e D ⟨rfl,j⟩;go_wp2
 go_ret
 exact⟨rfl,QW f j f.size⟩
def aG(s t:ByteArray)(w:World)(hs:s.size<=16777216)(ht:t.size<=16777216):
  xP prog 273 #[.string s,.string t] w (.string (QL (Qa s*Qa t))):=by
 have b1:nd 1 (Qa s)<=134217728:=x8 (Xy s);have C:=x0f (show nd 1 (Qa t)<=134217728 by have:=Xy t;omega);have S:=x0f (XX (Qa s));have T:=x0f (XX (Qa t));have cs:=x0f (λW=>QR s W x3);have U:=x0f (λW=>QR t W x3);generalize Qa s=u at *;generalize Qa t=v at *;go_enter func273,ntmps273
 go_wp2_with fail
 refine(cs.out w).mono ?_
 rintro e V ⟨A,c,rfl,X,M,D⟩;go_wp2_with fail
 refine(U.out V).mono ?_
 rintro e O ⟨Y,Z,rfl,P,E,j⟩;have r:=QW D j D.size;have F:=M.below j;clear M D j;go_wp2
 go_loopw [7,8] (λo i wr=>∃k n p:Nat,∃A0:Option Addr,k<=nd 1 u/\i=.int .i64 (k:Nat)/\o=.slice A0 n p/\Hid (n<=p/\n<=nd 1 v+k/\(u % 2^k)*v<2^n)/\Rd wr A0 n (Xn ((u % 2^k)*v))/\Below O.heap.size O wr) (λ_ i _=>nd 1 u-(intOf i).toNat)
 case atStart=>exact⟨0,0,0,none,L7 _,rfl,rfl,⟨L4 _,L7 _,by rw[Tx,V0,Ue];decide⟩,Rd.nil_,p5 _ _⟩
 case round =>
  obtain⟨k,n,p,A0,hk,rfl,rfl,d,f,q⟩:=hrel;by_cases l:k<nd 1 u
  ·obtain⟨b,off,rfl,B⟩:=F x3;have g1:wr.cell? ⟨b,off+k,none⟩=some (.int .u8 (QG 2 u k:Nat)):=Lj q (B k l);have a:=J8 2 u k;have HC:=x0f B;have G:=E.below q;by_cases hd:QG 2 u k=0
   ·have H:(((QG 2 u k:Nat):Int)==1)=false:=by rw[hd];rfl
    have x:=x0f (show u % 2^(k+1)=u % 2^k by rw[a,hd,Nat.mul_zero,T9]);clear hd a B;go_wp2
    exact⟨⟨k+1,n,p,A0,l,by go_num,rfl,⟨d.out.1,x8 d.out.2.1,by rw[x.out];exact d.out.2.2⟩,by rw[x.out];exact f,q⟩,by simp[intOf];omega⟩
   ·have ad:QG 2 u k<2:=YO x4 _ _;have m:QG 2 u k=1:=x3;have H:(((QG 2 u k:Nat):Int)==1)=true:=by rw[m];rfl
    have x:=x0f (show u % 2^(k+1)*v=u % 2^k*v+v*2^k by rw[a,m,Sz,S8,Ls (2^k)]);have cp:=x0f (Gx A0 Y n (nd 1 v) p Z _ v k wr (xF d.out.2.1 C.out) (x8 C.out) x3 d.out.2.2 T.out f G);clear hd a B m;go_wp2_with fail
    refine cp.out.mono ?_
    rintro e w4 ⟨g,N,rfl,I,hg,J,y,Q⟩;have HF:=x0f y;have HN:=x0f Q;clear y Q;go_wp2
    exact⟨⟨k+1,N,N,_,l,by go_num,rfl,⟨L4 _,xF d.out.2.1 HN.out,by rw[x.out];exact HF.out⟩,by rw[x.out];exact J,QW q I q.size⟩,by simp[intOf];omega⟩
  ·obtain rfl:k=nd 1 u:=x3;rw[Rc S.out]at f d;have K:=x0f (XP A0 n p _ wr (xF d.out.2.1 C.out) d.out.1 d.out.2.2 f);go_wp2_with fail
   refine K.out.mono ?_
   rintro e w5 ⟨rfl,L⟩;go_wp2
   go_ret
   have z:=QW r q r.size;exact⟨rfl,QW z L z.size⟩
def al(A:Option Addr)(n c:Nat)(a:Nat->ByteArray)(w:World)(V:n<=1048576)(B:∀j,(a j).size<=16777216)(q:Rd w A n λj=>.string (a j)):
  xP prog 270 #[.slice A n c] w (.string (QL (Gb (λj=>Qa (a j)) n))):=by
 have r:∀j,nd 1 (Qa (a j))<=134217728:=λj=>xF (Xy (a j)) (B j)
 have C:=x0f r;have cs:=x0f (λj W=>QR (a j) W (x8 (B j)));clear B r;go_enter func270,ntmps270
 go_wp2
 go_loopw [3,4] (λo i wr=>∃k m s:Nat,∃A0:Option Addr,k<=n/\i=.int .i64 (k:Nat)/\o=.slice A0 m s/\Hid (m<=s/\m<=134217728+k/\Gb (λj=>Qa (a j)) k<2^m)/\Rd wr A0 m (Xn (Gb (λj=>Qa (a j)) k))/\Below w.heap.size w wr) (λ_ i _=>n-(intOf i).toNat)
 case atStart=>exact⟨0,0,0,none,L7 _,rfl,rfl,⟨L4 _,L7 _,by show 0<2^0;decide⟩,Rd.nil_,p5 _ _⟩
 case round =>
  obtain⟨k,m,s,A0,X,rfl,rfl,l,d,p⟩:=hrel;by_cases t:k<n
  ·obtain⟨b,off,rfl,D⟩:=q x3;have Y:wr.cell? ⟨b,off+k,none⟩=some (.string (a k)):=Lj p (D k t);have Z:=x0f D;have u:=x0f (C.out k);have I:=x0f (show Gb (λj=>Qa (a j)) (k+1)=Gb (λj=>Qa (a j)) k+Qa (a k)*2^0 by rw[Tx,Sz];rfl);have M:=x0f (cs.out k wr);have O:=x0f (XX (Qa (a k)));clear D q;generalize Qa (a k)=v at *;go_wp2_with fail
   refine M.out.mono ?_
   rintro e P ⟨Q,R,rfl,J,x,f⟩;have y:=QW p f p.size;have S:=x0f (Gx A0 Q m (nd 1 v) s R _ v 0 P (x8 l.out.2.1) (x8 u.out) x3 l.out.2.2 O.out (d.below f) x);clear d x f p;go_wp2_with fail
   refine S.out.mono ?_
   rintro e w4 ⟨g,N,rfl,E,hg,F,z,K⟩;have T:=x0f z;have U:=x0f K;clear z K;go_wp2
   exact⟨⟨k+1,N,N,_,t,by go_num,rfl,⟨L4 _,by have:=l.out.2.1;have:=U.out;have:=u.out;omega,by rw[I.out];exact T.out⟩,by rw[I.out];exact F,QW y E y.size⟩,by simp[intOf];omega⟩
  ·obtain rfl:k=n:=x3;have G:=x0f (XP A0 m s _ wr (x8 l.out.2.1) l.out.1 l.out.2.2 d);go_wp2_with fail
   refine G.out.mono ?_
   rintro e w5 ⟨rfl,H⟩;go_wp2
   go_ret
   exact⟨rfl,QW p H p.size⟩
