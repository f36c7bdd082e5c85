/- Laws beneath the statement. -/
import Derived.Test.YtoibldcmoapgbaaGreatDoorBP20
import Derived.Test.YtoibldcmoapgbaaGreatDoorBP16
import Derived.Test.YtoibldcmoapgbaaGreatDoorBP15
namespace Go.Proofs.YtoibldcmoapgbaaGreatDoor
set_option linter.defProp false
open Tryz
set_option maxHeartbeats 4000000
set_option maxRecDepth 100000
open Go Go.RowKit
def nz:(prog.info? 30).map (λi=>(i.zero,i.size,i.bytes))=some (some (.agg #[Ξ false,x00]),2,24):=x5
def j3:(prog.info? 242).map (λi=>(i.zero,i.size,i.bytes))=some (some (x01),1,24):=x5
def ab(b:Bool)(s:m1)(e:Int)(W:m0):(Instr.field 32 (.agg #[Ξ b,Ψ s,Θ e]) 1).run prog W=.ok (Θ e) W:=x5
def lT(f:Nat->Int)(j:Nat)(u:y9)(h:u∈CK f j):u.oneCell'=true:=by
 simp[CK]at h;rcases h with rfl|rfl<;>rfl
def UH{b:Bool}{s:m1}{e:Int}{x:Dyadic}(a:ND b s e x)(W:m0)(d:TabAt 4 Lib.deBruijn64tab W):
  o4 prog 52 #[.agg #[.bool b,.string s,.int .i64 e]] W (.agg #[.bool (neg (dm x)),.string (QJ (dm x)),.int .i64 (de x)]):=by
 have g:=a.size;have h:=a.lo;have i:=a.hi;have c:=KA s b e W x3 x3 x3 d;rw[a.val]at c;exact c
def zI(low:Int)(a:Nat->Nat->Dyadic)(i j:Nat):Int:=XA (dm (a i j)) (de (a i j)-low)
def qv(z n:Int)(W:m0)(c:(QJ z).size<=536870912)(d:n<=68719476736)(a:0<=n)(f:TabAt 4 Lib.deBruijn64tab W):
  o4 prog 121 #[.agg #[.bool (neg z),.string (QJ z)],.int .i64 n] W (.agg #[.bool (neg (XA z n)),.string (QJ (XA z n))]):=by
 grind[CZ,Xp]
def ei(N:Nat)(L T0:Nat)(ad:L+T0<=1000000)(hn:N<=8)(A:Option Addr)(c:Nat)(bs:Nat->Nat->Bool)(I:Nat->Nat->ByteArray)(J:Nat->Nat->Int)(f:Nat->Nat->Dyadic)(w:World)(hx:∀i j,ND (bs i j) (I i j) (J i j) (f i j))(ae:∀i j,DB L T0 (f i j))(hr:RdM w A N (λ_=>N) bs I J)(hT:TabAt 4 Lib.deBruijn64tab w):
  Calls prog 125 #[.slice A N c] w λe w'=>(∃v low,e=.returned (.tuple #[v,.int .i64 (-low)])/\-(L:Int)<=low/\low<=0/\(∀i j,i<N->j<N->low<=de (f i j))/\OwnTT w' w.heap.size 242 30 2 v N N (λi=>CK (zI low f i)))/\Below w.heap.size w w':=by
 have HR:=x0f hr;have HX:=x0f hx;have K:=x0f ae;have HT:=x0f hT;have ag:=x0f ad;clear hr hx ae hT ad;go_enter func125,ntmps125
 go_wp2_with fail
 go_loopw [4,18] (λv i wr=>∃(k:Nat) (low:Int),k<=N/\i=.int .i64 (k:Nat)/\v=.int .i64 low/\Hid (-(L:Int)<=low/\low<=0/\∀i j,i<k->j<N->low<=de (f i j))/\Below w.heap.size w wr) (λ_ i _=>N-(RowKit.intOf i).toNat)
 case atStart=>exact⟨0,0,L7 _,rfl,rfl,x0f ⟨x3,Sd _,λi j hi=>absurd hi x3⟩,p5 _ _⟩
 case round =>
  obtain⟨k,low,hk,rfl,rfl,M,l⟩:=hrel;by_cases B:k<N
  ·have O:(k:Int)<(N:Int):=x3;obtain⟨b,off,rfl,hc⟩:=(HR.out.below l) x3;let⟨Ai,ci,_,cc,Q,D⟩:=hc k B;obtain⟨bi,F,rfl,G⟩:=D.num (show 0<N by omega);replace Q:wr.cell? ⟨b,off+k,none⟩=some (.slice (some ⟨bi,F,none⟩) N ci):=Q;have cd:(0:Int)<=(k:Int):=x3;have r:=x0f G;clear hc D G;have HB:=x0f l;clear l;go_wp2_with fail
   obtain⟨t,R⟩:∃x,x=wr:=⟨_,rfl⟩
   subst R;go_loopw [4,24] (λv i wr=>∃(q:Nat) (S:Int),q<=N/\i=.int .i64 (q:Nat)/\v=.int .i64 S/\Hid (-(L:Int)<=S/\S<=low/\∀j,j<q->S<=de (f k j))/\Below t.heap.size t wr) (λ_ i _=>N-(RowKit.intOf i).toNat)
   case atStart=>exact⟨0,low,L7 _,rfl,rfl,x0f ⟨M.out.1,Sd _,λj P=>absurd P x3⟩,p5 _ _⟩
   case round =>
    clear Q;obtain⟨q,S,hq,rfl,rfl,s,g⟩:=hrel;by_cases m:q<N
    ·have o:=EI g (.cells #[.bool (bs k q),.string (I k q),.int .i64 (J k q)] 32);have g2:=Lj g (r.out q m).1;have g3:=Lj g (r.out q m).2.1;have g4:=Lj g (r.out q m).2.2;have T:(q:Int)<(N:Int):=x3;have cf:(0:Int)<=(q:Int):=x3;let⟨p1,p2,p3,_,_,_⟩:=(Bx.new wr 32 #[.bool (bs k q),.string (I k q),.int .i64 (J k q)]).three;have cF:=x0f (UH (HX.out k q) (wr.alloc (.cells #[.bool (bs k q),.string (I k q),.int .i64 (J k q)] 32)) (Ql HT.out (nxt HB.out o)));have ch:=x0f o;clear g o;go_wp2_with fail
     refine cF.out.mono ?_
     rintro e w6 ⟨rfl,H⟩;have al:=nxt ch.out H;have cj:=x0f al;clear H cF p1 p2 p3 al g2 g3 g4;have u:=(G8 (K.out k q)).1;obtain⟨E,U⟩:∃E,de (f k q)=E:=⟨_,rfl⟩
     rw[U]at u ⊢;have HE:=x0f (p0 U u);clear U u;go_wp2_with fail
     rw[ab];simp only[c8];go_wp2
     refine⟨⟨q+1,min S E,x3,by go_num,rfl,x0f ⟨by have h1:=HE.out.2;have h2:=s.out.1;omega,by have h1:=s.out.2.1;omega,λj P=>?_⟩,cj.out⟩,by simp[RowKit.intOf];omega⟩;by_cases e:j=q
     ·subst e;rw[HE.out.1];omega
     ·have h1:=s.out.2.2 j x3;omega
    ·obtain rfl:q=N:=x3;have T:¬(q:Int)<(q:Int):=x3;have o:=nxt HB.out g;go_wp2
     refine⟨⟨k+1,S,x3,by go_num,rfl,x0f ⟨s.out.1,T7 s.out.2.1 M.out.2.1,λi j hi P=>?_⟩,o⟩,by simp[RowKit.intOf];omega⟩;by_cases e:i=k
     ·subst e;exact s.out.2.2 j P
     ·exact T7 s.out.2.1 (M.out.2.2 i j x3 P)
  ·obtain rfl:k=N:=x3;have O:¬(k:Int)<(k:Int):=x3;have HB:=x0f l;have ao:=OwnTT.nil_ wr w.heap.size 242 30 2 k (λi=>CK (zI low f i));have cl:low<=0:=M.out.2.1;have cm:-1000000<=low:=k0 M.out.1 ag.out;clear l;go_wp2_with fail
   obtain⟨N,hN⟩:∃N,N=k:=⟨_,rfl⟩
   subst hN;obtain⟨w1,cn⟩:∃x,x=wr:=⟨_,rfl⟩
   subst cn;clear O B hk;go_loopw [9,37] (λv i wr=>∃k:Nat,k<=N/\i=.int .i64 (k:Nat)/\OwnTT wr w.heap.size 242 30 2 v k N (λi=>CK (zI low f i))/\Below w.heap.size w wr) (λ_ i _=>N-(RowKit.intOf i).toNat)
   case atStart=>exact⟨0,L7 _,rfl,ao,HB.out⟩
   case round =>
    clear ao;obtain⟨k,hk,rfl,a,l⟩:=hrel;by_cases B:k<N
    ·have O:(k:Int)<(N:Int):=x3;obtain⟨b,off,rfl,hc⟩:=(HR.out.below l) x3;let⟨Ai,ci,_,cc,Q,D⟩:=hc k B;obtain⟨bi,F,rfl,G⟩:=D.num (show 0<N by omega);replace Q:wr.cell? ⟨b,off+k,none⟩=some (.slice (some ⟨bi,F,none⟩) N ci):=Q;have cd:(0:Int)<=(k:Int):=x3;have r:=x0f G;clear hc D G;have y:=x0f (p0 a l);clear a l;go_wp2_with fail
     obtain⟨t,R⟩:∃x,x=wr:=⟨_,rfl⟩
     subst R;have aB:=OwnK.nil_ t t.heap.size 30 2 (CK (zI low f k));go_loopw [12,43] (λv i wr=>∃q:Nat,q<=N/\i=.int .i64 (q:Nat)/\OwnK wr t.heap.size 30 2 v q (CK (zI low f k))/\Below t.heap.size t wr) (λ_ i _=>N-(RowKit.intOf i).toNat)
     case atStart=>exact⟨0,L7 _,rfl,aB,p5 _ _⟩
     case round =>
      clear Q aB;obtain⟨q,hq,rfl,a,g⟩:=hrel;by_cases m:q<N
      ·have o:=EI g (.cells #[.bool (bs k q),.string (I k q),.int .i64 (J k q)] 32);have g2:=Lj g (r.out q m).1;have g3:=Lj g (r.out q m).2.1;have g4:=Lj g (r.out q m).2.2;have T:(q:Int)<(N:Int):=x3;have cf:(0:Int)<=(q:Int):=x3;let⟨p1,p2,p3,_,_,_⟩:=(Bx.new wr 32 #[.bool (bs k q),.string (I k q),.int .i64 (J k q)]).three;have cF:=x0f (UH (HX.out k q) (wr.alloc (.cells #[.bool (bs k q),.string (I k q),.int .i64 (J k q)] 32)) (Ql HT.out (nxt y.out.2 o)));replace a:=a.below (b1 wr (.cells #[.bool (bs k q),.string (I k q),.int .i64 (J k q)] 32));have p:=x0f (p0 a o);clear g o a;go_wp2_with fail
       refine cF.out.mono ?_
       rintro e w6 ⟨rfl,H⟩;let⟨a,l⟩:=p.out;replace a:=a.below H;replace l:=nxt l H;clear H cF p1 p2 p3 g2 g3 g4 p;replace a:=a.below (b1 w6 (.cells #[.bool (neg (dm (f k q))),.string (QJ (dm (f k q))),.int .i64 (de (f k q))] 32));replace l:=EI l (.cells #[.bool (neg (dm (f k q))),.string (QJ (dm (f k q))),.int .i64 (de (f k q))] 32);have YX:=Bx.new w6 32 #[.bool (neg (dm (f k q))),.string (QJ (dm (f k q))),.int .i64 (de (f k q))];have u:=(G8 (K.out k q)).1;have bd:=(G8 (K.out k q)).2.1;have bk:=M.out.2.2 k q B m;have bl:=Ic (K.out k q);have bX:=ag.out;have HZ:=x0f (show zI low f k q=XA (dm (f k q)) (de (f k q)-low)from rfl);obtain⟨E,U⟩:∃E,de (f k q)=E:=⟨_,rfl⟩
       obtain⟨Z,hZ⟩:∃Z,dm (f k q)=Z:=⟨_,rfl⟩
       rw[U]at u bd bk;rw[hZ]at bl;rw[U,hZ]at l a YX HZ ⊢;have cp:-2000000<=E-low:=x3;have cq:E-low<=2000000:=x3;have cS:=x0f (λW h=>qv Z (E-low) W x3 x3 x3 h);clear U hZ u bd bk bl bX;have p:=x0f (p0 a l);clear a l;go_upto_region 20 with(fail)
       let⟨a,l⟩:=p.out;generalize w6.alloc (.cells #[.bool (neg Z),.string (QJ Z),.int .i64 E] 32)=w8 at *;let⟨p1,p2,p3,_,_,_⟩:=YX.three;have p:=x0f (p0 a l);clear a l YX;go_wp2_with fail
       refine(cS.out _ (Ql HT.out (nxt y.out.2 p.out.2))).mono ?_
       rintro e Y ⟨rfl,H⟩;let⟨a,l⟩:=p.out;replace a:=a.below H;replace l:=nxt l H;rw[<- HZ.out];clear H cS p p1 p2 p3 cp cq;have hO:=a.below (b1 Y (.cells #[.bool (neg (zI low f k q)),.string (QJ (zI low f k q))] 30));have ZR:=Bx.new Y 30 #[.bool (neg (zI low f k q)),.string (QJ (zI low f k q))];have HN:=x0f (show ∀j,j<1->∀i,i<2->(Y.alloc (.cells #[.bool (neg (zI low f k q)),.string (QJ (zI low f k q))] 30)).cell? ⟨Y.heap.size,0+j*2+i,none⟩=((CK (λj=>zI low f k (q+j))) j)[i]? from λj P i hi=>by
        have cr:j=0:=x3;have ct:i=0\/i=1:=x3;subst cr;rcases ct with rfl|rfl<;>simp[ZR.cel,CK])
       have HO:=x0f (p0 hO (EI l (.cells #[.bool (neg (zI low f k q)),.string (QJ (zI low f k q))] 30)));have cu:=x0f (show t.heap.size<=(Y.alloc (.cells #[.bool (neg (zI low f k q)),.string (QJ (zI low f k q))] 30)).heap.size by have:=l.size;simp;omega);have bY:=x0f (show q+1<=9223372036854775807/\(q+1)*24<=140737488355328 by omega);clear hO ZR a l;go_wp2_with (at_builtin;refine Nx rfl (.tmp 49) (.tmp 57) _ rfl t.heap.size 30 _ 2 24 Tryz.underlying242 nz rfl x4 _ q (CK (zI low f k)) rfl HO.out.1 ⟨Y.heap.size,0,none⟩ 1 1 (CK (λj=>zI low f k (q+j))) (λ_=>rfl) (λ_=>rfl) (lT _) rfl rfl HN.out bY.out.1 bY.out.2 cu.out ?_;intro v' cM cw cy)
       have V:=cw.congr (f':=CK (zI low f k)) (λj P=>by
        split
        ·rfl
        ·rename_i h;unfold CK;dsimp only;rw[show q+(j-q)=j by omega])
       exact⟨⟨q+1,x3,by go_num,V,QcH HO.out.2 cy (L4 _)⟩,by simp[RowKit.intOf];omega⟩
      ·obtain rfl:q=N:=x3;have T:¬(q:Int)<(q:Int):=x3;obtain⟨C,d,rfl,_⟩:=OwnK.rd (k:=2) (λ_=>rfl) a;have ca:=a.below (b1 wr (.cells #[.slice C q d] 242));have Z:=(Bx.new wr 242 #[.slice C q d]).cel 0;have cb:Below t.heap.size t (wr.alloc (.cells #[.slice C q d] 242)):=EI g (.cells #[.slice C q d] 242);have cA:w.heap.size<=t.heap.size:=y.out.2.size;have cC:k+1<=9223372036854775807:=x3;have cD:(k+1)*24<=140737488355328:=x3;have cG:=x0f (nxt y.out.2 cb);have X:=y.out.1;clear a g y;go_wp2_with (at_builtin;refine H4 rfl (.tmp 60) (.tmp 62) _ rfl w.heap.size 242 30 (.slice none 0 0) 2 24 Tryz.underlying195 j3 rfl u9 k q (λi=>CK (zI low f i)) rfl t X cb ⟨wr.heap.size,0,none⟩ rfl rfl C d Z ca cA cC cD ?_;intro v2 w7 V cL)
       exact⟨⟨k+1,x3,by go_num,V,QcH cG.out cL (L4 _)⟩,by simp[RowKit.intOf];omega⟩
    ·obtain rfl:k=N:=x3;have O:¬(k:Int)<(k:Int):=x3;go_wp2
     go_ret2
     exact⟨⟨_,low,rfl,M.out.1,M.out.2.1,λi j hi P=>M.out.2.2 i j hi P,a⟩,l⟩
