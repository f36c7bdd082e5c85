/- Laws beneath the statement. -/
import Derived.Test.YtoibldcmoapgbaaGreatDoorQP20
import Derived.Test.YtoibldcmoapgbaaGreatDoorQP21
import Derived.Test.YtoibldcmoapgbaaGreatDoorQP15
namespace Go.Proofs.YtoibldcmoapgbaaGreatDoor
open Tryz
set_option maxHeartbeats 4000000
set_option maxRecDepth 100000
open Go Go.RowKit
theorem jr:(prog.info? 30).map (λi=>(i.zero,i.size,i.bytes))=some (some (.agg #[Ξ false,x00]),2,24):=x5
theorem ft:(prog.info? 242).map (λi=>(i.zero,i.size,i.bytes))=some (some (x01),1,24):=x5
theorem SH(b:Bool)(s:u4)(e:Int)(W:y9): (Instr.field 32 (.agg #[Ξ b,Ψ s,Θ e]) 1).run prog W=.ok (Θ e) W:=x5
theorem ic(f:Nat->Int)(j:Nat)(u:z0)(h:u∈DQ f j): u.oneCell'=true:=by
 simp[DQ]at h;rcases h with rfl|rfl<;>rfl
theorem Pv{b:Bool}{s:u4}{e:Int}{x:Dyadic}(a:ND b s e x)(W:y9)(d:TabAt 4 Lib.deBruijn64tab W):
  b9 prog 52 #[.agg #[.bool b,.string s,.int .i64 e]] W (.agg #[.bool (neg (dm x)),.string (Qx (dm x)),.int .i64 (de x)]):=by
 have g:=a.size;have h:=a.lo;have i:=a.hi;have c:=JS s b e W x3 x3 x3 d;rw[a.val]at c;exact c
def zI(low:Int)(a:Nat->Nat->Dyadic)(i j:Nat): Int:=Xo (dm (a i j)) (de (a i j)-low)
theorem lC(z n:Int)(W:y9)(a:(Qx z).size<=536870912)(b:n<=68719476736)(d:0<=n)(f:TabAt 4 Lib.deBruijn64tab W):
  b9 prog 121 #[.agg #[.bool (neg z),.string (Qx z)],.int .i64 n] W (.agg #[.bool (neg (Xo z n)),.string (Qx (Xo z n))]):=by
 have c:=AJ (Qx z) (neg z) n W a b x3 f;rw[Xg]at c;exact c
theorem aj(N:Nat)(L T0:Nat)(ad:L+T0<=1000000)(hn:N<=8)(A:Option Addr)(c:Nat)(bs:Nat->Nat->Bool)(I:Nat->Nat->ByteArray)(J:Nat->Nat->Int)(f:Nat->Nat->Dyadic)(w:World)(hx:∀i j,ND (bs i j) (I i j) (J i j) (f i j))(ae:∀i j,DB L T0 (f i j))(hr:RdM w A N (λ_=>N) bs I J)(hT:TabAt 4 Lib.deBruijn64tab w):
  Calls prog 125 #[.slice A N c] w λe w'=>(∃v low,e=.returned (.tuple #[v,.int .i64 (-low)])/\-(L:Int)<=low/\low<=0/\(∀i j,i<N->j<N->low<=de (f i j))/\OwnTT w' w.heap.size 242 30 2 v N N (λi=>DQ (zI low f i)))/\Below w.heap.size w w':=by
 have HR:=hV hr;have HX:=hV hx;have K:=hV ae;have HT:=hV hT;have ag:=hV ad;clear hr hx ae hT ad;go_enter func125,ntmps125
 go_wp2_with fail
 go_loopw [4,18] (λv i wr=>∃(k:Nat) (low:Int),k<=N/\i=.int .i64 (k:Nat)/\v=.int .i64 low/\Hid (-(L:Int)<=low/\low<=0/\∀i j,i<k->j<N->low<=de (f i j))/\Below w.heap.size w wr) (λ_ i _=>N-(RowKit.intOf i).toNat)
 case atStart=>exact⟨0,0,La _,rfl,rfl,hV ⟨x3,Tw _,λi j hi=>absurd hi x3⟩,l3 _ _⟩
 case round =>
  obtain⟨k,low,hk,rfl,rfl,M,l⟩:=hrel;by_cases B:k<N
  ·have O:(k:Int)<(N:Int):=x3;obtain⟨b,off,rfl,hc⟩:=(HR.out.below l) x3;obtain⟨Ai,ci,_,cb,Q,D⟩:=hc k B;obtain⟨bi,F,rfl,G⟩:=D.num (show 0<N by omega);replace Q:wr.cell? ⟨b,off+k,none⟩=some (.slice (some ⟨bi,F,none⟩) N ci):=Q;have cc:(0:Int)<=(k:Int):=x3;have r:=hV G;clear hc D G;have HB:=hV l;clear l;go_wp2_with fail
   obtain⟨t,R⟩:∃x,x=wr:=⟨_,rfl⟩
   subst R;go_loopw [4,24] (λv i wr=>∃(q:Nat) (S:Int),q<=N/\i=.int .i64 (q:Nat)/\v=.int .i64 S/\Hid (-(L:Int)<=S/\S<=low/\∀j,j<q->S<=de (f k j))/\Below t.heap.size t wr) (λ_ i _=>N-(RowKit.intOf i).toNat)
   case atStart=>exact⟨0,low,La _,rfl,rfl,hV ⟨M.out.1,Tw _,λj P=>absurd P x3⟩,l3 _ _⟩
   case round =>
    clear Q;obtain⟨q,S,hq,rfl,rfl,s,g⟩:=hrel;by_cases m:q<N
    ·have o:=Vp g (.cells #[.bool (bs k q),.string (I k q),.int .i64 (J k q)] 32);have g2:=Ld g (r.out q m).1;have g3:=Ld g (r.out q m).2.1;have g4:=Ld g (r.out q m).2.2;have T:(q:Int)<(N:Int):=x3;have cd:(0:Int)<=(q:Int):=x3;obtain⟨p1,p2,p3,_,_,_⟩:=(Bx.new wr 32 #[.bool (bs k q),.string (I k q),.int .i64 (J k q)]).three;have cF:=hV (Pv (HX.out k q) (wr.alloc (.cells #[.bool (bs k q),.string (I k q),.int .i64 (J k q)] 32)) (Ql HT.out (nxt HB.out o)));have cf:=hV o;clear g o;go_wp2_with fail
     refine cF.out.mono ?_
     rintro e w6 ⟨rfl,H⟩;have al:=nxt cf.out H;have ch:=hV al;clear H cF p1 p2 p3 al g2 g3 g4;have u:=(V4 (K.out k q)).1;obtain⟨E,U⟩:∃E,de (f k q)=E:=⟨_,rfl⟩
     rw[U]at u ⊢;have HE:=hV (k0 U u);clear U u;go_wp2_with fail
     rw[SH];simp only[p7];go_wp2
     refine⟨⟨q+1,min S E,x3,by go_num,rfl,hV ⟨by have h1:=HE.out.2;have h2:=s.out.1;omega,by have h1:=s.out.2.1;omega,λj P=>?_⟩,ch.out⟩,by simp[RowKit.intOf];omega⟩;by_cases e:j=q
     ·subst e;rw[HE.out.1];omega
     ·have h1:=s.out.2.2 j x3;omega
    ·obtain rfl:q=N:=x3;have T:¬(q:Int)<(q:Int):=x3;have o:=nxt HB.out g;go_wp2
     refine⟨⟨k+1,S,x3,by go_num,rfl,hV ⟨s.out.1,Int.le_trans s.out.2.1 M.out.2.1,λi j hi P=>?_⟩,o⟩,by simp[RowKit.intOf];omega⟩;by_cases e:i=k
     ·subst e;exact s.out.2.2 j P
     ·exact Int.le_trans s.out.2.1 (M.out.2.2 i j x3 P)
  ·obtain rfl:k=N:=x3;have O:¬(k:Int)<(k:Int):=x3;have HB:=hV l;have ao:=OwnTT.nil_ wr w.heap.size 242 30 2 k (λi=>DQ (zI low f i));have cj:low<=0:=M.out.2.1;have cl:-1000000<=low:=y7 M.out.1 ag.out;clear l;go_wp2_with fail
   obtain⟨N,hN⟩:∃N,N=k:=⟨_,rfl⟩
   subst hN;obtain⟨w1,cm⟩:∃x,x=wr:=⟨_,rfl⟩
   subst cm;clear O B hk;go_loopw [9,37] (λv i wr=>∃k:Nat,k<=N/\i=.int .i64 (k:Nat)/\OwnTT wr w.heap.size 242 30 2 v k N (λi=>DQ (zI low f i))/\Below w.heap.size w wr) (λ_ i _=>N-(RowKit.intOf i).toNat)
   case atStart=>exact⟨0,La _,rfl,ao,HB.out⟩
   case round =>
    clear ao;obtain⟨k,hk,rfl,a,l⟩:=hrel;by_cases B:k<N
    ·have O:(k:Int)<(N:Int):=x3;obtain⟨b,off,rfl,hc⟩:=(HR.out.below l) x3;obtain⟨Ai,ci,_,cb,Q,D⟩:=hc k B;obtain⟨bi,F,rfl,G⟩:=D.num (show 0<N by omega);replace Q:wr.cell? ⟨b,off+k,none⟩=some (.slice (some ⟨bi,F,none⟩) N ci):=Q;have cc:(0:Int)<=(k:Int):=x3;have r:=hV G;clear hc D G;have y:=hV (k0 a l);clear a l;go_wp2_with fail
     obtain⟨t,R⟩:∃x,x=wr:=⟨_,rfl⟩
     subst R;have aw:=OwnK.nil_ t t.heap.size 30 2 (DQ (zI low f k));go_loopw [12,43] (λv i wr=>∃q:Nat,q<=N/\i=.int .i64 (q:Nat)/\OwnK wr t.heap.size 30 2 v q (DQ (zI low f k))/\Below t.heap.size t wr) (λ_ i _=>N-(RowKit.intOf i).toNat)
     case atStart=>exact⟨0,La _,rfl,aw,l3 _ _⟩
     case round =>
      clear Q aw;obtain⟨q,hq,rfl,a,g⟩:=hrel;by_cases m:q<N
      ·have o:=Vp g (.cells #[.bool (bs k q),.string (I k q),.int .i64 (J k q)] 32);have g2:=Ld g (r.out q m).1;have g3:=Ld g (r.out q m).2.1;have g4:=Ld g (r.out q m).2.2;have T:(q:Int)<(N:Int):=x3;have cd:(0:Int)<=(q:Int):=x3;obtain⟨p1,p2,p3,_,_,_⟩:=(Bx.new wr 32 #[.bool (bs k q),.string (I k q),.int .i64 (J k q)]).three;have cF:=hV (Pv (HX.out k q) (wr.alloc (.cells #[.bool (bs k q),.string (I k q),.int .i64 (J k q)] 32)) (Ql HT.out (nxt y.out.2 o)));replace a:=a.below (b1 wr (.cells #[.bool (bs k q),.string (I k q),.int .i64 (J k q)] 32));have p:=hV (k0 a o);clear g o a;go_wp2_with fail
       refine cF.out.mono ?_
       rintro e w6 ⟨rfl,H⟩;obtain⟨a,l⟩:=p.out;replace a:=a.below H;replace l:=nxt l H;clear H cF p1 p2 p3 g2 g3 g4 p;replace a:=a.below (b1 w6 (.cells #[.bool (neg (dm (f k q))),.string (Qx (dm (f k q))),.int .i64 (de (f k q))] 32));replace l:=Vp l (.cells #[.bool (neg (dm (f k q))),.string (Qx (dm (f k q))),.int .i64 (de (f k q))] 32);have YX:=Bx.new w6 32 #[.bool (neg (dm (f k q))),.string (Qx (dm (f k q))),.int .i64 (de (f k q))];have u:=(V4 (K.out k q)).1;have aB:=(V4 (K.out k q)).2.1;have bd:=M.out.2.2 k q B m;have bk:=Ft (K.out k q);have bl:=ag.out;have HZ:=hV (show zI low f k q=Xo (dm (f k q)) (de (f k q)-low)from rfl);obtain⟨E,U⟩:∃E,de (f k q)=E:=⟨_,rfl⟩
       obtain⟨Z,hZ⟩:∃Z,dm (f k q)=Z:=⟨_,rfl⟩
       rw[U]at u aB bd;rw[hZ]at bk;rw[U,hZ]at l a YX HZ ⊢;have cn:-2000000<=E-low:=x3;have cp:E-low<=2000000:=x3;have cS:=hV (λW h=>lC Z (E-low) W x3 x3 x3 h);clear U hZ u aB bd bk bl;have p:=hV (k0 a l);clear a l;go_upto_region 20 with(fail)
       obtain⟨a,l⟩:=p.out;generalize w6.alloc (.cells #[.bool (neg Z),.string (Qx Z),.int .i64 E] 32)=w8 at *;obtain⟨p1,p2,p3,_,_,_⟩:=YX.three;have p:=hV (k0 a l);clear a l YX;go_wp2_with fail
       refine(cS.out _ (Ql HT.out (nxt y.out.2 p.out.2))).mono ?_
       rintro e Y ⟨rfl,H⟩;obtain⟨a,l⟩:=p.out;replace a:=a.below H;replace l:=nxt l H;rw[<- HZ.out];clear H cS p p1 p2 p3 cn cp;have hO:=a.below (b1 Y (.cells #[.bool (neg (zI low f k q)),.string (Qx (zI low f k q))] 30));have ZR:=Bx.new Y 30 #[.bool (neg (zI low f k q)),.string (Qx (zI low f k q))];have HN:=hV (show ∀j,j<1->∀i,i<2->(Y.alloc (.cells #[.bool (neg (zI low f k q)),.string (Qx (zI low f k q))] 30)).cell? ⟨Y.heap.size,0+j*2+i,none⟩=((DQ (λj=>zI low f k (q+j))) j)[i]? from λj P i hi=>by
        have cq:j=0:=x3;have cr:i=0\/i=1:=x3;subst cq;rcases cr with rfl|rfl<;>simp[ZR.cel,DQ])
       have HO:=hV (k0 hO (Vp l (.cells #[.bool (neg (zI low f k q)),.string (Qx (zI low f k q))] 30)));have ct:=hV (show t.heap.size<=(Y.alloc (.cells #[.bool (neg (zI low f k q)),.string (Qx (zI low f k q))] 30)).heap.size by have:=l.size;simp;omega);have bX:=hV (show q+1<=9223372036854775807/\(q+1)*24<=140737488355328 by omega);clear hO ZR a l;go_wp2_with (at_builtin;refine IW rfl (.tmp 49) (.tmp 57) _ rfl t.heap.size 30 _ 2 24 Tryz.underlying242 jr rfl x4 _ q (DQ (zI low f k)) rfl HO.out.1 ⟨Y.heap.size,0,none⟩ 1 1 (DQ (λj=>zI low f k (q+j))) (λ_=>rfl) (λ_=>rfl) (ic _) rfl rfl HN.out bX.out.1 bX.out.2 ct.out ?_;intro v' cM cu cy)
       have V:=cu.congr (f':=DQ (zI low f k)) (λj P=>by
        split
        ·rfl
        ·rename_i h;unfold DQ;dsimp only;rw[show q+(j-q)=j by omega])
       exact⟨⟨q+1,x3,by go_num,V,tv HO.out.2 cy (L8 _)⟩,by simp[RowKit.intOf];omega⟩
      ·obtain rfl:q=N:=x3;have T:¬(q:Int)<(q:Int):=x3;obtain⟨C,d,rfl,_⟩:=OwnK.rd (k:=2) (λ_=>rfl) a;have bY:=a.below (b1 wr (.cells #[.slice C q d] 242));have Z:=(Bx.new wr 242 #[.slice C q d]).cel 0;have ca:Below t.heap.size t (wr.alloc (.cells #[.slice C q d] 242)):=Vp g (.cells #[.slice C q d] 242);have cA:w.heap.size<=t.heap.size:=y.out.2.size;have cC:k+1<=9223372036854775807:=x3;have cD:(k+1)*24<=140737488355328:=x3;have cG:=hV (nxt y.out.2 ca);have X:=y.out.1;clear a g y;go_wp2_with (at_builtin;refine Fl rfl (.tmp 60) (.tmp 62) _ rfl w.heap.size 242 30 (.slice none 0 0) 2 24 Tryz.underlying195 ft rfl u9 k q (λi=>DQ (zI low f i)) rfl t X ca ⟨wr.heap.size,0,none⟩ rfl rfl C d Z bY cA cC cD ?_;intro v2 w7 V cL)
       exact⟨⟨k+1,x3,by go_num,V,tv cG.out cL (L8 _)⟩,by simp[RowKit.intOf];omega⟩
    ·obtain rfl:k=N:=x3;have O:¬(k:Int)<(k:Int):=x3;go_wp2
     go_ret2
     exact⟨⟨_,low,rfl,M.out.1,M.out.2.1,λi j hi P=>M.out.2.2 i j hi P,a⟩,l⟩
