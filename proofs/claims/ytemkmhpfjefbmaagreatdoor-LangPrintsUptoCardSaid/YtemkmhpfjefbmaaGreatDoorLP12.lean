/- Laws beneath the statement. -/
import Derived.Test.YtemkmhpfjefbmaaGreatDoorLP7
import Derived.Test.YtemkmhpfjefbmaaGreatDoorLP11
import Derived.Test.YtemkmhpfjefbmaaGreatDoorLP5
namespace Go.Proofs.YtemkmhpfjefbmaaGreatDoor
set_option linter.defProp false
open Tryz
set_option maxHeartbeats 4000000
set_option maxRecDepth 100000
open Go.RowKit
def RW(s t:ByteArray)(w:World)(j:s.size<=268435456)(k:t.size<=268435456)(d:Qa t=0):
  xP prog 173 #[.string s,.string t] w (.tuple #[.string ⟨#[]⟩,.string ⟨#[]⟩,.bool false]):=by
 have cs:=x0f (λW=>QR s W j);have f:=x0f (λW=>QR t W k);rw[d,EF]at f;clear d;go_enter func173,ntmps173
 go_wp2_with fail
 refine(cs.out w).mono ?_
 rintro e m ⟨A,c,rfl,n,p,g⟩;go_wp2_with fail
 refine(f.out m).mono ?_
 rintro e q ⟨r,u,rfl,i,o,a⟩;have b:=QW g a g.size;go_wp2
 go_ret3
 exact⟨rfl,b⟩
def aD(s t:ByteArray)(w:World)(hs:s.size<=16777216)(ht:t.size<=16777216)(h0:0<Qa t):
  xP prog 173 #[.string s,.string t] w (.tuple #[.string (QL (Qa s / Qa t)),.string (QL (Qa s % Qa t)),.bool true]):=by
 have B1:=x0f (show nd 1 (Qa s)<=134217728 by have:=Xy s;omega);have B2:=x0f (show nd 1 (Qa t)<=134217728 by have:=Xy t;omega);have l1:=x0f (XX (Qa s));have l2:=x0f (XX (Qa t));have cs:=x0f (λW=>QR s W x3);have ct:=x0f (λW=>QR t W x3);have cj:0<nd 1 (Qa t):=GV _ x3;generalize Qa s=u at *;generalize Qa t=v at *;obtain⟨N,hN⟩:∃N,N=nd 1 u:=⟨_,rfl⟩
 obtain⟨M,hM⟩:∃M,M=nd 1 v:=⟨_,rfl⟩
 rw[<- hN]at B1 l1 cs;rw[<- hM]at B2 l2 ct cj;have HM:=x0f hM;have cO:=B1.out;have ad:=B2.out;have ck:1*N<=281474976710656:=x3;have cl:N<=9223372036854775807:=x3;have H0:=x0f h0;clear hN hM h0;go_enter func173,ntmps173
 go_wp2_with fail
 refine(cs.out w).mono ?_
 rintro e w1 ⟨A,c,rfl,cP,hr,hb⟩;go_wp2_with fail
 refine(ct.out w1).mono ?_
 rintro e K ⟨A',c',rfl,cN,ag,L⟩;have ao:=QW hb L hb.size;have g:=hr.below L;clear hr hb L;have cm:=x0f g;go_wp2_with (at_make;refine Yt rfl (.tmp 20) (.tmp 20) _ rfl 5 (.int .u8 0) 1 Ho uh rfl .i64 .i64 _ _ N rfl rfl rfl rfl ck cl ?_;intro w3 hC hB f)
 have aw:=x0f ao;have cn:=x0f ag;clear g ag ao;go_loopw [10,11] (λrs i wr=>∃p m Z:Nat,∃A0:Option Addr,p<=N/\i=.int .i64 ((p:Int)-1)/\rs=.slice A0 m Z/\Hid ((A0=none->m=0/\Z=0)/\m=nd 1 (u / 2^p % v)/\m<=Z/\Rd wr A0 m (Xn (u / 2^p % v)))/\Cel wr K.heap.size 5 N (λj=>if p<=j then Xn (u / v) j else .int .u8 0)/\Below K.heap.size K wr) (λ_ i _=>(intOf i+1).toNat)
 case atStart=>exact⟨N,0,0,none,L4 _,rfl,rfl,⟨λ_=>⟨rfl,rfl⟩,by rw[Sg l1.out,Nat.zero_mod,EF],L4 _,Rd.nil_⟩,hC.congr λj hj=>by rw[if_neg x3],hB⟩
 case round =>
  obtain⟨p,m,Z,A0,hp,rfl,rfl,C,D,k⟩:=hrel;rcases p with _|q
  ·have e0:((0:Nat):Int)-1=-1:=rfl;rw[e0];clear e0;have hm:=C.out.2.1;have l:=C.out.2.2.2;have cp:=x0f C.out.2.2.1;rw[Tx,Vf]at hm l;have x:u % v<v:=Re _ H0.out;have cr:m<=134217728:=by
    rw[hm];exact L6 (AY x4 (Sv x)) (by rw[<- HM.out];exact ad)
   have aB:u / v<2^N:=Lw (Rn _ _) l1.out;have g:u % v<2^m:=by rw[hm];exact XX _
   have bc:=(D.rd (o:=0) (n:=N) x3).congr (f':=Xn (u / v)) (λj hj=>by simp only[Lm];rw[if_pos (L7 _)]);have cq:=x0f (XP _ N N (u / v) wr x3 (L4 _) aB bc);have cu:=x0f (λW (h:Below wr.heap.size wr W)=>XP A0 m Z (u % v) W x3 cp.out g (l.below h));clear hm x aB g bc l C D;go_wp2_with fail
   refine cq.out.mono ?_
   rintro e w5 ⟨rfl,bd⟩;go_wp2_with fail
   refine(cu.out _ bd).mono ?_
   rintro e w6 ⟨rfl,y⟩;go_wp2
   go_ret3
   have h1:=QW aw.out k aw.out.size;have h2:=QW h1 bd h1.size;exact⟨rfl,QW h2 y h2.size⟩
  ·have e0:((q+1:Nat):Int)-1=(q:Int):=x3;rw[e0];clear e0;obtain⟨b,off,rfl,hc⟩:=cm.out x3;have g1:wr.cell? ⟨b,off+q,none⟩=some (.int .u8 (QG 2 u q:Nat)):=Lj k (hc q x3);have HC:=x0f hc;clear hc;have bi:QG 2 u q<2:=YO x4 _ _;have O:=x0f (gD u v q H0.out);have cw:=x0f C.out.1;have l:=x0f C.out.2.2.2;have x:u / 2^(q+1) % v<v:=Re _ H0.out;have cr:m<=134217728:=by
    rw[C.out.2.1];exact L6 (AY x4 (Sv x)) (by rw[<- HM.out];exact ad)
   have bk:u / 2^(q+1) % v<2^m:=by rw[C.out.2.1];exact XX _
   have cy:1+m<=maxLen:=by unfold maxLen;omega
   have cA:(1+m)*1<=140737488355328:=x3;obtain⟨X,E⟩:∃X,X=2*(u / 2^(q+1) % v)+QG 2 u q:=⟨_,rfl⟩
   have bl:X<2^(1+m):=by rw[E,Lz 2 1 m,Tu];exact(λ(r d M:Nat) (h1:r<M) (h2:d<2)=>show 2*r+d<2*M by omega) _ _ _ bk bi
   have cB:=x0f (I5 (u / 2^(q+1) % v) (QG 2 u q) · bi);rw[<- E]at O;have cC:=x0f E;have bm:=x0f bl;have cD:=x0f (λ(o:Obj)=>show wr.heap.size<=(wr.alloc o).heap.size by simp);have bn:=x0f (OwnR.one wr wr.heap.size 5 (Xn u q) (L4 _));have bp:=x0f (λ(o:Obj)=>l.out.alloc o);clear C E bl x bk;go_wp2_with (at_builtin;refine G0 rfl (.tmp 33) (.tmp 34) _ rfl wr.heap.size 5 (.int .u8 0) 1 Ho uh rfl _ 1 (λ_=>Xn u q) A0 m Z (Xn (u / 2^(q+1) % v)) rfl rfl cw.out bn.out (bp.out _) (λ_=>rfl) cy cA (cD.out _) ?_;intro v4 w4 z bq cF)
   have B:OwnR w4 wr.heap.size 5 v4 (1+m) (Xn X):=z.congr λj _=>by
    unfold Xn;rw[cC.out,cB.out j];split<;>rfl
   obtain⟨A4,c4,rfl,bs,F,_⟩:=B.rd;obtain⟨b4,o4,rfl,_⟩:=F x3;have P:Below wr.heap.size wr w4:=((p5 _ _).alloc (L4 _) _).trans bq;have bu:=D.bel P;have G:=QW k P k.size;have cG:nd 1 X<=1+m:=Xf x4 (by rw[Tu];exact bm.out);have bv:=x0f (VJ _ (1+m) c4 X w4 x3 bs bm.out F);have Q:=F.of_le cG;have R:=cn.out.below G;have I:=x0f (VI _ A' (nd 1 X) M c4 c' X v w4 x3 x3 (XX X) l2.out Q R);have bX:nd 1 X<=c4:=x3;have bY:=x0f Q;have cH:=x0f R;have S:=x0f bu;clear z B cF F bq P Q R bu D k;go_wp2_with fail
   refine bv.out.mono ?_
   rintro e w' ⟨rfl,rfl⟩;by_cases f:X<v
   ·have h1:Xe X v<0:=cmpI_lt.2 f;have T:=x0f (O.out.2.1 f);clear f;go_wp2_with fail
    refine I.out.mono ?_
    rintro e w' ⟨rfl,rfl⟩;go_wp2
    refine⟨⟨q,nd 1 X,c4,_,x3,rfl,rfl,⟨(λh=>by cases h),by rw[T.out.1],bX,by rw[T.out.1];exact bY.out⟩,S.out.congr λj hj=>?_,G⟩,by simp[intOf]⟩;by_cases e:j=q
    ·subst e;rw[if_neg x3,if_pos (L4 _)];unfold Xn;rw[T.out.2];rfl
    ·by_cases e2:q<=j
     ·rw[if_pos x3,if_pos e2]
     ·rw[if_neg x3,if_neg e2]
   ·have h1:0<=Xe X v:=x8 (mt cmpI_lt.1 f);have U:v<=X:=x3;have T:=x0f (O.out.2.2 U);have ca:=x0f (BA _ A' (nd 1 X) M c4 c' X v w4 x3 x3 (XX X) l2.out U bY.out cH.out);have J:X-v<2^nd 1 X:=Lw (V9 _ _) (XX X);have cb:=x0f J;clear f U J;go_wp2_with fail
    refine I.out.mono ?_
    rintro e w' ⟨rfl,rfl⟩;go_wp2_with fail
    refine ca.out.mono ?_
    rintro e w6 ⟨g6,rfl,y,cR,V⟩;have Y:=x0f (VJ _ (nd 1 X) (nd 1 X) (X-v) w6 x3 (L4 _) cb.out V);have H:=S.out.bel y;have cL:=QW G y G.size;have cd:nd 1 (X-v)<=nd 1 X:=AY x4 (V9 _ _);have cM:=x0f (V.of_le cd);have g2:w6.cell? ⟨K.heap.size,q,none⟩=some (.int .u8 0):=by rw[H.cell x3,if_neg x3]
    have g3:=H.frozen q;have cf:=x0f (H.set_ q (.int .u8 1));have ch:=x0f (show ∀(u:Value),Rd (w6.setCell ⟨K.heap.size,q,none⟩ u) (some ⟨g6,0,none⟩) (nd 1 (X-v)) (Xn (X-v))from λu=>cM.out.keep λp _ hp=>World.cell?_of_block (a:=p) (Sr w6 _ u p.block (λe=>by
     have h1:p.block=g6:=hp _ rfl;have h2:p.block=K.heap.size:=e;have h3:K.heap.size<w4.heap.size:=S.out.lt;omega)))
    clear V H y;go_wp2_with fail
    refine Y.out.mono ?_
    rintro e w' ⟨rfl,rfl⟩;go_wp2
    refine⟨⟨q,nd 1 (X-v),nd 1 X,_,x3,rfl,rfl,⟨(λh=>by cases h),by rw[T.out.1],cd,by rw[T.out.1];exact ch.out _⟩,cf.out.congr λj hj=>?_,cL.setCell (L4 _) _⟩,by simp[intOf]⟩;by_cases e:j=q
    ·subst e;simp only[if_true];rw[if_pos (L4 _)];unfold Xn;rw[T.out.2];rfl
    ·simp only[if_neg e];by_cases e2:q<=j
     ·rw[if_pos x3,if_pos e2]
     ·rw[if_neg x3,if_neg e2]
def In(s t:xM)(w:xH)(b:s.size<=16777216)(c:t.size<=16777216):
  xP prog 173 #[.string s,.string t] w (if Qa t=0 then .tuple #[.string ⟨#[]⟩,.string ⟨#[]⟩,.bool false]else .tuple #[.string (QL (Qa s / Qa t)),.string (QL (Qa s % Qa t)),.bool true]):=by
 by_cases a:Qa t=0
 ·rw[if_pos a];exact RW s t w x3 x3 a
 ·rw[if_neg a];exact aD s t w b c x3
def j6(v:Nat)(x:Int)(w:xH)(a:v<LB)(b:x=(v:Int)):
 xP prog 127 #[.int .u64 x] w (.string (QL v)):=by subst b;exact gZ v w a
def VY(s:xM)(A:xN)(c:Nat)(w:xH)(f:s.size<=268435456)(a:nd 1 (Qa s)<=c)(b:Rd w A (nd 1 (Qa s)) (Xn (Qa s))):
  xP prog 174 #[.slice A (nd 1 (Qa s)) c] w (.string (QL (Qa s))) :=
 XP A _ c _ w (x8 (Xy s)) a (XX _) b
def XF(s:ByteArray)(b:Bool)(w:World)(y:s.size<=268435456):
  xP prog 166 #[.agg #[.bool b,.string s]] w (.agg #[.bool (neg (Qe b (Qa s))),.string (QJ (Qe b (Qa s)))]):=by
 have k:=nB b (Qa s);have l:=B4 b (Qa s);have z:=x0f (λW=>QR s W y);obtain⟨t,C⟩:∃t,t=QL (Qa s):=⟨_,rfl⟩
 have B:=x0f C.symm;have g:=nstr_empty (v:=Qa s);rw[<- C]at l g;clear C;by_cases m:Qa s=0
 ·have M:t.toList=[]:=g.2 m;replace k:neg (Qe b (Qa s))=false:=by rw[k,m];cases b<;>rfl
  cases b
  ·have n:=x0f k;have o:=x0f l;clear k l g m;go_enter func166,ntmps166
   go_wp2_with fail
   have f:=(Bx.new w 30 #[.bool false,.string s]).alloc (.cells #[.bool false,.string ⟨#[]⟩] 30);have d:=Bx.at1 w (.cells #[.bool false,.string s] 30) 30 #[.bool false,.string ⟨#[]⟩];have i:=b2 w (.cells #[.bool false,.string s] 30) (.cells #[.bool false,.string ⟨#[]⟩] 30);generalize (w.alloc (.cells #[.bool false,.string s] 30)).alloc (.cells #[.bool false,.string ⟨#[]⟩] 30)=D at *;have p:=f.lt;have q:=d.lt;refine(z.out _).mono ?_
   rintro e r ⟨A,c,rfl,j,u,a⟩;replace f:=f.later a;replace d:=d.later a;replace i:=nxt i a;clear a;have x:=x0f (VY s A c r y j u);go_wp2_with fail
   refine x.out.mono ?_
   rintro e E ⟨rfl,a⟩;rw[B.out];replace f:=f.later a;replace d:=d.later a;replace i:=nxt i a;clear a;let⟨F,G,_,_⟩:=f.two;let⟨q1,H,I,J⟩:=d.two;go_wp2
   exact bodyPost_ret (v:=.agg #[.bool false,.string t]) (by simp[results,results166,go_sem,(d.set2 _ _).cel]) rfl ⟨by rw[n.out,o.out],aq i (Rm _ 1) _ _⟩
  ·have n:=x0f k;have o:=x0f l;clear k l g m;go_enter func166,ntmps166
   go_wp2_with fail
   have f:=(Bx.new w 30 #[.bool true,.string s]).alloc (.cells #[.bool false,.string ⟨#[]⟩] 30);have d:=Bx.at1 w (.cells #[.bool true,.string s] 30) 30 #[.bool false,.string ⟨#[]⟩];have i:=b2 w (.cells #[.bool true,.string s] 30) (.cells #[.bool false,.string ⟨#[]⟩] 30);generalize (w.alloc (.cells #[.bool true,.string s] 30)).alloc (.cells #[.bool false,.string ⟨#[]⟩] 30)=D at *;have p:=f.lt;have q:=d.lt;refine(z.out _).mono ?_
   rintro e r ⟨A,c,rfl,j,u,a⟩;replace f:=f.later a;replace d:=d.later a;replace i:=nxt i a;clear a;have x:=x0f (VY s A c r y j u);go_wp2_with fail
   refine x.out.mono ?_
   rintro e E ⟨rfl,a⟩;rw[B.out];replace f:=f.later a;replace d:=d.later a;replace i:=nxt i a;clear a;let⟨F,G,_,_⟩:=f.two;let⟨q1,H,I,J⟩:=d.two;go_wp2
   exact bodyPost_ret (v:=.agg #[.bool false,.string t]) (by simp[results,results166,go_sem,(d.set2 _ _).cel]) rfl ⟨by rw[n.out,o.out],aq i (Rm _ 1) _ _⟩
 ·have M:t.toList.isEmpty=false:=by
   rw[U4];exact λh=>m (g.1 h)
  have K:(Qa s==0)=false:=l3 m;rw[K]at k;cases b
  ·have n:=x0f k;have o:=x0f l;clear k l g K m;go_enter func166,ntmps166
   go_wp2_with fail
   have f:=(Bx.new w 30 #[.bool false,.string s]).alloc (.cells #[.bool false,.string ⟨#[]⟩] 30);have d:=Bx.at1 w (.cells #[.bool false,.string s] 30) 30 #[.bool false,.string ⟨#[]⟩];have i:=b2 w (.cells #[.bool false,.string s] 30) (.cells #[.bool false,.string ⟨#[]⟩] 30);generalize (w.alloc (.cells #[.bool false,.string s] 30)).alloc (.cells #[.bool false,.string ⟨#[]⟩] 30)=D at *;have p:=f.lt;have q:=d.lt;refine(z.out _).mono ?_
   rintro e r ⟨A,c,rfl,j,u,a⟩;replace f:=f.later a;replace d:=d.later a;replace i:=nxt i a;clear a;have x:=x0f (VY s A c r y j u);go_wp2_with fail
   refine x.out.mono ?_
   rintro e E ⟨rfl,a⟩;rw[B.out];replace f:=f.later a;replace d:=d.later a;replace i:=nxt i a;clear a;let⟨F,G,_,_⟩:=f.two;let⟨q1,H,I,J⟩:=d.two;go_wp2
   exact bodyPost_ret (v:=.agg #[.bool false,.string t]) (by simp[results,results166,go_sem,(d.set2 _ _).cel]) rfl ⟨by rw[n.out,o.out];rfl,aq i (Rm _ 1) _ _⟩
  ·have n:=x0f k;have o:=x0f l;clear k l g K m;go_enter func166,ntmps166
   go_wp2_with fail
   have f:=(Bx.new w 30 #[.bool true,.string s]).alloc (.cells #[.bool false,.string ⟨#[]⟩] 30);have d:=Bx.at1 w (.cells #[.bool true,.string s] 30) 30 #[.bool false,.string ⟨#[]⟩];have i:=b2 w (.cells #[.bool true,.string s] 30) (.cells #[.bool false,.string ⟨#[]⟩] 30);generalize (w.alloc (.cells #[.bool true,.string s] 30)).alloc (.cells #[.bool false,.string ⟨#[]⟩] 30)=D at *;have p:=f.lt;have q:=d.lt;refine(z.out _).mono ?_
   rintro e r ⟨A,c,rfl,j,u,a⟩;replace f:=f.later a;replace d:=d.later a;replace i:=nxt i a;clear a;have x:=x0f (VY s A c r y j u);go_wp2_with fail
   refine x.out.mono ?_
   rintro e E ⟨rfl,a⟩;rw[B.out];replace f:=f.later a;replace d:=d.later a;replace i:=nxt i a;clear a;let⟨F,G,_,_⟩:=f.two;let⟨q1,H,I,J⟩:=d.two;go_wp2
   exact bodyPost_ret (v:=.agg #[.bool true,.string t]) (by simp[results,results166,go_sem,(d.set2 _ _).cel]) rfl ⟨by rw[n.out,o.out];rfl,aq i (Rm _ 1) _ _⟩
def aP(v:Nat)(w:World)(n:0<v)(o:v<=9223372036854775808):
  xP prog 83 #[.int .i64 (-(v:Int))] w (.agg #[.bool (neg (-(v:Int))),.string (QJ (-(v:Int)))]):=by
 have b:neg (-(v:Int))=true:=Lk x3;have c:QJ (-(v:Int))=QL v:=by unfold QJ;rw[Int.natAbs_neg,Int.natAbs_natCast]
 rw[b,c];have co:=x0f (λW x g=>j6 v x W (by rw[Jo];omega) g);have i:IntKind.u64.wrap ((v:Int)-1)=(v:Int)-1:=by rw[b7];omega
 have j:IntKind.u64.wrap ((v:Int)-1+1)=(v:Int):=by rw[b7];omega
 have k:IntKind.u64.wrap (v:Int)=(v:Int):=by rw[b7];omega
 have l:IntKind.u64.wrap (-(-(v:Int)+1))=(v:Int)-1:=by rw[b7];omega
 clear b c;go_enter func83,ntmps83
 have X:=Bx.new w 30 #[.bool false,.string ⟨#[]⟩];go_wp2_with fail
 refine(co.out _ _ x3).mono ?_
 rintro e p ⟨rfl,a⟩;have d:=X.later a;have m:=nxt (b1 w _) a;clear a X;let⟨r1,q,r,s⟩:=d.two;go_wp2
 exact bodyPost_ret (v:=.agg #[.bool true,.string (QL v)]) (by simp[results,results83,go_sem,(d.set2 _ _).cel]) rfl ⟨rfl,aq m (L4 _) _ _⟩
def aQ(v:Nat)(w:World)(k:v<=9223372036854775807):
  xP prog 83 #[.int .i64 (v:Int)] w (.agg #[.bool (neg ((v:Int))),.string (QJ ((v:Int)))]):=by
 have b:neg (v:Int)=false:=Lc x3;have c:QJ (v:Int)=QL v:=by unfold QJ;rw[Int.natAbs_natCast]
 rw[b,c];have co:=x0f (λW x g=>j6 v x W (by rw[Jo];omega) g);have i:IntKind.u64.wrap (v:Int)=(v:Int):=by rw[b7];omega
 clear b c;go_enter func83,ntmps83
 have X:=Bx.new w 30 #[.bool false,.string ⟨#[]⟩];go_wp2_with fail
 refine(co.out _ _ rfl).mono ?_
 rintro e l ⟨rfl,a⟩;have d:=X.later a;have j:=nxt (b1 w _) a;clear a X;let⟨r1,m,n,o⟩:=d.two;go_wp2
 exact bodyPost_ret (v:=.agg #[.bool false,.string (QL v)]) (by simp[results,results83,go_sem,(d.set2 _ _).cel]) rfl ⟨rfl,aq j (L4 _) _ _⟩
def BB(n:Int)(w:xH)(b:-9223372036854775808<=n)(c:n<=9223372036854775807):
  xP prog 83 #[.int .i64 n] w (.agg #[.bool (neg n),.string (QJ n)]):=by
 by_cases h:n<0
 ·obtain⟨v,rfl⟩:∃v:Nat,n=-(v:Int):=⟨n.natAbs,x3⟩
  exact aP v w x3 x3
 ·obtain⟨v,rfl⟩:∃v:Nat,n=(v:Int):=⟨n.natAbs,x3⟩
  exact aQ v w x3
def SP(s:ByteArray)(b:Bool)(w:World)(d:s.size<=268435456):
  xP prog 231 #[.agg #[.bool b,.string s]] w (.agg #[.bool (neg (-Qe b (Qa s))),.string (QJ (-Qe b (Qa s)))]):=by
 rw[<- nD];have g:=x0f (λW=>XF s (!b) W d);go_enter func231,ntmps231
 go_wp2_with fail
 have i:=(Bx.new w 30 #[.bool b,.string s]).alloc (.cells #[.bool false,.string ⟨#[]⟩] 30);have a:=Bx.at1 w (.cells #[.bool b,.string s] 30) 30 #[.bool false,.string ⟨#[]⟩];have j:=b2 w (.cells #[.bool b,.string s] 30) (.cells #[.bool false,.string ⟨#[]⟩] 30);generalize (w.alloc (.cells #[.bool b,.string s] 30)).alloc (.cells #[.bool false,.string ⟨#[]⟩] 30)=m at *;have k:=i.lt;have l:=a.lt;refine(g.out _).mono ?_
 rintro e n ⟨rfl,c⟩;let⟨r1,o,p,q⟩:=(a.later c).two;go_wp2
 exact bodyPost_ret (v:=.agg #[.bool (neg (Qe (!b) (Qa s))),.string (QJ (Qe (!b) (Qa s)))]) (by simp[results,results231,go_sem,((a.later c).set2 _ _).cel]) rfl ⟨rfl,aq (nxt j c) (Rm _ 1) _ _⟩
def Ko(s:ByteArray)(b:Bool)(w:World)(k:s.size<=268435456):
  xP prog 123 #[.agg #[.bool b,.string s]] w (.int .i64 (JZ (Qe b (Qa s)))):=by
 have f:=x0f (λW=>aE s W k);by_cases c:Qa s=0
 ·have d:=x0f (show JZ (Qe b (Qa s))=0 by rw[c,Ox];rfl);have g:nd 1 (Qa s)=0:=by rw[c];rfl
  rw[g]at f;clear c g;go_enter func123,ntmps123
  go_wp2_with fail
  refine(f.out _).mono ?_
  rintro e j ⟨rfl,a⟩;go_wp2
  go_ret
  exact⟨by rw[d.out];rfl,nxt (b1 w _) a⟩
 ·have g:0<nd 1 (Qa s):=GV _ c;have m:(((nd 1 (Qa s):Nat):Int)==0)=false:=x7;cases b
  ·have d:=x0f (show JZ (Qe false (Qa s))=1 by unfold JZ Qe;simp;omega);clear c;go_enter func123,ntmps123
   have i:=Bx.new w 30 #[.bool false,.string s];go_wp2_with fail
   refine(f.out _).mono ?_
   rintro e j ⟨rfl,a⟩;let⟨n,o,_,_⟩:=(i.later a).two;go_wp2
   go_ret
   exact⟨by rw[d.out];rfl,nxt (b1 w _) a⟩
  ·have d:=x0f (show JZ (Qe true (Qa s))=-1 by unfold JZ Qe;simp;omega);clear c;go_enter func123,ntmps123
   have i:=Bx.new w 30 #[.bool true,.string s];go_wp2_with fail
   refine(f.out _).mono ?_
   rintro e j ⟨rfl,a⟩;let⟨n,o,_,_⟩:=(i.later a).two;go_wp2
   go_ret
   exact⟨by rw[d.out];rfl,nxt (b1 w _) a⟩
def RJ(b a:Bool)(u v:Nat):Qe b u*Qe a v=Qe (!(b==a)) (u*v):=by
 cases b<;>cases a<;>simp[Qe,Int.neg_mul,Int.mul_neg]
def M5(s t:ByteArray)(b d:Bool)(w:World)(q:s.size<=16777216)(r:t.size<=16777216):
  xP prog 232 #[.agg #[.bool b,.string s],.agg #[.bool d,.string t]] w (.agg #[.bool (neg (Qe b (Qa s)*Qe d (Qa t))),.string (QJ (Qe b (Qa s)*Qe d (Qa t)))]):=by
 have g:(QL (Qa s*Qa t)).size<=268435456:=by
  have h:=Js (GN false s) (GN false t);rw[<- XU,show Qe false (Qa s)*Qe false (Qa t)=Qe false (Qa s*Qa t)by simp[Qe],B4]at h;omega
 have u:=x0f (λW=>aG s t W q r);have n:=x0f (λW=>XF (QL (Qa s*Qa t)) (!(b==d)) W g);rw[XT,<- RJ]at n;clear g;go_enter func232,ntmps232
 go_wp2_with fail
 have o:=((Bx.new w 30 #[.bool b,.string s]).alloc (.cells #[.bool d,.string t] 30)).alloc (.cells #[.bool false,.string ⟨#[]⟩] 30);have p:=(Bx.at1 w (.cells #[.bool b,.string s] 30) 30 #[.bool d,.string t]).alloc (.cells #[.bool false,.string ⟨#[]⟩] 30);have m:=Bx.at2 w (.cells #[.bool b,.string s] 30) (.cells #[.bool d,.string t] 30) 30 #[.bool false,.string ⟨#[]⟩];have x:=b3 w (.cells #[.bool b,.string s] 30) (.cells #[.bool d,.string t] 30) (.cells #[.bool false,.string ⟨#[]⟩] 30);generalize ((w.alloc (.cells #[.bool b,.string s] 30)).alloc (.cells #[.bool d,.string t] 30)).alloc (.cells #[.bool false,.string ⟨#[]⟩] 30)=y at *;have z:=o.lt;have A:=p.lt;have B:=m.lt;let⟨i,j,C,D⟩:=(o).two;let⟨q1,k,E,F⟩:=(p).two;let⟨r1,G,H,I⟩:=(m).two;go_region_held3 (λf=>f.cell? ⟨w.heap.size,0,none⟩=some (.bool b)/\f.cell? ⟨w.heap.size,1,none⟩=some (.string s)/\f.cell? ⟨w.heap.size+1,0,none⟩=some (.bool d)/\f.cell? ⟨w.heap.size+1,1,none⟩=some (.string t)) (first|exact⟨i,j,q1,k⟩|exact⟨Lj c i,Lj c j,Lj c q1,Lj c k⟩|exact⟨Lj (b1 _ _) i,Lj (b1 _ _) j,Lj (b1 _ _) q1,Lj (b1 _ _) k⟩|exact⟨Lj a (Lj c i),Lj a (Lj c j),Lj a (Lj c q1),Lj a (Lj c k)⟩|exact⟨Jb (Lj a (Lj c i)) x3 _ _,Jb (Lj a (Lj c j)) x3 _ _,Jb (Lj a (Lj c q1)) x3 _ _,Jb (Lj a (Lj c k)) x3 _ _⟩|go_keep)
  (first
   |(go_at_call 273;refine(u.out y.drew).mono ?_;rintro e wn ⟨rfl,l⟩;have c:=F5 l;clear l)
   |(go_at_call 166;refine(n.out wn).mono ?_;rintro e J ⟨rfl,a⟩;let⟨K,L,M,N⟩:=((m.later c).later a).two))
 go_wp2
 exact bodyPost_ret (v:=.agg #[.bool (neg (Qe b (Qa s)*Qe d (Qa t))),.string (QJ (Qe b (Qa s)*Qe d (Qa t)))]) (by simp[results,results232,go_sem,(((m.later c).later a).set2 _ _).cel]) rfl ⟨rfl,aq (nxt (nxt x c) a) (Rm _ 2) _ _⟩
def SQ(a b:xM)(w:xH)(t:o0)(k:a.size<=16777216)(c:b.size<=16777216):
  Calls prog 270 #[.slice (some ⟨w.heap.size,0,none⟩) 2 2] (w.alloc (.cells #[.string a,.string b] t)) λe d=>e=.returned (.string (QL (Qa a+Qa b)))/\Below w.heap.size w d:=by
 have h:=(Cel.new w t #[.string a,.string b]).rd (o:=0) (n:=2) x6;have f:Rd (w.alloc (.cells #[.string a,.string b] t)) (some ⟨w.heap.size,0,none⟩) 2 (λj=>.string (if j=0 then a else b)):=h.congr λj l=>by
  have:j=0\/j=1:=x3;rcases this with rfl|rfl<;>rfl
 have g:Gb (λj=>Qa (if j=0 then a else b)) 2=Qa a+Qa b:=by simp[Gb]
 refine(al _ 2 2 (λj=>if j=0 then a else b) _ x4 (λj=>by split<;>assumption) f).mono λe d ⟨i,c⟩=>⟨by rw[i,g],nxt (b1 _ _) c⟩
def Af{s t:xM}{n:Nat}(a:s.size<=n)(b:t.size<=n):(QL (Qa s+Qa t)).size<=n+1:=by
 have h:=DX (L6 (GN false s) a) (L6 (GN false t) b);rwa [<- XU,show Qe false (Qa s)+Qe false (Qa t)=Qe false (Qa s+Qa t)by simp[Qe],B4]at h
def YN{v:Nat}{s:xM}(h:v<=Qa s):(QL v).size<=s.size:=by
 rw[GE];exact Xf (k:=8) x4 (Lw h (Dk s))
def Nq(s t:ByteArray)(b:Bool)(w:World)(m:s.size<=16777216)(n:t.size<=16777216):
  xP prog 229 #[.agg #[.bool b,.string s],.agg #[.bool b,.string t]] w (.agg #[.bool (neg (Qe b (Qa s+Qa t))),.string (QJ (Qe b (Qa s+Qa t)))]):=by
 have f:(QL (Qa s+Qa t)).size<=268435456:=x8 (Af m n);have o:=x0f (λW=>XF (QL (Qa s+Qa t)) b W f);rw[XT]at o;clear f;go_enter func229,ntmps229
 go_wp2_with fail
 have p:=((Bx.new w 30 #[.bool b,.string s]).alloc (.cells #[.bool b,.string t] 30)).alloc (.cells #[.bool false,.string ⟨#[]⟩] 30);have q:=(Bx.at1 w (.cells #[.bool b,.string s] 30) 30 #[.bool b,.string t]).alloc (.cells #[.bool false,.string ⟨#[]⟩] 30);have l:=Bx.at2 w (.cells #[.bool b,.string s] 30) (.cells #[.bool b,.string t] 30) 30 #[.bool false,.string ⟨#[]⟩];have r:=b3 w (.cells #[.bool b,.string s] 30) (.cells #[.bool b,.string t] 30) (.cells #[.bool false,.string ⟨#[]⟩] 30);generalize ((w.alloc (.cells #[.bool b,.string s] 30)).alloc (.cells #[.bool b,.string t] 30)).alloc (.cells #[.bool false,.string ⟨#[]⟩] 30)=u at *;have x:=p.lt;have y:=q.lt;have z:=l.lt;let⟨g,i,A,B⟩:=(p).two;let⟨q1,j,C,D⟩:=(q).two;let⟨r1,E,F,G⟩:=(l).two;go_region_held3 (λd=>d.cell? ⟨w.heap.size,0,none⟩=some (.bool b)/\d.cell? ⟨w.heap.size,1,none⟩=some (.string s)/\d.cell? ⟨w.heap.size+1,0,none⟩=some (.bool b)/\d.cell? ⟨w.heap.size+1,1,none⟩=some (.string t)) (first|exact⟨g,i,q1,j⟩|exact⟨Lj c g,Lj c i,Lj c q1,Lj c j⟩|exact⟨Lj (b1 _ _) g,Lj (b1 _ _) i,Lj (b1 _ _) q1,Lj (b1 _ _) j⟩|exact⟨Lj a (Lj c g),Lj a (Lj c i),Lj a (Lj c q1),Lj a (Lj c j)⟩|exact⟨Jb (Lj a (Lj c g)) x3 _ _,Jb (Lj a (Lj c i)) x3 _ _,Jb (Lj a (Lj c q1)) x3 _ _,Jb (Lj a (Lj c j)) x3 _ _⟩|go_keep)
  (first
   |(go_at_call 270;refine(SQ s t u.drew _ m n).mono ?_;rintro e wn ⟨rfl,k⟩;have c:=F5 k;clear k)
   |(go_at_call 166;refine(o.out wn).mono ?_;rintro e H ⟨rfl,a⟩;let⟨I,J,K,L⟩:=((l.later c).later a).two))
 go_wp2
 exact bodyPost_ret (v:=.agg #[.bool (neg (Qe b (Qa s+Qa t))),.string (QJ (Qe b (Qa s+Qa t)))]) (by simp[results,results229,go_sem,(((l.later c).later a).set2 _ _).cel]) rfl ⟨rfl,aq (nxt (nxt r c) a) (Rm _ 2) _ _⟩
def el(s t:ByteArray)(b d:Bool)(w:World)(G:s.size<=16777216)(H:t.size<=16777216)(B:(b==d)=false)(n:Qa t<=Qa s):
  xP prog 229 #[.agg #[.bool b,.string s],.agg #[.bool d,.string t]] w (.agg #[.bool (neg (Qe b (Qa s-Qa t))),.string (QJ (Qe b (Qa s-Qa t)))]):=by
 have f:(QL (Qa s-Qa t)).size<=268435456:=by have:=YN (v:=Qa s-Qa t) (s:=s) x3;omega
 have z:=x0f (λW=>VS s t W x3 x3);have I:=x0f (λW=>VS t s W x3 x3);have A:=x0f (λW=>XF (QL (Qa s-Qa t)) b W f);rw[XT]at A;rw[if_neg x3]at z;clear f n;go_enter func229,ntmps229
 go_wp2_with fail
 have g:=((Bx.new w 30 #[.bool b,.string s]).alloc (.cells #[.bool d,.string t] 30)).alloc (.cells #[.bool false,.string ⟨#[]⟩] 30);have i:=(Bx.at1 w (.cells #[.bool b,.string s] 30) 30 #[.bool d,.string t]).alloc (.cells #[.bool false,.string ⟨#[]⟩] 30);have a:=Bx.at2 w (.cells #[.bool b,.string s] 30) (.cells #[.bool d,.string t] 30) 30 #[.bool false,.string ⟨#[]⟩];have j:=b3 w (.cells #[.bool b,.string s] 30) (.cells #[.bool d,.string t] 30) (.cells #[.bool false,.string ⟨#[]⟩] 30);generalize ((w.alloc (.cells #[.bool b,.string s] 30)).alloc (.cells #[.bool d,.string t] 30)).alloc (.cells #[.bool false,.string ⟨#[]⟩] 30)=J at *;have D:=g.lt;have E:=i.lt;have F:=a.lt;let⟨o,p,q,r⟩:=(g).two;let⟨q1,u,x,y⟩:=(i).two;let⟨r1,k,l,m⟩:=(a).two;refine(z.out _).mono ?_
 rintro e K ⟨rfl,c⟩;replace g:=g.later c;replace i:=i.later c;replace a:=a.later c;replace j:=nxt j c;clear c o p q r q1 u x y r1 k l m;let⟨o,p,q,r⟩:=(g).two;let⟨q1,u,x,y⟩:=(i).two;let⟨r1,k,l,m⟩:=(a).two;go_wp2_with fail
 refine(A.out _).mono ?_
 rintro e L ⟨rfl,c⟩;replace a:=a.later c;replace j:=nxt j c;clear c o p q r q1 u x y r1 k l m;let⟨r1,k,l,m⟩:=a.two;go_wp2
 exact bodyPost_ret (v:=.agg #[.bool (neg (Qe b (Qa s-Qa t))),.string (QJ (Qe b (Qa s-Qa t)))]) (by simp[results,results229,go_sem,(a.set2 _ _).cel]) rfl ⟨rfl,aq j (Rm _ 2) _ _⟩
def er(s t:ByteArray)(b c:Bool)(w:World)(H:s.size<=16777216)(I:t.size<=16777216)(C:(b==c)=false)(m:Qa s<Qa t):
  xP prog 229 #[.agg #[.bool b,.string s],.agg #[.bool c,.string t]] w (.agg #[.bool (neg (Qe c (Qa t-Qa s))),.string (QJ (Qe c (Qa t-Qa s)))]):=by
 have n:(QL (Qa t-Qa s)).size<=268435456:=by have:=YN (v:=Qa t-Qa s) (s:=t) x3;omega
 have z:=x0f (λW=>VS s t W x3 x3);have A:=x0f (λW=>VS t s W x3 x3);have B:=x0f (λW=>XF (QL (Qa t-Qa s)) c W n);rw[XT]at B;rw[if_pos m]at z;rw[if_neg x3]at A;clear n m;go_enter func229,ntmps229
 go_wp2_with fail
 have f:=((Bx.new w 30 #[.bool b,.string s]).alloc (.cells #[.bool c,.string t] 30)).alloc (.cells #[.bool false,.string ⟨#[]⟩] 30);have g:=(Bx.at1 w (.cells #[.bool b,.string s] 30) 30 #[.bool c,.string t]).alloc (.cells #[.bool false,.string ⟨#[]⟩] 30);have d:=Bx.at2 w (.cells #[.bool b,.string s] 30) (.cells #[.bool c,.string t] 30) 30 #[.bool false,.string ⟨#[]⟩];have i:=b3 w (.cells #[.bool b,.string s] 30) (.cells #[.bool c,.string t] 30) (.cells #[.bool false,.string ⟨#[]⟩] 30);generalize ((w.alloc (.cells #[.bool b,.string s] 30)).alloc (.cells #[.bool c,.string t] 30)).alloc (.cells #[.bool false,.string ⟨#[]⟩] 30)=J at *;have E:=f.lt;have F:=g.lt;have G:=d.lt;let⟨o,p,q,r⟩:=(f).two;let⟨q1,u,x,y⟩:=(g).two;let⟨r1,j,k,l⟩:=(d).two;refine(z.out _).mono ?_
 rintro e K ⟨rfl,a⟩;replace f:=f.later a;replace g:=g.later a;replace d:=d.later a;replace i:=nxt i a;clear a o p q r q1 u x y r1 j k l;let⟨o,p,q,r⟩:=(f).two;let⟨q1,u,x,y⟩:=(g).two;let⟨r1,j,k,l⟩:=(d).two;go_wp2_with fail
 refine(A.out _).mono ?_
 rintro e L ⟨rfl,a⟩;replace f:=f.later a;replace g:=g.later a;replace d:=d.later a;replace i:=nxt i a;clear a o p q r q1 u x y r1 j k l;let⟨o,p,q,r⟩:=(f).two;let⟨q1,u,x,y⟩:=(g).two;let⟨r1,j,k,l⟩:=(d).two;go_wp2_with fail
 refine(B.out _).mono ?_
 rintro e M ⟨rfl,a⟩;replace d:=d.later a;replace i:=nxt i a;clear a o p q r q1 u x y r1 j k l;let⟨r1,j,k,l⟩:=d.two;go_wp2
 exact bodyPost_ret (v:=.agg #[.bool (neg (Qe c (Qa t-Qa s))),.string (QJ (Qe c (Qa t-Qa s)))]) (by simp[results,results229,go_sem,(d.set2 _ _).cel]) rfl ⟨rfl,aq i (Rm _ 2) _ _⟩
def M4(s t:xM)(b d:Bool)(w:xH)(f:s.size<=16777216)(g:t.size<=16777216):
  xP prog 229 #[.agg #[.bool b,.string s],.agg #[.bool d,.string t]] w (.agg #[.bool (neg (Qe b (Qa s)+Qe d (Qa t))),.string (QJ (Qe b (Qa s)+Qe d (Qa t)))]):=by
 let⟨i,j,k⟩:=nG b d (Qa s) (Qa t);cases a:(b==d)
 ·rcases R5 (Qa s) (Qa t)with c|c
  ·rw[k a c];exact er s t b d w f g a c
  ·rw[j a c];exact el s t b d w f g a c
 ·have e:b=d:=l3 a;subst e;rw[i rfl];exact Nq s t b w f g
def Ip(s t:ByteArray)(q r:Nat)(b a:Bool)(w:World)(T:s.size<=16777216)(U:t.size<=16777216)(P:0<Qa t)(Q:q=Qa s / Qa t)(n:r=Qa s % Qa t)(ad:¬ JZ (Qe b r)<0):
  xP prog 167 #[.agg #[.bool b,.string s],.agg #[.bool a,.string t]] w (.tuple #[.agg #[.bool (neg (Qe (!(b==a)) q)),.string (QJ (Qe (!(b==a)) q))],.agg #[.bool (neg (Qe b r)),.string (QJ (Qe b r))],.bool true]):=by
 have G:(QL q).size<=16777216:=by rw[Q];exact L6 (YN (Rn _ _)) T
 have H:(QL r).size<=16777216:=by rw[n];exact L6 (YN (Sv (Re _ P))) U
 have V:=x0f (λW=>In s t W T U);simp only[if_neg (Nat.ne_of_gt P),<- Q,<- n]at V;have X:=x0f (λW=>XF (QL q) (!(b==a)) W x3);have Y:=x0f (λW=>XF (QL r) b W x3);rw[XT]at X Y;have R:(QJ (Qe b r)).size<=16777216:=by rw[B4];exact H
 have S:(QJ (Qe (!(b==a)) q)).size<=16777216:=by rw[B4];exact G
 have cS:=x0f (λW=>Ko (QJ (Qe b r)) (neg (Qe b r)) W x3);rw[Xp]at cS;clear P G Q n H R S;go_enter func167,ntmps167
 go_wp2_with fail
 have g:=(((Bx.new w 30 #[.bool b,.string s]).alloc (.cells #[.bool a,.string t] 30)).alloc (.cells #[.bool false,.string ⟨#[]⟩] 30)).alloc (.cells #[.bool false,.string ⟨#[]⟩] 30);have k:=((Bx.at1 w (.cells #[.bool b,.string s] 30) 30 #[.bool a,.string t]).alloc (.cells #[.bool false,.string ⟨#[]⟩] 30)).alloc (.cells #[.bool false,.string ⟨#[]⟩] 30);have f:=(Bx.at2 w (.cells #[.bool b,.string s] 30) (.cells #[.bool a,.string t] 30) 30 #[.bool false,.string ⟨#[]⟩]).alloc (.cells #[.bool false,.string ⟨#[]⟩] 30);have d:=Bx.at3 w (.cells #[.bool b,.string s] 30) (.cells #[.bool a,.string t] 30) (.cells #[.bool false,.string ⟨#[]⟩] 30) 30 #[.bool false,.string ⟨#[]⟩];have l:=b4 w (.cells #[.bool b,.string s] 30) (.cells #[.bool a,.string t] 30) (.cells #[.bool false,.string ⟨#[]⟩] 30) (.cells #[.bool false,.string ⟨#[]⟩] 30);generalize (((w.alloc (.cells #[.bool b,.string s] 30)).alloc (.cells #[.bool a,.string t] 30)).alloc (.cells #[.bool false,.string ⟨#[]⟩] 30)).alloc (.cells #[.bool false,.string ⟨#[]⟩] 30)=w0 at *;have ag:=g.lt;have ao:=k.lt;have aw:=f.lt;have aB:=d.lt;refine(V.out _).mono ?_
 rintro e w1 ⟨rfl,c⟩;replace g:=g.later c;replace k:=k.later c;replace f:=f.later c;replace d:=d.later c;replace l:=nxt l c;clear c;let⟨o,p,u,x⟩:=g.two;let⟨q1,y,z,A⟩:=k.two;let⟨r1,B,C,D⟩:=f.two;let⟨s1,E,F,s4⟩:=d.two;go_wp2_with fail
 refine(X.out _).mono ?_
 rintro e I ⟨rfl,c⟩;replace g:=g.later c;replace k:=k.later c;replace f:=f.later c;replace d:=d.later c;replace l:=nxt l c;clear c;clear o p u x q1 y z A r1 B C D s1 E F s4;have bc:w.heap.size+3<I.heap.size:=d.lt;have Z:=Bx.new I 30 #[.bool (neg (Qe (!(b==a)) q)),.string (QJ (Qe (!(b==a)) q))];replace g:=g.alloc (.cells #[.bool (neg (Qe (!(b==a)) q)),.string (QJ (Qe (!(b==a)) q))] 30);replace k:=k.alloc (.cells #[.bool (neg (Qe (!(b==a)) q)),.string (QJ (Qe (!(b==a)) q))] 30);replace f:=f.alloc (.cells #[.bool (neg (Qe (!(b==a)) q)),.string (QJ (Qe (!(b==a)) q))] 30);replace d:=d.alloc (.cells #[.bool (neg (Qe (!(b==a)) q)),.string (QJ (Qe (!(b==a)) q))] 30);replace l:=EI l (.cells #[.bool (neg (Qe (!(b==a)) q)),.string (QJ (Qe (!(b==a)) q))] 30);have m:=Z;clear Z;let⟨o,p,u,x⟩:=g.two;let⟨q1,y,z,A⟩:=k.two;let⟨r1,B,C,D⟩:=f.two;let⟨s1,E,F,s4⟩:=d.two;let⟨J,K,L,M⟩:=m.two;go_wp2_with fail
 generalize I.alloc (.cells #[.bool (neg (Qe (!(b==a)) q)),.string (QJ (Qe (!(b==a)) q))] 30)=w3 at *;generalize I.heap.size=g5 at *;refine(Y.out _).mono ?_
 rintro e N ⟨rfl,c⟩;replace g:=g.later c;replace k:=k.later c;replace f:=f.later c;replace d:=d.later c;replace m:=m.later c;replace l:=nxt l c;clear c;clear o p u x q1 y z A r1 B C D s1 E F s4 J K L M;have bd:g5<N.heap.size:=m.lt;have Z:=Bx.new N 30 #[.bool (neg (Qe b r)),.string (QJ (Qe b r))];replace g:=g.alloc (.cells #[.bool (neg (Qe b r)),.string (QJ (Qe b r))] 30);replace k:=k.alloc (.cells #[.bool (neg (Qe b r)),.string (QJ (Qe b r))] 30);replace f:=f.alloc (.cells #[.bool (neg (Qe b r)),.string (QJ (Qe b r))] 30);replace d:=d.alloc (.cells #[.bool (neg (Qe b r)),.string (QJ (Qe b r))] 30);replace m:=m.alloc (.cells #[.bool (neg (Qe b r)),.string (QJ (Qe b r))] 30);replace l:=EI l (.cells #[.bool (neg (Qe b r)),.string (QJ (Qe b r))] 30);have O:=Z;clear Z;let⟨o,p,u,x⟩:=g.two;let⟨q1,y,z,A⟩:=k.two;let⟨r1,B,C,D⟩:=f.two;let⟨s1,E,F,s4⟩:=d.two;let⟨J,K,L,M⟩:=m.two;let⟨v1,v2,v3,v4⟩:=O.two;go_wp2_with fail
 generalize N.alloc (.cells #[.bool (neg (Qe b r)),.string (QJ (Qe b r))] 30)=w5 at *;generalize N.heap.size=g6 at *;refine(cS.out _).mono ?_
 rintro e w6 ⟨rfl,c⟩;replace g:=g.later c;replace k:=k.later c;replace f:=f.later c;replace d:=d.later c;replace m:=m.later c;replace O:=O.later c;replace l:=nxt l c;clear c;clear o p u x q1 y z A r1 B C D s1 E F s4 J K L M v1 v2 v3 v4;let⟨o,p,u,x⟩:=g.two;let⟨q1,y,z,A⟩:=k.two;let⟨r1,B,C,D⟩:=f.two;let⟨s1,E,F,s4⟩:=d.two;let⟨J,K,L,M⟩:=m.two;let⟨v1,v2,v3,v4⟩:=O.two;go_wp2_with fail
 go_region
 all_goals
  go_wp2
  exact bodyPost_ret (v:=.tuple #[.agg #[.bool (neg (Qe (!(b==a)) q)),.string (QJ (Qe (!(b==a)) q))],.agg #[.bool (neg (Qe b r)),.string (QJ (Qe b r))],.bool true]) (by simp[results,results167,go_sem,((f.set2 (.bool (neg (Qe (!(b==a)) q))) (.string (QJ (Qe (!(b==a)) q)))).far2 (g':=w.heap.size+3) (i:=0) (j:=1) x6 (.bool (neg (Qe b r))) (.string (QJ (Qe b r)))).cel,((d.far2 (g':=w.heap.size+2) (i:=0) (j:=1) x6 (.bool (neg (Qe (!(b==a)) q))) (.string (QJ (Qe (!(b==a)) q)))).set2 (.bool (neg (Qe b r))) (.string (QJ (Qe b r)))).cel]) rfl ⟨rfl,(aq (aq l (Rm _ 2) _ _) (Rm _ 3) _ _).drew⟩
def Nf(z:Int)(w:xH)(f:(QJ z).size<=16777216)(i:z % 2=0):
  xP prog 167 #[.agg #[.bool (neg z),.string (QJ z)],.agg #[.bool (neg 2),.string (QJ 2)]] w (.tuple #[.agg #[.bool (neg (z / 2)),.string (QJ (z / 2))],.agg #[.bool (neg (z % 2)),.string (QJ (z % 2))],.bool true]):=by
 have a:Qa (QJ 2)=2:=by rw[VM];rfl
 have b:Qa (QJ z) % 2=0:=by rw[VM];omega
 have c:=Ip (QJ z) (QJ 2) (Qa (QJ z) / Qa (QJ 2)) (Qa (QJ z) % Qa (QJ 2)) (neg z) (neg 2) w f x4 (by rw[a];decide) rfl rfl (by rw[a,b,Ox];decide);have d:=Od (neg z) (neg 2) (Qa (QJ z)) (Qa (QJ 2)) (by rw[a];decide);rw[if_neg (λh=>h.2 (by rw[a,b])),if_neg (λh=>h.2 (by rw[a,b])),Xp,Xp]at d;rw[d.1,d.2,show(neg z != neg 2)=(!(neg z==neg 2))from rfl,show((Qa (QJ z) % Qa (QJ 2):Nat):Int)=Qe (neg z) (Qa (QJ z) % Qa (QJ 2))from by rw[a,b,Ox];rfl];exact c
