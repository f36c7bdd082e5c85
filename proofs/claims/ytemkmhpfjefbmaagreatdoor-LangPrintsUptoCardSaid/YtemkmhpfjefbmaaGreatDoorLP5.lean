/- Laws beneath the statement. -/
import Derived.Test.YtemkmhpfjefbmaaGreatDoorLP4
import Derived.Deep.RegionHeld3
namespace Go.Proofs.YtemkmhpfjefbmaaGreatDoor
set_option linter.defProp false
open Tryz
set_option maxHeartbeats 4000000
set_option maxRecDepth 100000
open Go.RowKit
def tK(A:xN)(c v a:Nat)(w:xH)(i:nd 64 v<=4294967296)(f:nd 64 v<=c)(b:a<=9223372036854775807)(n:Rd w A (nd 64 v) (Q7 v)):
  Calls prog 222 #[.slice A (nd 64 v) c,.int .i64 (a:Nat)] w λe d=>∃j k,e=.returned (.slice j (nd 64 (v / 2^a)) k)/\nd 64 (v / 2^a)<=k/\Below w.heap.size w d/\Rd d j (nd 64 (v / 2^a)) (Q7 (v / 2^a)):=by
 by_cases h:a / 64<nd 64 v
 ·exact(Of A _ c v a w i f b h (YV v) n).mono λe d ⟨g,N,l,_,o,p,_,m⟩=>⟨_,N,l,m,o,Cel.rd0 p m⟩
 ·refine(UR A _ c v a w i b (Sx h)).mono λe d ⟨l,q⟩=>?_
  grind[Ed,YV,EF,p5,Rd.nil_]
def kd(s t:ByteArray)(w:World)(d:s.size<=4294967296)(f:t.size<=4294967296)(b:Qa t=0):
  xP prog 160 #[.string s,.string t] w (.tuple #[.string ⟨#[]⟩,.string ⟨#[]⟩,.bool false]):=by
 have e0:(((nd 64 (Qa t):Nat):Int)==0)=true:=by rw[b];rfl
 clear b;go_enter func160,ntmps160
 go_wp2_with fail
 refine(KV s w d).mono ?_
 rintro e j ⟨g,N,rfl,p,c,q,r,u,v⟩;go_wp2_with fail
 refine(KV t j f).mono ?_
 rintro e x ⟨y,z,rfl,k,a,l,m,n,o⟩;go_wp2
 go_ret3
 exact⟨rfl,QW c a c.size⟩
def dD(s t:ByteArray)(w:World)(n:s.size<=4294967296)(o:t.size<=4294967296)(f:Qa s<Qa t):
  xP prog 160 #[.string s,.string t] w (.tuple #[.string ⟨#[]⟩,.string (QL (Qa s)),.bool true]):=by
 have e0:(((nd 64 (Qa t):Nat):Int)==0)=false:=by
  have:=GV 64 x3 (v:=Qa t);exact Lp.2 x3
 have y:=cmpI_lt.2 f;clear f;go_enter func160,ntmps160
 go_wp2_with fail
 refine(KV s w n).mono ?_
 rintro e q ⟨g,N,rfl,z,i,A,j,B,l⟩;go_wp2_with fail
 refine(KV t q o).mono ?_
 rintro e C ⟨D,E,rfl,r,a,u,b,x,c⟩;go_wp2_with fail
 refine(IV _ _ _ _ _ _ _ x3 x3 j b (l.below a) c).mono ?_
 rintro e F ⟨rfl,k,rfl⟩;go_wp2_with fail
 refine(Ch _ _ _ _ x3 j ((l.below a).drewN k)).mono ?_
 rintro e G ⟨rfl,d⟩;go_wp2
 go_ret3
 have m:=Zk (QW i a i.size) k;exact⟨rfl,QW m d m.size⟩
theorem oB(s t:ByteArray)(w:World)(hs:s.size<=4294967296)(ht:t.size<=4294967296)(h0:0<Qa t)(aw:Qa t<=Qa s):
  xP prog 160 #[.string s,.string t] w (.tuple #[.string (QL (Qa s / Qa t)),.string (QL (Qa s % Qa t)),.bool true]):=by
 have cW:nd 64 (Qa s)<=536870912:=x8 (De s);have ch:nd 64 (Qa t)<=nd 64 (Qa s):=AY x4 aw;have aB:=GV 64 x3 (v:=Qa t);have e0:(((nd 64 (Qa t):Nat):Int)==0)=false:=Lp.2 x3;have hc:¬ Xe (Qa s) (Qa t)<0:=λh=>x8 (cmpI_lt.1 h)
 let⟨f1,f2,f3,f4⟩:=dI (v:=Qa t) x3;have cj:((QG LB (Qa t) (nd 64 (Qa t)-1):Nat):Int)<=18446744073709551615:=by
  have h:QG LB (Qa t) (nd 64 (Qa t)-1)<18446744073709551616:=YO QF _ _;omega
 have bc:=λW=>Tryz.bits_LeadingZeros64 (QG LB (Qa t) (nd 64 (Qa t)-1)) W x3 cj
 obtain⟨d,ck⟩:∃d,d=64-nd 1 (QG LB (Qa t) (nd 64 (Qa t)-1)):=⟨_,rfl⟩
 have cZ:d<=63:=x3;have cl:(64-(Lib.bitLen ((QG LB (Qa t) (nd 64 (Qa t)-1):Nat):Int).toNat:Int))=(d:Int):=by
  rw[Sm,Fb _ (YO QF _ _)];omega
 rw[cl]at bc;rw[<- ck]at f3 f4;have cm:=x0f bc;have V:=x0f (show LB^(nd 64 (Qa t)-1)*9223372036854775808<=Qa t*2^d/\Qa t*2^d<LB^nd 64 (Qa t)from⟨f3,f4⟩);have ez:=x0f aw;have H0:=x0f h0;clear bc cl ck f1 f2 f3 f4 aw h0 cj;go_enter func160,ntmps160
 go_wp2_with fail
 refine(KV s w hs).mono ?_
 rintro e w1 ⟨g,N,rfl,hg,hb,hC,h1,h2,hr⟩;go_wp2_with fail
 refine(KV t w1 ht).mono ?_
 rintro e w2 ⟨g',N',rfl,eS,bd,da,bi,dc,bk⟩;have u:=QW hb bd hb.size;have bl:=hr.below bd;clear hr bd hb;go_wp2_with fail
 refine(IV _ _ _ _ _ _ _ x3 x3 h1 bi bl bk).mono ?_
 rintro e w3 ⟨rfl,k,rfl⟩;have x:=Zk u k;have cn:=bl.drewN k;have F:=bk.drewN k;clear u bl bk hC da;generalize w2.drewN k=w3 at *;have g1:w3.cell? ⟨g',nd 64 (Qa t)-1,none⟩=some (.int .u64 (QG LB (Qa t) (nd 64 (Qa t)-1):Nat)):=by
  let⟨b,off,e,df⟩:=F aB;injection e with e
  injection e with e1 e2
  have:=df (nd 64 (Qa t)-1) x3;rw[<- e1,<- e2,Lm]at this;exact this
 go_wp2_with fail
 refine(cm.out _).mono ?_
 rintro e w4 ⟨rfl,rfl⟩;go_wp2_with fail
 refine(eN _ _ _ (Qa s) d _ x3 h1 x3 (YV _) cn).mono ?_
 rintro e w5 ⟨g5,N5,rfl,fa,Q,cp,dk⟩;have G:Qa s*2^d<LB^(nd 64 (Qa s)+1):=by have:=qw (Qa s) d;rwa [show d / 64=0 by omega]at this
 have cq:=MG G;have H:nd 64 (Qa s*2^d)<=N5:=x3;have cr:=x0f (CN (some ⟨g5,0,none⟩) (nd 64 (Qa s*2^d)) N5 (Qa s*2^d) ((nd 64 (Qa s):Int)+2) (nd 64 (Qa s)+2) w5 x3 H x3 x3 x3 (YV _) (Cel.rd0 cp H));have H5:=x0f G;clear G dk cp;go_wp2_with fail
 refine cr.out.mono ?_
 rintro e w6 ⟨f,rfl,dn,ct,bm⟩;have z:=QW Q ct Q.size;have cu:=F.below z;go_wp2_with fail
 refine(eN _ _ _ (Qa t) d _ x3 bi x3 (YV _) cu).mono ?_
 rintro e l ⟨C,E,rfl,fb,bn,R,dp⟩;have cw:nd 64 (Qa t*2^d)=nd 64 (Qa t):=WD 64 x4 V.out.2 (λ_=>L6 (Rz _ x4) V.out.1);have X:nd 64 (Qa t)<=E:=x3;have cy:0<Qa t*2^d:=Vg H0.out (R6 _);rw[cw];have m:=bm.bel bn;have ev:f<C:=x8 bm.lt;have B:=QW (QW x z x.size) bn (L6 x.size z.size);have n:=x0f cy;have dr:w.heap.size<=f:=L6 x.size (L6 Q.size dn);obtain⟨U,hU⟩:∃U,U=Qa s*2^d:=⟨_,rfl⟩
 obtain⟨Y,hY⟩:∃Y,Y=Qa t*2^d:=⟨_,rfl⟩
 obtain⟨nx,cA⟩:∃nx,nx=nd 64 (Qa s):=⟨_,rfl⟩
 obtain⟨nb,Z⟩:∃nb,nb=nd 64 (Qa t):=⟨_,rfl⟩
 rw[<- hU]at m H5;rw[<- hY]at R V n;rw[<- cA]at m H5 cW ch ⊢;rw[<- Z]at V X ch aB ⊢;have HU:=x0f hU;have HY:=x0f hY;clear hU hY cA Z cw cy bm bn Q ct x z H cq dp h1 h2 bi dc cr cn F cu g1 cm hc e0;go_upto_region 8 with fail
 have bp:(l.alloc (.cells #[.slice (some ⟨f,0,none⟩) (nx+2) (nx+2),.slice (some ⟨C,0,none⟩) nb E] 264)).cell? ⟨l.heap.size,0,none⟩=some (.slice (some ⟨f,0,none⟩) (nx+2) (nx+2)):=by
  rw[World.cell?_alloc_at _ _ _ _ rfl];rfl
 have bq:(l.alloc (.cells #[.slice (some ⟨f,0,none⟩) (nx+2) (nx+2),.slice (some ⟨C,0,none⟩) nb E] 264)).cell? ⟨l.heap.size,1,none⟩=some (.slice (some ⟨C,0,none⟩) nb E):=by
  rw[World.cell?_alloc_at _ _ _ _ rfl];rfl
 have ds:=m.alloc (.cells #[.slice (some ⟨f,0,none⟩) (nx+2) (nx+2),.slice (some ⟨C,0,none⟩) nb E] 264);have cB:=R.alloc (.cells #[.slice (some ⟨f,0,none⟩) (nx+2) (nx+2),.slice (some ⟨C,0,none⟩) nb E] 264);have bs:=B.alloc B.size (.cells #[.slice (some ⟨f,0,none⟩) (nx+2) (nx+2),.slice (some ⟨C,0,none⟩) nb E] 264);have cC:l.heap.size<(l.alloc (.cells #[.slice (some ⟨f,0,none⟩) (nx+2) (nx+2),.slice (some ⟨C,0,none⟩) nb E] 264)).heap.size:=x6;have fc:=R.lt;have fd:=m.lt;have ex:=B.size;clear m R B;generalize l.alloc (.cells #[.slice (some ⟨f,0,none⟩) (nx+2) (nx+2),.slice (some ⟨C,0,none⟩) nb E] 264)=w8 at *;obtain⟨L,hL⟩:∃L,nx+2=nb+L:=⟨nx+2-nb,x3⟩
 have cD:(nx:Int)+2-(nb:Int)=(L:Int):=x3;have u:8*L<=281474976710656:=x3;have x:L<=9223372036854775807:=x3;have ad:=x0f cD;have fl:L<=nx+2:=x3;have dx:=bs.size;have HL:=x0f hL;clear hL cD;go_wp2_with (at_make;refine Yt rfl (.tmp 52) (.tmp 52) _ rfl 179 (.int .u64 0) 8 ZU GS rfl .i64 .i64 _ _ L rfl rfl ad.out ad.out u x ?_;intro w9 dT I ey)
 have ea:=QW bs I bs.size;have cF:0<Y:=n.out;have ag:U<Y*LB^L:=by
  refine L9 H5.out ?_
  refine L6 ?_ (Lt _ V.out.1)
  rw[R9,Ls 9223372036854775808,<- R9,<- Lz];have:=HL.out;rw[show nb-1+L=nx+1 by omega];exact Rz _ x4
 have cG:=x0f ag;clear ag cF;go_loopw [12] (λi wr=>∃k:Nat,k<=L/\i=.int .i64 ((k:Int)-1)/\Below w.heap.size w wr/\Cel wr f 179 (nx+2) (Q7 (U % (Y*LB^k)))/\Cel wr w8.heap.size 179 L (λj=>if k<=j then Q7 (U / Y) j else Q7 0 j) /\
   Rd wr (some ⟨C,0,none⟩) nb (Q7 Y)/\wr.cell? ⟨l.heap.size,0,none⟩=some (.slice (some ⟨f,0,none⟩) (nx+2) (nx+2))/\wr.cell? ⟨l.heap.size,1,none⟩=some (.slice (some ⟨C,0,none⟩) nb E)) (λi _=>(intOf i+1).toNat)
 case atStart =>
  refine⟨L,L4 _,rfl,ea,?_,?_,Cel.rd0 (cB.bel I) X,(I.cell (p:=⟨l.heap.size,0,none⟩) cC).trans bp,(I.cell (p:=⟨l.heap.size,1,none⟩) cC).trans bq⟩
  ·rw[Rc cG.out];exact ds.bel I
  ·exact dT.congr λj hj=>by rw[if_neg x3];unfold Q7;rw[Vx];rfl
 case round =>
  obtain⟨k,hk,rfl,S,J,T,bu,K,bv⟩:=hrel;rcases k with _|p
  ·have e0:((0:Nat):Int)-1=-1:=rfl;rw[e0];clear e0;rw[Tx,Sz]at J;have ao:=T.congr (f':=Q7 (U / Y)) (λj _=>by rw[if_pos (L7 _)]);clear T;have cH:U / Y=Qa s / Qa t:=by rw[HU.out,HY.out,Nat.mul_div_mul_right _ _ (R6 d)]
   have cL:U % Y / 2^d=Qa s % Qa t:=by rw[HU.out,HY.out,Nat.mul_mod_mul_right,Nat.mul_div_cancel _ (R6 d)]
   have cM:U / Y<LB^L:=by rw[Lr n.out,Ls];exact cG.out
   have bX:U % Y<LB^(nx+2):=by
    refine L9 (Re _ n.out) (L6 (Sv V.out.2) (Lh QF x3))
   have M:=MG bX;have c1:=x0f (λW (h:Rd W (some ⟨w8.heap.size,0,none⟩) L (Q7 (U / Y)))=>Aq (some ⟨w8.heap.size,0,none⟩) L L (U / Y) W x3 (L4 _) cM h);have c2:=x0f (λW (h:Rd W (some ⟨f,0,none⟩) (nx+2) (Q7 (U % Y)))=>XV (some ⟨f,0,none⟩) (nx+2) (nx+2) (U % Y) W x3 (L4 _) bX h);have c3:=x0f (λW (h:Rd W (some ⟨f,0,none⟩) (nd 64 (U % Y)) (Q7 (U % Y)))=>tK (some ⟨f,0,none⟩) (nx+2) (U % Y) d W x3 M x3 h);have c4:=x0f (λW A c (h1:nd 64 (U % Y / 2^d)<=c) (h:Rd W A (nd 64 (U % Y / 2^d)) (Q7 (U % Y / 2^d)))=>Ch A c (U % Y / 2^d) W (L6 (AY x4 (Rn _ _)) (L6 M x3)) h1 h);have eb:=x0f cH;have ec:=x0f cL;have ef:Rd wr.drew (some ⟨w8.heap.size,0,none⟩) L (Q7 (U / Y)):=(Cel.rd0 ao (L4 _)).drew;have cN:Rd wr.drew (some ⟨f,0,none⟩) (nx+2) (Q7 (U % Y)):=(Cel.rd0 J (L4 _)).drew;have O:l.heap.size<wr.drew.heap.size:=G7 K;have ej:wr.drew.cell? ⟨l.heap.size,0,none⟩=some (.slice (some ⟨f,0,none⟩) (nx+2) (nx+2)):=K;have cO:=S.drew;clear cH cL cM bX ao J;go_wp2_with fail
   go_region_held3 (λw'=>w'.cell? ⟨l.heap.size,0,none⟩=some (.slice (some ⟨f,0,none⟩) (nx+2) (nx+2)))
    (first
     |go_keep
     |exact cP
     |exact cR
     |exact ek)
    (first
     |(go_at_call_of 216 (Value.slice (some ⟨w8.heap.size,0,none⟩) L L);refine(c1.out _ ef).mono ?_;rintro e wt ⟨rfl,D⟩;have cP:=(D.cell (p:=⟨l.heap.size,0,none⟩) O).trans ej)
     |(go_at_call 221;refine(c2.out _ (cN.below D)).mono ?_;rintro e w' ⟨rfl,rfl⟩)
     |(go_at_call 222;refine(c3.out _ ((cN.below D).of_le M)).mono ?_;rintro e wd ⟨Ad,cd,rfl,em,bY,en⟩;have cR:=(bY.cell (p:=⟨l.heap.size,0,none⟩) (L9 O D.size)).trans cP)
     |(go_at_call 216;refine(c4.out _ Ad cd em en).mono ?_;rintro e we ⟨rfl,cT⟩;have ek:=(cT.cell (p:=⟨l.heap.size,0,none⟩) (L9 O (L6 D.size bY.size))).trans cR))
   go_wp2
   go_ret3
   have cU:=QW cO D cO.size;have u:=QW cU bY cU.size;exact⟨by rw[<- eb.out,<- ec.out];rfl,QW u cT u.size⟩
  ·have e0:((p+1:Nat):Int)-1=(p:Int):=x3;rw[e0];clear e0;have eo:=HL.out;have ep:=x0f (jy (some ⟨C,0,none⟩) f (nx+2) (nx+2) nb E (nx+2) (U % (Y*LB^(p+1))) Y p wr x3 (L4 _) (L4 _) aB x3
    (Re _ (Vg n.out (Se QF))) V.out.1 V.out.2 J bu (Off.some_ x3))
   clear eo;go_wp2_with fail
   refine ep.out.mono ?_
   rintro e cV ⟨rfl,o,P⟩;rw[FP]at P;rw[pT]at P;rw[FP];have ca:=Zu S o S.size dr;have y:=T.grown o (by intro h;injection h with h;omega);have cb:=bu.grown o (Off.some_ x3);have cc:cV.cell? ⟨l.heap.size,0,none⟩=some (.slice (some ⟨f,0,none⟩) (nx+2) (nx+2)):=(World.cell?_of_block (a:=⟨l.heap.size,0,none⟩) (o.block _ (G7 K) (by intro h;simp at h;omega))).trans K;have cf:cV.cell? ⟨l.heap.size,1,none⟩=some (.slice (some ⟨C,0,none⟩) nb E):=(World.cell?_of_block (a:=⟨l.heap.size,1,none⟩) (o.block _ (G7 bv) (by intro h;simp at h;omega))).trans bv;have r:=y.cell (i:=p) x3;rw[if_neg x3]at r;unfold Q7 at r;have es:=y.frozen p;have fm:p<L:=x3;clear S J T bu K bv;go_wp2
   refine⟨⟨p,x3,rfl,ca.setCell (show w.heap.size<=w8.heap.size from dx) _,P.far (show f≠w8.heap.size by omega) _,(y.set_ p _).congr λj hj=>?_,cb.keep (λq hq ha=>?_),?_,?_⟩,by simp[intOf]⟩
   ·by_cases e:j=p
    ·subst e;rw[if_pos rfl,if_pos x3];rfl
    ·rw[if_neg e];by_cases e2:p+1<=j
     ·rw[if_pos e2,if_pos x3]
     ·rw[if_neg e2,if_neg x3]
   ·have:=ha _ rfl;exact World.cell?_setCell_other _ _ _ _ (λe=>by rw[<- e]at this;simp at this;omega)
   ·exact(World.cell?_setCell_other _ _ _ _ (λe=>by injection e with e1;omega)).trans cc
   ·exact(World.cell?_setCell_other _ _ _ _ (λe=>by injection e with e1;omega)).trans cf
def Wx(s t:xM)(w:xH)(c:s.size<=4294967296)(d:t.size<=4294967296):
  xP prog 160 #[.string s,.string t] w (if Qa t=0 then .tuple #[.string ⟨#[]⟩,.string ⟨#[]⟩,.bool false]else .tuple #[.string (QL (Qa s / Qa t)),.string (QL (Qa s % Qa t)),.bool true]):=by
 by_cases a:Qa t=0
 ·rw[if_pos a];exact kd s t w c d a
 ·rw[if_neg a];by_cases b:Qa s<Qa t
  ·rw[Sg b,Rc b];exact dD s t w c d b
  grind[oB]
def ZM(s:ByteArray)(b:Bool)(w:World):
  xP prog 194 #[.agg #[.string s,.bool b]] w (.agg #[.bool (neg (Qe b (Qa s))),.string (QJ (Qe b (Qa s)))]):=by
 have c:=nB b (Qa s);have d:=B4 b (Qa s);have j:=x0f (λW=>OK s W);generalize Qe b (Qa s)=z at *;generalize Qa s=v at *;have a:=nstr_empty (v:=v);generalize QL v=t at *;by_cases f:v=0
 ·subst f;have m:t.toList=[]:=a.2 rfl;cases b;all_goals
   have g:=x0f c;have i:=x0f d;clear c d a;go_enter func194,ntmps194
   go_wp2_with (go_at_call 257;refine(j.out _).mono ?_;rintro e wn ⟨rfl,rfl⟩)
   exact bodyPost_ret (v:=.agg #[.bool false,.string t]) (by simp[results,results194,go_sem]) rfl ⟨by rw[g.out,i.out];rfl,b2 _ _ _⟩
 ·have m:t.toList.isEmpty=false:=by
   rw[U4];exact λh=>f (a.1 h)
  have k:(v==0)=false:=l3 f;rw[k]at c;cases b
  ·have g:=x0f c;have i:=x0f d;clear c d a k f;go_enter func194,ntmps194
   go_wp2_with (go_at_call 257;refine(j.out _).mono ?_;rintro e wn ⟨rfl,rfl⟩)
   exact bodyPost_ret (v:=.agg #[.bool false,.string t]) (by simp[results,results194,go_sem]) rfl ⟨by rw[g.out,i.out];rfl,b2 _ _ _⟩
  ·have g:=x0f c;have i:=x0f d;clear c d a k f;go_enter func194,ntmps194
   go_wp2_with (go_at_call 257;refine(j.out _).mono ?_;rintro e wn ⟨rfl,rfl⟩)
   exact bodyPost_ret (v:=.agg #[.bool true,.string t]) (by simp[results,results194,go_sem]) rfl ⟨by rw[g.out,i.out];rfl,b2 _ _ _⟩
def IH(s:ByteArray)(b:Bool)(w:World):
  xP prog 207 #[.agg #[.bool b,.string s]] w (.agg #[.string s,.bool b]):=by
 go_enter func207,ntmps207
 go_wp2
 exact bodyPost_ret (v:=.agg #[.string s,.bool b]) (by simp[results,results207,go_sem]) rfl ⟨rfl,b2 _ _ _⟩
def aY(s t:ByteArray)(w:World)(a:s.size<=4294967296)(b:t.size<=4294967296):
  xP prog 289 #[.string s,.string t] w (.int .i64 (Xe (Qa s) (Qa t))):=by
 go_enter func289,ntmps289
 go_wp2_with (go_at_call 301;refine(oA s t _ a b).mono ?_;rintro e wn ⟨rfl,d⟩)
 go_ret
 exact⟨rfl,d⟩
theorem Cl(s:ByteArray)(b:Bool)(w:World):
  xP prog 151 #[.agg #[.bool b,.string s]] w (.agg #[.bool (neg (Qe b (Qa s))),.string (QJ (Qe b (Qa s)))]):=by
 go_enter func151,ntmps151
 go_wp2_with fail
 refine(IH s b _).mono ?_
 rintro e k ⟨rfl,c⟩;have j:=(Bx.at1 w _ _ _).later c;have d:=nxt (b2 w _ _) c;go_wp2_with fail
 refine(ZM s b _).mono ?_
 rintro e l ⟨rfl,a⟩;have g:=j.later a;have f:=nxt d a;let⟨m,r1,n,o⟩:=g.two;clear c a;go_wp2
 exact bodyPost_ret (v:=.agg #[.bool (neg (Qe b (Qa s))),.string (QJ (Qe b (Qa s)))]) (by simp[results,results151,go_sem,(g.set2 _ _).cel]) rfl ⟨rfl,aq f (Nat.le_succ _) _ _⟩
def TF(a b:xM)(w:xH)(t:o0)(k:a.size<=1073741824)(c:b.size<=1073741824):
  Calls prog 288 #[.slice (some ⟨w.heap.size,0,none⟩) 2 2] (w.alloc (.cells #[.string a,.string b] t)) λe d=>e=.returned (.string (QL (Qa a+Qa b)))/\Below w.heap.size w d:=by
 have h:=(Cel.new w t #[.string a,.string b]).rd (o:=0) (n:=2) x6;have f:Rd (w.alloc (.cells #[.string a,.string b] t)) (some ⟨w.heap.size,0,none⟩) 2 (λj=>.string (if j=0 then a else b)):=h.congr λj l=>by
  have:j=0\/j=1:=x3;rcases this with rfl|rfl<;>rfl
 have g:Gb (λj=>Qa (if j=0 then a else b)) 2=Qa a+Qa b:=by simp[Gb]
 refine(oz _ 2 2 (λj=>if j=0 then a else b) _ x4 (λj=>by split<;>assumption) f).mono λe d ⟨i,c⟩=>⟨by rw[i,g],nxt (b1 _ _) c⟩
def ko(s t:ByteArray)(b:Bool)(w:World)(j:s.size<=1073741824)(k:t.size<=1073741824):
  xP prog 261 #[.agg #[.string s,.bool b],.agg #[.string t,.bool b]] w (.agg #[.string (QL (Qa s+Qa t)),.bool b]):=by
 go_enter func261,ntmps261
 go_wp2_with fail
 have g:=((Bx.new w 244 #[.string s,.bool b]).alloc (.cells #[.string t,.bool b] 244)).alloc (.cells #[.string ⟨#[]⟩,.bool false] 244);have i:=(Bx.at1 w (.cells #[.string s,.bool b] 244) 244 #[.string t,.bool b]).alloc (.cells #[.string ⟨#[]⟩,.bool false] 244);have f:=Bx.at2 w (.cells #[.string s,.bool b] 244) (.cells #[.string t,.bool b] 244) 244 #[.string ⟨#[]⟩,.bool false];have l:=b3 w (.cells #[.string s,.bool b] 244) (.cells #[.string t,.bool b] 244) (.cells #[.string ⟨#[]⟩,.bool false] 244);generalize ((w.alloc (.cells #[.string s,.bool b] 244)).alloc (.cells #[.string t,.bool b] 244)).alloc (.cells #[.string ⟨#[]⟩,.bool false] 244)=m at *;have n:=g.lt;have o:=i.lt;have p:=f.lt;let⟨q,r,u,x⟩:=(g).two;let⟨q1,y,z,A⟩:=(i).two;let⟨r1,B,C,D⟩:=(f).two;go_region_held3 (λa=>a.cell? ⟨w.heap.size,0,none⟩=some (.string s)/\a.cell? ⟨w.heap.size,1,none⟩=some (.bool b)/\a.cell? ⟨w.heap.size+1,0,none⟩=some (.string t)/\a.cell? ⟨w.heap.size+1,1,none⟩=some (.bool b)) ((repeat' apply p0)<;>(first|assumption|exact Lj c (by assumption)|exact Jb (Lj c (by assumption)) x3 _ _|exact Jb (by assumption) x3 _ _|go_keep))
  (first|(go_at_call 288;refine(TF s t m.drew _ j k).mono ?_;rintro e wn ⟨rfl,d⟩;have c:=F5 d;clear d;let⟨s1,E,F,s4⟩:=(f.later c).two))
 go_wp2
 exact bodyPost_ret (v:=.agg #[.string (QL (Qa s+Qa t)),.bool b]) (by simp[results,results261,go_sem,((f.later c).set2 _ _).cel]) rfl ⟨rfl,aq (nxt l c) (Rm _ 2) _ _⟩
def vw(s t:ByteArray)(b a:Bool)(w:World)(hs:s.size<=1073741824)(ht:t.size<=1073741824)(C:(b==a)=false)(i:Qa t<=Qa s):
  xP prog 261 #[.agg #[.string s,.bool b],.agg #[.string t,.bool a]] w (.agg #[.string (QL (Qa s-Qa t)),.bool b]):=by
 have E:=x0f (λW=>aY s t W x3 x3);have A:=x0f (λW=>Wz s t W x3 x3);have h0:¬ Xe (Qa s) (Qa t)<0:=λh=>x8 (cmpI_lt.1 h)
 rw[if_neg x3]at A;clear i;go_enter func261,ntmps261
 go_wp2_with fail
 have f:=((Bx.new w 244 #[.string s,.bool b]).alloc (.cells #[.string t,.bool a] 244)).alloc (.cells #[.string ⟨#[]⟩,.bool false] 244);have j:=(Bx.at1 w (.cells #[.string s,.bool b] 244) 244 #[.string t,.bool a]).alloc (.cells #[.string ⟨#[]⟩,.bool false] 244);have g:=Bx.at2 w (.cells #[.string s,.bool b] 244) (.cells #[.string t,.bool a] 244) 244 #[.string ⟨#[]⟩,.bool false];have F:=b3 w (.cells #[.string s,.bool b] 244) (.cells #[.string t,.bool a] 244) (.cells #[.string ⟨#[]⟩,.bool false] 244);generalize ((w.alloc (.cells #[.string s,.bool b] 244)).alloc (.cells #[.string t,.bool a] 244)).alloc (.cells #[.string ⟨#[]⟩,.bool false] 244)=w0 at *;have G:=f.lt;have H:=j.lt;have I:=g.lt;let⟨J,K,L,M⟩:=(f).two;let⟨q1,N,O,P⟩:=(j).two;let⟨r1,Q,R,S⟩:=(g).two;refine(E.out _).mono ?_
 rintro e w1 ⟨rfl,d⟩;let⟨k,l,m,n⟩:=(f.later d).two;let⟨o,p,q,r⟩:=(j.later d).two;let⟨u,x,y,z⟩:=(g.later d).two;clear J K L M q1 N O P r1 Q R S;go_wp2_with fail
 refine(A.out _).mono ?_
 rintro e w2 ⟨rfl,c⟩;have T:=(f.later d).later c;have B:=(g.later d).later c;let⟨U,V,X,Y⟩:=(T).two;let⟨Z,ad,ag,ao⟩:=(B).two;clear k l m n o p q r u x y z;go_wp2
 exact bodyPost_ret (v:=.agg #[.string (QL (Qa s-Qa t)),.bool b]) (by simp[results,results261,go_sem,(B.set2 _ _).cel]) rfl ⟨rfl,aq (nxt (nxt F d) c) (Rm _ 2) _ _⟩
def vx(s t:ByteArray)(b a:Bool)(w:World)(hs:s.size<=1073741824)(ht:t.size<=1073741824)(F:(b==a)=false)(f:Qa s<Qa t):
  xP prog 261 #[.agg #[.string s,.bool b],.agg #[.string t,.bool a]] w (.agg #[.string (QL (Qa t-Qa s)),.bool a]):=by
 have H:=x0f (λW=>aY s t W x3 x3);have D:=x0f (λW=>Wz t s W x3 x3);have h0:Xe (Qa s) (Qa t)<0:=cmpI_lt.2 f;rw[if_neg x3]at D;clear f;go_enter func261,ntmps261
 go_wp2_with fail
 have g:=((Bx.new w 244 #[.string s,.bool b]).alloc (.cells #[.string t,.bool a] 244)).alloc (.cells #[.string ⟨#[]⟩,.bool false] 244);have j:=(Bx.at1 w (.cells #[.string s,.bool b] 244) 244 #[.string t,.bool a]).alloc (.cells #[.string ⟨#[]⟩,.bool false] 244);have i:=Bx.at2 w (.cells #[.string s,.bool b] 244) (.cells #[.string t,.bool a] 244) 244 #[.string ⟨#[]⟩,.bool false];have I:=b3 w (.cells #[.string s,.bool b] 244) (.cells #[.string t,.bool a] 244) (.cells #[.string ⟨#[]⟩,.bool false] 244);generalize ((w.alloc (.cells #[.string s,.bool b] 244)).alloc (.cells #[.string t,.bool a] 244)).alloc (.cells #[.string ⟨#[]⟩,.bool false] 244)=w0 at *;have J:=g.lt;have K:=j.lt;have L:=i.lt;let⟨M,N,O,P⟩:=(g).two;let⟨q1,Q,R,S⟩:=(j).two;let⟨r1,T,U,V⟩:=(i).two;refine(H.out _).mono ?_
 rintro e w1 ⟨rfl,d⟩;let⟨k,l,m,n⟩:=(g.later d).two;let⟨o,q,r,u⟩:=(j.later d).two;let⟨x,y,z,A⟩:=(i.later d).two;clear M N O P q1 Q R S r1 T U V;go_wp2_with fail
 have X:=(g.later d).set2 (.string t) (.bool a);have B:=(X.far (p:=⟨w.heap.size+1,0,none⟩) x6 (.string s)).far (p:=⟨w.heap.size+1,1,none⟩) x6 (.bool b);have Y:=((((i.later d).far (p:=⟨w.heap.size,0,none⟩) x6 (.string t)).far (p:=⟨w.heap.size,1,none⟩) x6 (.bool a)).far (p:=⟨w.heap.size+1,0,none⟩) x6 (.string s)).far (p:=⟨w.heap.size+1,1,none⟩) x6 (.bool b);have C:=aq (aq (nxt I d) (L4 _) (.string t) (.bool a)) (Rm w.heap.size 1) (.string s) (.bool b);refine(D.out _).mono ?_
 rintro e w2 ⟨rfl,c⟩;have Z:=B.later c;have E:=Y.later c;let⟨ad,ag,ao,aw⟩:=(Z).two;let⟨aB,bc,bd,bi⟩:=(E).two;clear k l m n o q r u x y z A;go_wp2
 exact bodyPost_ret (v:=.agg #[.string (QL (Qa t-Qa s)),.bool a]) (by simp[results,results261,go_sem,(E.set2 _ _).cel]) rfl ⟨rfl,aq (nxt C c) (Rm _ 2) _ _⟩
def nG(b a:Bool)(u v:Nat):(b=a->Qe b u+Qe a v=Qe b (u+v))/\((b==a)=false->v<=u->Qe b u+Qe a v=Qe b (u-v))/\((b==a)=false->u<v->Qe b u+Qe a v=Qe a (v-u)):=by
 grind[Qe]
def lf(s t:xM)(b f:Bool)(w:xH)(j:s.size<=1073741824)(k:t.size<=1073741824):
  Calls prog 261 #[.agg #[.string s,.bool b],.agg #[.string t,.bool f]] w λe i=>∃c,e=.returned (.agg #[.string (QJ (Qe b (Qa s)+Qe f (Qa t))),.bool c])/\Qe c (Qe b (Qa s)+Qe f (Qa t)).natAbs=Qe b (Qa s)+Qe f (Qa t)/\Below w.heap.size w i:=by
 let⟨l,m,n⟩:=nG b f (Qa s) (Qa t);cases a:(b==f)
 ·rcases R5 (Qa s) (Qa t)with d|d
  ·rw[n a d];exact(vx s t b f w j k a d).mono λe i ⟨g,h⟩=>⟨f,by rw[g,B4],by rw[Xd],h⟩
  ·rw[m a d];exact(vw s t b f w j k a d).mono λe i ⟨g,h⟩=>⟨b,by rw[g,B4],by rw[Xd],h⟩
 ·have e:b=f:=l3 a;subst e;rw[l rfl];exact(ko s t b w j k).mono λe i ⟨g,h⟩=>⟨b,by rw[g,B4],by rw[Xd],h⟩
def kU(s t:ByteArray)(b a:Bool)(w:World)(q:s.size<=1073741824)(r:t.size<=1073741824):
  xP prog 260 #[.agg #[.string s,.bool b],.agg #[.string t,.bool a]] w (.agg #[.string (QL (Qa s*Qa t)),.bool (b != a)]):=by
 have k:=x0f (λW=>Wy s t W x3 x3);go_enter func260,ntmps260
 go_wp2_with fail
 have i:=((Bx.new w 244 #[.string s,.bool b]).alloc (.cells #[.string t,.bool a] 244)).alloc (.cells #[.string ⟨#[]⟩,.bool false] 244);have j:=(Bx.at1 w (.cells #[.string s,.bool b] 244) 244 #[.string t,.bool a]).alloc (.cells #[.string ⟨#[]⟩,.bool false] 244);have g:=Bx.at2 w (.cells #[.string s,.bool b] 244) (.cells #[.string t,.bool a] 244) 244 #[.string ⟨#[]⟩,.bool false];have l:=b3 w (.cells #[.string s,.bool b] 244) (.cells #[.string t,.bool a] 244) (.cells #[.string ⟨#[]⟩,.bool false] 244);generalize ((w.alloc (.cells #[.string s,.bool b] 244)).alloc (.cells #[.string t,.bool a] 244)).alloc (.cells #[.string ⟨#[]⟩,.bool false] 244)=m at *;have n:=i.lt;have o:=j.lt;have p:=g.lt;let⟨u,x,y,z⟩:=(i).two;let⟨q1,A,B,C⟩:=(j).two;let⟨r1,D,E,F⟩:=(g).two;go_region_held3 (λc=>c.cell? ⟨w.heap.size,0,none⟩=some (.string s)/\c.cell? ⟨w.heap.size,1,none⟩=some (.bool b)/\c.cell? ⟨w.heap.size+1,0,none⟩=some (.string t)/\c.cell? ⟨w.heap.size+1,1,none⟩=some (.bool a)) ((repeat' apply p0)<;>(first|assumption|exact Lj d (by assumption)|exact Jb (Lj d (by assumption)) x3 _ _|exact Jb (by assumption) x3 _ _|go_keep))
  (first|(go_at_call 287;refine(k.out m.drew).mono ?_;rintro e wn ⟨rfl,f⟩;have d:=F5 f;clear f;let⟨s1,G,H,s4⟩:=(g.later d).two))
 go_wp2
 exact bodyPost_ret (v:=.agg #[.string (QL (Qa s*Qa t)),.bool (b != a)]) (by simp[results,results260,go_sem,((g.later d).set2 _ _).cel];cases b<;>cases a<;>rfl) rfl ⟨rfl,aq (nxt l d) (Rm _ 2) _ _⟩
def nE(b a:Bool)(u v:Nat):Qe b u*Qe a v=Qe (b != a) (u*v):=by
 cases b<;>cases a<;>simp only[Qe,bne_self_eq_false,Tv,if_false,if_true,Int.neg_mul,Int.mul_neg,Ty,U6,show(false != true)=true from rfl,show(true != false)=true from rfl]
def eQ(s t:xM)(b a:Bool)(w:xH)(f:s.size<=1073741824)(g:t.size<=1073741824):
  Calls prog 260 #[.agg #[.string s,.bool b],.agg #[.string t,.bool a]] w λe d=>∃c,e=.returned (.agg #[.string (QJ (Qe b (Qa s)*Qe a (Qa t))),.bool c])/\Qe c (Qe b (Qa s)*Qe a (Qa t)).natAbs=Qe b (Qa s)*Qe a (Qa t)/\Below w.heap.size w d:=by
 rw[nE];exact(kU s t b a w f g).mono λe d ⟨h,i⟩=>⟨b != a,by rw[h,B4],by rw[Xd],i⟩
def E4(s:ByteArray)(b:Bool)(w:World):
  xP prog 204 #[.agg #[.bool b,.string s]] w (.agg #[.bool (neg (-Qe b (Qa s))),.string (QJ (-Qe b (Qa s)))]):=by
 rw[<- nD];go_enter func204,ntmps204
 go_wp2_with fail
 have f:=(Bx.new w 30 #[.bool b,.string s]).alloc (.cells #[.bool false,.string ⟨#[]⟩] 30);have a:=Bx.at1 w (.cells #[.bool b,.string s] 30) 30 #[.bool false,.string ⟨#[]⟩];have g:=b2 w (.cells #[.bool b,.string s] 30) (.cells #[.bool false,.string ⟨#[]⟩] 30);generalize (w.alloc (.cells #[.bool b,.string s] 30)).alloc (.cells #[.bool false,.string ⟨#[]⟩] 30)=k at *;have i:=f.lt;have j:=a.lt;refine(ZM s (!b) _).mono ?_
 rintro e l ⟨rfl,c⟩;let⟨r1,m,n,o⟩:=(a.later c).two;go_wp2
 exact bodyPost_ret (v:=.agg #[.bool (neg (Qe (!b) (Qa s))),.string (QJ (Qe (!b) (Qa s)))]) (by simp[results,results204,go_sem,((a.later c).set2 _ _).cel]) rfl ⟨rfl,aq (nxt g c) (Rm _ 1) _ _⟩
theorem xD(v:Nat)(w:World)(m:0<v)(n:v<=9223372036854775808):
  xP prog 197 #[.int .i64 (-(v:Int))] w (.agg #[.bool (neg (-(v:Int))),.string (QJ (-(v:Int)))]):=by
 have hi:Qe true (Qa (QL v))=-(v:Int):=by rw[XT];rfl
 have d:=x0f (λW=>ZM (QL v) true W);rw[hi]at d;have j:IntKind.u64.wrap (-(v:Int))=18446744073709551616-(v:Int):=by rw[b7];omega
 have k:IntKind.u64.wrap (-(18446744073709551616-(v:Int)))=(v:Int):=by rw[b7];omega
 have co:=x0f (λW=>Io v W (by rw[Jo];omega));clear hi;go_enter func197,ntmps197
 have X:=Bx.new w 30 #[.bool false,.string ⟨#[]⟩];go_wp2_with fail
 refine(co.out _).mono ?_
 rintro e o ⟨rfl,b⟩;have f:=X.later b;have l:=nxt (b1 w _) b;clear b X;go_wp2_with fail
 refine(d.out _).mono ?_
 rintro e p ⟨rfl,a⟩;have g:=f.later a;have c:=nxt l a;clear a f;let⟨r1,q,r,s⟩:=g.two;go_wp2
 exact bodyPost_ret (v:=.agg #[.bool (neg (-(v:Int))),.string (QJ (-(v:Int)))]) (by simp[results,results197,go_sem,(g.set2 _ _).cel]) rfl ⟨rfl,aq c (L4 _) _ _⟩
theorem xE(v:Nat)(w:World)(l:v<=9223372036854775807):
  xP prog 197 #[.int .i64 (v:Int)] w (.agg #[.bool (neg ((v:Int))),.string (QJ ((v:Int)))]):=by
 have hi:Qe false (Qa (QL v))=(v:Int):=by rw[XT];rfl
 have d:=x0f (λW=>ZM (QL v) false W);rw[hi]at d;have j:IntKind.u64.wrap (v:Int)=(v:Int):=by rw[b7];omega
 have co:=x0f (λW=>Io v W (by rw[Jo];omega));clear hi;go_enter func197,ntmps197
 have X:=Bx.new w 30 #[.bool false,.string ⟨#[]⟩];go_wp2_with fail
 refine(co.out _).mono ?_
 rintro e m ⟨rfl,b⟩;have f:=X.later b;have k:=nxt (b1 w _) b;clear b X;go_wp2_with fail
 refine(d.out _).mono ?_
 rintro e n ⟨rfl,a⟩;have g:=f.later a;have c:=nxt k a;clear a f;let⟨r1,o,p,q⟩:=g.two;go_wp2
 exact bodyPost_ret (v:=.agg #[.bool (neg ((v:Int))),.string (QJ ((v:Int)))]) (by simp[results,results197,go_sem,(g.set2 _ _).cel]) rfl ⟨rfl,aq c (L4 _) _ _⟩
def Cm(n:Int)(w:xH)(b:-9223372036854775808<=n)(c:n<=9223372036854775807):
  xP prog 197 #[.int .i64 n] w (.agg #[.bool (neg n),.string (QJ n)]):=by
 by_cases h:n<0
 ·obtain⟨v,rfl⟩:∃v:Nat,n=-(v:Int):=⟨n.natAbs,x3⟩
  grind[xD]
 grind[Int,xE]
theorem mag_empty{z:Int}:(QJ z).toList=[]↔z=0:=by
 simp[QJ,nstr_empty]
def Il{z:Int}(h:z≠0):(QJ z).toList.isEmpty=false:=by
 grind[mag_empty]
def GI(s:ByteArray)(b:Bool)(w:World):
  xP prog 113 #[.agg #[.bool b,.string s]] w (.int .i64 (JZ (Qe b (Qa s)))):=by
 have d:=x0f (λW=>Cl s b W);generalize Qe b (Qa s)=z at *;rcases Int.lt_trichotomy z 0 with h|h|h
 ·have f:neg z=true:=Lk h;have a:=x0f (show JZ z=-1 by unfold JZ;rw[if_pos h]);clear h;go_enter func113,ntmps113
  go_wp2_with fail
  refine(d.out _).mono ?_
  rintro e g ⟨rfl,c⟩;go_wp2
  go_ret
  exact⟨by rw[a.out];rfl,EI (nxt (b1 w _) c) _⟩
 ·have f:neg z=false:=Lc x3;have j:(QJ z).toList=[]:=mag_empty.2 h;have a:=x0f (show JZ z=0 from sgn_eq.2 h);clear h;go_enter func113,ntmps113
  go_wp2_with fail
  refine(d.out _).mono ?_
  rintro e g ⟨rfl,c⟩;go_wp2
  go_ret
  exact⟨by rw[a.out];rfl,EI (nxt (b1 w _) c) _⟩
 ·have f:neg z=false:=Lc x3;have j:(QJ z).toList.isEmpty=false:=Il x3;have a:=x0f (show JZ z=1 by unfold JZ;rw[if_neg x3,if_neg x3]);clear h;go_enter func113,ntmps113
  go_wp2_with fail
  refine(d.out _).mono ?_
  rintro e g ⟨rfl,c⟩;go_wp2
  go_ret
  exact⟨by rw[a.out];rfl,EI (nxt (b1 w _) c) _⟩
def oS(w:xH)(A:xN)(n:Nat)(bs:Nat->Bool)(a:Nat->xM):Prop :=
 0<n->∃b off,A=some ⟨b,off,none⟩/\∀j,j<n->w.cell? ⟨b,off+j*2,none⟩=some (.bool (bs j))/\w.cell? ⟨b,off+j*2+1,none⟩=some (.string (a j))
def aT(A:Option Addr)(n c:Nat)(bs:Nat->Bool)(a:Nat->ByteArray)(w:World)(hn:n<=268435456)(B:∀j,(a j).size<=536870912)(J:oS w A n bs a):
  xP prog 208 #[.slice A n c] w (.agg #[.bool (neg (VL (λj=>Qe (bs j) (Qa (a j))) n)),.string (QJ (VL (λj=>Qe (bs j) (Qa (a j))) n))]):=by
 have T:=x0f B;have r:∀k,Zr (VL (λj=>Qe (bs j) (Qa (a j))) k)<=536870912+k:=λk=>IP (λj=>L6 (GN _ _) (B j)) k
 have U:=x0f r;clear B r;go_enter func208,ntmps208
 have V:=(Bx.new w 30 #[.bool false,.string ⟨#[]⟩]).alloc (.cells #[.string ⟨#[]⟩,.bool false] 244);have X:=Bx.at1 w (.cells #[.bool false,.string ⟨#[]⟩] 30) 244 #[.string ⟨#[]⟩,.bool false];have Y:=b2 w (.cells #[.bool false,.string ⟨#[]⟩] 30) (.cells #[.string ⟨#[]⟩,.bool false] 244);go_wp2_with fail
 generalize (w.alloc (.cells #[.bool false,.string ⟨#[]⟩] 30)).alloc (.cells #[.string ⟨#[]⟩,.bool false] 244)=w0 at *;go_loopw [8] (λi wr=>∃k:Nat,∃d:Bool,k<=n/\i=.int .i64 (k:Nat)/\Hid (Qe d (VL (λj=>Qe (bs j) (Qa (a j))) k).natAbs=VL (λj=>Qe (bs j) (Qa (a j))) k)/\Bx wr w.heap.size 30 #[.bool false,.string ⟨#[]⟩]/\Bx wr (w.heap.size+1) 244 #[.string (QJ (VL (λj=>Qe (bs j) (Qa (a j))) k)),.bool d]/\Below w.heap.size w wr) (λi _=>n-(intOf i).toNat)
 case atStart=>exact⟨0,false,L7 _,rfl,rfl,V,X,Y⟩
 case round =>
  obtain⟨k,d,hk,rfl,hd,y,C,f⟩:=hrel;let⟨Z,p2,p3,p4⟩:=y.two;let⟨q1,K,L,M⟩:=C.two;by_cases m:k<n
  ·obtain⟨b,off,rfl,D⟩:=J x3;have g1:=Lj f (D k m).1;have g2:=Lj f (D k m).2;clear D J;have ad:w.heap.size+1<wr.heap.size:=C.lt;have N:=Bx.new wr 30 #[.bool (bs k),.string (a k)];have Z1:=y.alloc (.cells #[.bool (bs k),.string (a k)] 30);have z:=C.alloc (.cells #[.bool (bs k),.string (a k)] 30);have E:=EI f (.cells #[.bool (bs k),.string (a k)] 30);have F:=T.out k;have G:=U.out k;have HD:=x0f (show VL (λj=>Qe (bs j) (Qa (a j))) (k+1)=Qe d (Qa (QJ (VL (λj=>Qe (bs j) (Qa (a j))) k)))+Qe (bs k) (Qa (a k))by
    rw[VM,hd.out];rfl)
   have s:(QJ (VL (λj=>Qe (bs j) (Qa (a j))) k)).size<=1073741824:=by rw[XU];omega
   have l:(a k).size<=1073741824:=x3;have H:=x0f (λW=>lf (QJ (VL (λj=>Qe (bs j) (Qa (a j))) k)) (a k) d (bs k) W s l);rw[<- HD.out]at H;clear F G s l;obtain⟨O,o⟩:∃O,O=VL (λj=>Qe (bs j) (Qa (a j))) (k+1):=⟨_,rfl⟩
   rw[<- o]at H;have P:=x0f o;clear o;go_wp2_with fail
   generalize wr.alloc (.cells #[.bool (bs k),.string (a k)] 30)=Q at *;let⟨z1,z2,_,_⟩:=N.two;clear Z p2 p3 p4 q1 K L M;let⟨q1,K,L,M⟩:=z.two;have ag:wr.heap.size<Q.heap.size:=N.lt;go_region_with
    (first
     |(go_at_call 207;refine(IH (a k) (bs k) Q.drew).mono ?_;rintro e wn ⟨rfl,t⟩;have u:=F5 t;clear t;let⟨s1,s2,s3,s4⟩:=(z.later u).two)
     |(go_at_call 261;refine(H.out wn).mono ?_;rintro e wm ⟨d',rfl,x,g⟩;have I:=x0f x;clear x;let⟨t1,t2,t3,t4⟩:=((z.later u).later g).two))
   all_goals
    go_wp2
    exact⟨⟨k+1,d',m,by go_num,by rw[<- P.out];exact I.out,(((Z1.later u).later g).far (p:=⟨w.heap.size+1,0,none⟩) x6 _).far (p:=⟨w.heap.size+1,1,none⟩) x6 _,by rw[<- P.out];exact((z.later u).later g).set2 _ _,aq (nxt (nxt E u) g) (Rm _ 1) _ _⟩,by simp[intOf];omega⟩
  ·obtain rfl:k=n:=x3;have R:=x0f (λW=>ZM (QJ (VL (λj=>Qe (bs j) (Qa (a j))) k)) d W);rw[VM,hd.out]at R;go_wp2_with fail
   refine(R.out _).mono ?_
   rintro e w6 ⟨rfl,q⟩;let⟨s1,s2,s3,s4⟩:=(y.later q).two;go_wp2
   exact bodyPost_ret (v:=.agg #[.bool (neg (VL (λj=>Qe (bs j) (Qa (a j))) k)),.string (QJ (VL (λj=>Qe (bs j) (Qa (a j))) k))]) (by simp[results,results208,go_sem,((y.later q).set2 _ _).cel]) rfl ⟨rfl,aq (nxt f q) (L4 _) _ _⟩
def se(A:Option Addr)(n c:Nat)(bs:Nat->Bool)(a:Nat->ByteArray)(S:Nat)(w:World)(hn:n<=268435456)(hS:S<=1073741824)(I:∀j,(a j).size<=S)(J:S*n<=1073741823)(R:oS w A n bs a):
  xP prog 202 #[.slice A n c] w (.agg #[.bool (neg (X5 (λj=>Qe (bs j) (Qa (a j))) n)),.string (QJ (X5 (λj=>Qe (bs j) (Qa (a j))) n))]):=by
 have HS:=x0f I;have z:∀k,k<=n->Zr (X5 (λj=>Qe (bs j) (Qa (a j))) k)<=1073741824:=λk K=>by
  have h1:=N8 (f:=λj=>Qe (bs j) (Qa (a j))) (S:=S) (λj=>L6 (GN _ _) (I j)) k;have h2:S*k<=S*n:=Rb _ K;omega
 have HB:=x0f z;clear I z J;have c1:=x0f (λW=>Cm 1 W x4 x4);go_enter func202,ntmps202
 have q:=Bx.new w 30 #[.bool false,.string ⟨#[]⟩];have s:=b1 w (.cells #[.bool false,.string ⟨#[]⟩] 30);go_wp2_with fail
 refine(c1.out _).mono ?_
 rintro e w1 ⟨rfl,l⟩;replace q:=q.later l;replace s:=nxt s l;clear l;go_wp2_with fail
 refine(IH _ _ w1).mono ?_
 rintro e F ⟨rfl,l⟩;replace q:=q.later l;replace s:=nxt s l;clear l;have L:w.heap.size<F.heap.size:=q.lt;have X2:=Bx.new F 244 #[.string (QJ 1),.bool (neg 1)];replace q:=q.alloc (.cells #[.string (QJ 1),.bool (neg 1)] 244);replace s:=EI s (.cells #[.string (QJ 1),.bool (neg 1)] 244);go_wp2_with fail
 generalize F.alloc (.cells #[.string (QJ 1),.bool (neg 1)] 244)=w0 at *;generalize F.heap.size=g at *;go_loopw [10] (λi wr=>∃k:Nat,∃d:Bool,k<=n/\i=.int .i64 (k:Nat)/\Hid (Qe d (X5 (λj=>Qe (bs j) (Qa (a j))) k).natAbs=X5 (λj=>Qe (bs j) (Qa (a j))) k)/\Bx wr w.heap.size 30 #[.bool false,.string ⟨#[]⟩]/\Bx wr g 244 #[.string (QJ (X5 (λj=>Qe (bs j) (Qa (a j))) k)),.bool d]/\Below w.heap.size w wr) (λi _=>n-(intOf i).toNat)
 case atStart=>exact⟨0,neg 1,L7 _,rfl,(by show Qe (neg 1) (1:Int).natAbs=1;rfl),q,X2,s⟩
 case round =>
  obtain⟨k,d,K,rfl,hd,G,M,t⟩:=hrel;let⟨p1,p2,p3,p4⟩:=G.two;let⟨q1,T,U,V⟩:=M.two;by_cases u:k<n
  ·obtain⟨b,off,rfl,N⟩:=R x3;have m:Below w.heap.size w wr:=t;have g1:=Lj m (N k u).1;have g2:=Lj m (N k u).2;clear N R;have ad:g<wr.heap.size:=M.lt;have X:=Bx.new wr 30 #[.bool (bs k),.string (a k)];have Z1:=G.alloc (.cells #[.bool (bs k),.string (a k)] 30);have H:=M.alloc (.cells #[.bool (bs k),.string (a k)] 30);have m:=EI t (.cells #[.bool (bs k),.string (a k)] 30);have O:=HS.out k;have B:=HB.out k K;have HD:=x0f (show X5 (λj=>Qe (bs j) (Qa (a j))) (k+1)=Qe d (Qa (QJ (X5 (λj=>Qe (bs j) (Qa (a j))) k)))*Qe (bs k) (Qa (a k))by
    rw[VM,hd.out];rfl)
   have C:(QJ (X5 (λj=>Qe (bs j) (Qa (a j))) k)).size<=1073741824:=by rw[XU];exact B
   have r:(a k).size<=1073741824:=x3;have P:=x0f (λW=>eQ (QJ (X5 (λj=>Qe (bs j) (Qa (a j))) k)) (a k) d (bs k) W C r);rw[<- HD.out]at P;clear O B C r;obtain⟨Y,x⟩:∃Y,Y=X5 (λj=>Qe (bs j) (Qa (a j))) (k+1):=⟨_,rfl⟩
   rw[<- x]at P;have Z:=x0f x;clear x;go_wp2_with fail
   generalize wr.alloc (.cells #[.bool (bs k),.string (a k)] 30)=w5 at *;let⟨z1,z2,_,_⟩:=X.two;clear p1 p2 p3 p4 q1 T U V;let⟨q1,T,U,V⟩:=H.two;have ag:wr.heap.size<w5.heap.size:=X.lt;go_region_with
    (first
     |(go_at_call 207;refine(IH (a k) (bs k) w5.drew).mono ?_;rintro e wn ⟨rfl,D⟩;have l:=F5 D;clear D;let⟨s1,s2,s3,s4⟩:=(H.later l).two)
     |(go_at_call 260;refine(P.out wn).mono ?_;rintro e wm ⟨d',rfl,E,o⟩;have Q:=x0f E;clear E;let⟨t1,t2,t3,t4⟩:=((H.later l).later o).two))
   all_goals
    go_wp2
    exact⟨⟨k+1,d',u,by go_num,by rw[<- Z.out];exact Q.out,(((Z1.later l).later o).far (p:=⟨g,0,none⟩) (Sc L) _).far (p:=⟨g,1,none⟩) (Sc L) _,by rw[<- Z.out];exact((H.later l).later o).set2 _ _,aq (nxt (nxt m l) o) (Sv L) _ _⟩,by simp[intOf];omega⟩
  ·obtain rfl:k=n:=x3;have cm:=x0f (λW=>ZM (QJ (X5 (λj=>Qe (bs j) (Qa (a j))) k)) d W);rw[VM,hd.out]at cm;go_wp2_with fail
   refine(cm.out _).mono ?_
   rintro e w6 ⟨rfl,y⟩;let⟨s1,s2,s3,s4⟩:=(G.later y).two;go_wp2
   exact bodyPost_ret (v:=.agg #[.bool (neg (X5 (λj=>Qe (bs j) (Qa (a j))) k)),.string (QJ (X5 (λj=>Qe (bs j) (Qa (a j))) k))]) (by simp[results,results202,go_sem,((G.later y).set2 _ _).cel]) rfl ⟨rfl,aq (nxt t y) (L4 _) _ _⟩
def QfG(w:xH)(s t:xM)(b a:Bool):oS (w.alloc (.cells #[.bool b,.string s,.bool a,.string t] 30)) (some ⟨w.heap.size,0,none⟩) 2 (λj=>if j=0 then b else a) (λj=>if j=0 then s else t):=λ_ =>
 ⟨w.heap.size,0,rfl,λj c=>by
  have h:=Bx.new w 30 #[.bool b,.string s,.bool a,.string t];have:j=0\/j=1:=x3;rcases this with rfl|rfl
  all_goals simp⟩
def ld(s t:xM)(b a:Bool)(w:xH)(g:s.size<=536870912)(i:t.size<=536870912):
  Calls prog 208 #[.slice (some ⟨w.heap.size,0,none⟩) 2 2] (w.alloc (.cells #[.bool b,.string s,.bool a,.string t] 30)) λe c=>e=.returned (.agg #[.bool (neg (Qe b (Qa s)+Qe a (Qa t))),.string (QJ (Qe b (Qa s)+Qe a (Qa t)))])/\Below w.heap.size w c:=by
 have h:=aT _ 2 2 _ _ (w.alloc (.cells #[.bool b,.string s,.bool a,.string t] 30)) x4 (λj=>by split<;>assumption) (QfG w s t b a)
 have e:VL (λj=>Qe (if j=0 then b else a) (Qa (if j=0 then s else t))) 2=Qe b (Qa s)+Qe a (Qa t):=by
  show(0+Qe b (Qa s))+Qe a (Qa t)=_;omega
 rw[e]at h;exact h.mono λe c ⟨d,f⟩=>⟨d,nxt (b1 _ _) f⟩
def Nw(s t:ByteArray)(b d:Bool)(w:World)(q:s.size<=536870912)(r:t.size<=536870912):
  xP prog 153 #[.agg #[.bool b,.string s],.agg #[.bool d,.string t]] w (.agg #[.bool (neg (Qe b (Qa s)-Qe d (Qa t))),.string (QJ (Qe b (Qa s)-Qe d (Qa t)))]):=by
 have m:(QJ (-Qe d (Qa t))).size<=536870912:=by
  rw[XU,H8];exact L6 (GN _ _) r
 have u:=x0f (λW=>E4 t d W);have n:=x0f (λW=>ld s (QJ (-Qe d (Qa t))) b (neg (-Qe d (Qa t))) W q m);rw[Xp,<- Int.sub_eq_add_neg]at n;clear m;go_enter func153,ntmps153
 go_wp2_with fail
 have o:=((Bx.new w 30 #[.bool b,.string s]).alloc (.cells #[.bool d,.string t] 30)).alloc (.cells #[.bool false,.string ⟨#[]⟩] 30);have p:=(Bx.at1 w (.cells #[.bool b,.string s] 30) 30 #[.bool d,.string t]).alloc (.cells #[.bool false,.string ⟨#[]⟩] 30);have l:=Bx.at2 w (.cells #[.bool b,.string s] 30) (.cells #[.bool d,.string t] 30) 30 #[.bool false,.string ⟨#[]⟩];have x:=b3 w (.cells #[.bool b,.string s] 30) (.cells #[.bool d,.string t] 30) (.cells #[.bool false,.string ⟨#[]⟩] 30);generalize ((w.alloc (.cells #[.bool b,.string s] 30)).alloc (.cells #[.bool d,.string t] 30)).alloc (.cells #[.bool false,.string ⟨#[]⟩] 30)=y at *;have z:=o.lt;have A:=p.lt;have B:=l.lt;let⟨g,i,C,D⟩:=(o).two;let⟨q1,j,E,F⟩:=(p).two;let⟨r1,G,H,I⟩:=(l).two;go_region_held3 (λf=>f.cell? ⟨w.heap.size,0,none⟩=some (.bool b)/\f.cell? ⟨w.heap.size,1,none⟩=some (.string s)/\f.cell? ⟨w.heap.size+1,0,none⟩=some (.bool d)/\f.cell? ⟨w.heap.size+1,1,none⟩=some (.string t)) (first|exact⟨g,i,q1,j⟩|exact⟨Lj c g,Lj c i,Lj c q1,Lj c j⟩|exact⟨Lj (b1 wn _) (Lj c g),Lj (b1 wn _) (Lj c i),Lj (b1 wn _) (Lj c q1),Lj (b1 wn _) (Lj c j)⟩|exact⟨Lj a (Lj c g),Lj a (Lj c i),Lj a (Lj c q1),Lj a (Lj c j)⟩|exact⟨Jb (Lj a (Lj c g)) x3 _ _,Jb (Lj a (Lj c i)) x3 _ _,Jb (Lj a (Lj c q1)) x3 _ _,Jb (Lj a (Lj c j)) x3 _ _⟩)
  (first
   |(go_at_call 204;refine(u.out y.drew).mono ?_;rintro e wn ⟨rfl,k⟩;have c:=F5 k;clear k)
   |(go_at_call 208;refine(n.out wn).mono ?_;rintro e J ⟨rfl,a⟩;let⟨K,L,M,N⟩:=((l.later c).later a).two))
 go_wp2
 exact bodyPost_ret (v:=.agg #[.bool (neg (Qe b (Qa s)-Qe d (Qa t))),.string (QJ (Qe b (Qa s)-Qe d (Qa t)))]) (by simp[results,results153,go_sem,(((l.later c).later a).set2 _ _).cel]) rfl ⟨rfl,aq (nxt (nxt x c) a) (Rm _ 2) _ _⟩
theorem aU(s t:ByteArray)(b a:Bool)(w:World)(f:s.size<=536870912)(g:t.size<=536870912):
  xP prog 115 #[.agg #[.bool b,.string s],.agg #[.bool a,.string t]] w (.int .i64 (JZ (Qe b (Qa s)-Qe a (Qa t)))):=by
 have j:=x0f (λW=>Nw s t b a W f g);have d:=x0f (λW=>GI (QJ (Qe b (Qa s)-Qe a (Qa t))) (neg (Qe b (Qa s)-Qe a (Qa t))) W);rw[Xp]at d;go_enter func115,ntmps115
 go_wp2_with fail
 refine(j.out _).mono ?_
 rintro e l ⟨rfl,c⟩;have k:=nxt (b2 w _ _) c;clear c;go_wp2_with fail
 refine(d.out _).mono ?_
 rintro e m ⟨rfl,c⟩;go_wp2
 go_ret
 exact⟨rfl,nxt k c⟩
