/- Laws beneath the statement. -/
import Derived.Test.YtoibldcmoapgbaaGreatDoorQP6
import Derived.Deep.RegionHeld3
namespace Go.Proofs.YtoibldcmoapgbaaGreatDoor
open Tryz
set_option maxHeartbeats 4000000
set_option maxRecDepth 100000
open Go.RowKit
theorem n8(A:u5)(c v a:Nat)(w:y9)(j:nd 64 v<=4294967296)(f:nd 64 v<=c)(b:a<=9223372036854775807)(n:Rd w A (nd 64 v) (QX v)):
  Calls prog 190 #[.slice A (nd 64 v) c,.int .i64 (a:Nat)] w λe d=>∃k l,e=.returned (.slice k (nd 64 (v / 2^a)) l)/\nd 64 (v / 2^a)<=l/\Below w.heap.size w d/\Rd d k (nd 64 (v / 2^a)) (QX (v / 2^a)):=by
 by_cases h:a / 64<nd 64 v
 ·exact(Mx A _ c v a w j f b h (YI v) n).mono λe d ⟨g,N,i,_,o,p,_,m⟩=>⟨_,N,i,m,o,Cel.rd0 p m⟩
 ·refine(PE A _ c v a w j b (Sg h)).mono λe d ⟨i,q⟩=>?_
  subst q;rw[AV (YI v) (Sg h),Cs];exact⟨none,0,i,La _,l3 _ _,Rd.nil_⟩
theorem fC(s t:ByteArray)(w:World)(d:s.size<=4294967296)(f:t.size<=4294967296)(b:Qa t=0):
  b9 prog 138 #[.string s,.string t] w (.tuple #[.string ⟨#[]⟩,.string ⟨#[]⟩,.bool false]):=by
 have e0:(((nd 64 (Qa t):Nat):Int)==0)=true:=by rw[b];rfl
 clear b;go_enter func138,ntmps138
 go_wp2_with fail
 refine(Kd s w d).mono ?_
 rintro e j ⟨g,N,rfl,p,c,q,r,u,v⟩;go_wp2_with fail
 refine(Kd t j f).mono ?_
 rintro e x ⟨y,z,rfl,k,a,l,m,n,o⟩;go_wp2
 go_ret3
 exact⟨rfl,QE c a c.size⟩
theorem WE(s t:ByteArray)(w:World)(n:s.size<=4294967296)(o:t.size<=4294967296)(f:Qa s<Qa t):
  b9 prog 138 #[.string s,.string t] w (.tuple #[.string ⟨#[]⟩,.string (QK (Qa s)),.bool true]):=by
 have e0:(((nd 64 (Qa t):Nat):Int)==0)=false:=by
  have:=VP 64 (v:=Qa t) x3;exact R7.2 x3
 have y:=cmpI_lt.2 f;clear f;go_enter func138,ntmps138
 go_wp2_with fail
 refine(Kd s w n).mono ?_
 rintro e q ⟨g,N,rfl,z,i,A,j,B,l⟩;go_wp2_with fail
 refine(Kd t q o).mono ?_
 rintro e C ⟨D,E,rfl,r,a,u,b,x,c⟩;go_wp2_with fail
 refine(F6 _ _ _ _ _ _ _ x3 x3 j b (l.below a) c).mono ?_
 rintro e F ⟨rfl,k,rfl⟩;go_wp2_with fail
 refine(B2 _ _ _ _ x3 j ((l.below a).drewN k)).mono ?_
 rintro e G ⟨rfl,d⟩;go_wp2
 go_ret3
 have m:=ZA (QE i a i.size) k;exact⟨rfl,QE m d m.size⟩
theorem j8(s t:ByteArray)(w:World)(hs:s.size<=4294967296)(ht:t.size<=4294967296)(h0:0<Qa t)(al:Qa t<=Qa s):
  b9 prog 138 #[.string s,.string t] w (.tuple #[.string (QK (Qa s / Qa t)),.string (QK (Qa s % Qa t)),.bool true]):=by
 have eb:nd 64 (Qa s)<=536870912:=y6 (Gg s);have cp:nd 64 (Qa t)<=nd 64 (Qa s):=BM x4 al;have ao:=VP 64 (v:=Qa t) x3;have e0:(((nd 64 (Qa t):Nat):Int)==0)=false:=R7.2 x3;have hc:¬ Kw (Qa s) (Qa t)<0:=λh=>y6 (cmpI_lt.1 h)
 obtain⟨f1,f2,f3,f4⟩:=WI (v:=Qa t) x3;have cq:((QD LB (Qa t) (nd 64 (Qa t)-1):Nat):Int)<=18446744073709551615:=by
  have h:QD LB (Qa t) (nd 64 (Qa t)-1)<18446744073709551616:=Yz QB _ _;omega
 have aw:=λW=>Tryz.bits_LeadingZeros64 (QD LB (Qa t) (nd 64 (Qa t)-1)) W x3 cq
 obtain⟨d,cr⟩:∃d,d=64-nd 1 (QD LB (Qa t) (nd 64 (Qa t)-1)):=⟨_,rfl⟩
 have ec:d<=63:=x3;have ct:(64-(Lib.bitLen ((QD LB (Qa t) (nd 64 (Qa t)-1):Nat):Int).toNat:Int))=(d:Int):=by
  rw[S9,CV _ (Yz QB _ _)];omega
 rw[ct]at aw;rw[<- cr]at f3 f4;have cu:=hV aw;have V:=hV (show LB^(nd 64 (Qa t)-1)*9223372036854775808<=Qa t*2^d/\Qa t*2^d<LB^nd 64 (Qa t)from⟨f3,f4⟩);have hf:=hV al;have H0:=hV h0;clear aw ct cr f1 f2 f3 f4 al h0 cq;go_enter func138,ntmps138
 go_wp2_with fail
 refine(Kd s w hs).mono ?_
 rintro e w1 ⟨g,N,rfl,hg,hb,hC,h1,h2,hr⟩;go_wp2_with fail
 refine(Kd t w1 ht).mono ?_
 rintro e w2 ⟨g',N',rfl,hh,aB,ef,bd,ej,bi⟩;have u:=QE hb aB hb.size;have bk:=hr.below aB;clear hr aB hb;go_wp2_with fail
 refine(F6 _ _ _ _ _ _ _ x3 x3 h1 bd bk bi).mono ?_
 rintro e w3 ⟨rfl,k,rfl⟩;have x:=ZA u k;have cy:=bk.drewN k;have F:=bi.drewN k;clear u bk bi hC ef;generalize w2.drewN k=w3 at *;have g1:w3.cell? ⟨g',nd 64 (Qa t)-1,none⟩=some (.int .u64 (QD LB (Qa t) (nd 64 (Qa t)-1):Nat)):=by
  obtain⟨b,off,e,ek⟩:=F ao;injection e with e
  injection e with e1 e2
  have:=ek (nd 64 (Qa t)-1) x3;rw[<- e1,<- e2,Lj]at this;exact this
 go_wp2_with fail
 refine(cu.out _).mono ?_
 rintro e w4 ⟨rfl,rfl⟩;go_wp2_with fail
 refine(aC _ _ _ (Qa s) d _ x3 h1 x3 (YI _) cy).mono ?_
 rintro e w5 ⟨g5,N5,rfl,hi,Q,cA,en⟩;have G:Qa s*2^d<LB^(nd 64 (Qa s)+1):=by have:=lD (Qa s) d;rwa [show d / 64=0 by omega]at this
 have cC:=Ik G;have H:nd 64 (Qa s*2^d)<=N5:=x3;have cD:=hV (Ay (some ⟨g5,0,none⟩) (nd 64 (Qa s*2^d)) N5 (Qa s*2^d) ((nd 64 (Qa s):Int)+2) (nd 64 (Qa s)+2) w5 x3 H x3 x3 x3 (YI _) (Cel.rd0 cA H));have H5:=hV G;clear G en cA;go_wp2_with fail
 refine cD.out.mono ?_
 rintro e w6 ⟨f,rfl,eo,cF,bl⟩;have z:=QE Q cF Q.size;have cG:=F.below z;go_wp2_with fail
 refine(aC _ _ _ (Qa t) d _ x3 bd x3 (YI _) cG).mono ?_
 rintro e l ⟨C,E,rfl,hl,bs,R,es⟩;have cL:nd 64 (Qa t*2^d)=nd 64 (Qa t):=RE 64 x4 V.out.2 (λ_=>L9 (Rv _ x4) V.out.1);have X:nd 64 (Qa t)<=E:=x3;have cM:0<Qa t*2^d:=Ut H0.out (Lv _);rw[cL];have m:=bl.bel bs;have gw:f<C:=y6 bl.lt;have B:=QE (QE x z x.size) bs (L9 x.size z.size);have n:=hV cM;have ev:w.heap.size<=f:=L9 x.size (L9 Q.size eo);obtain⟨U,hU⟩:∃U,U=Qa s*2^d:=⟨_,rfl⟩
 obtain⟨Y,hY⟩:∃Y,Y=Qa t*2^d:=⟨_,rfl⟩
 obtain⟨nx,cN⟩:∃nx,nx=nd 64 (Qa s):=⟨_,rfl⟩
 obtain⟨nb,Z⟩:∃nb,nb=nd 64 (Qa t):=⟨_,rfl⟩
 rw[<- hU]at m H5;rw[<- hY]at R V n;rw[<- cN]at m H5 eb cp ⊢;rw[<- Z]at V X cp ao ⊢;have HU:=hV hU;have HY:=hV hY;clear hU hY cN Z cL cM bl bs Q cF x z H cC es h1 h2 bd ej cD cy F cG g1 cu hc e0;go_upto_region 8 with fail
 have bX:(l.alloc (.cells #[.slice (some ⟨f,0,none⟩) (nx+2) (nx+2),.slice (some ⟨C,0,none⟩) nb E] 260)).cell? ⟨l.heap.size,0,none⟩=some (.slice (some ⟨f,0,none⟩) (nx+2) (nx+2)):=by
  rw[World.cell?_alloc_at _ _ _ _ rfl];rfl
 have bY:(l.alloc (.cells #[.slice (some ⟨f,0,none⟩) (nx+2) (nx+2),.slice (some ⟨C,0,none⟩) nb E] 260)).cell? ⟨l.heap.size,1,none⟩=some (.slice (some ⟨C,0,none⟩) nb E):=by
  rw[World.cell?_alloc_at _ _ _ _ rfl];rfl
 have ex:=m.alloc (.cells #[.slice (some ⟨f,0,none⟩) (nx+2) (nx+2),.slice (some ⟨C,0,none⟩) nb E] 260);have cO:=R.alloc (.cells #[.slice (some ⟨f,0,none⟩) (nx+2) (nx+2),.slice (some ⟨C,0,none⟩) nb E] 260);have ca:=B.alloc B.size (.cells #[.slice (some ⟨f,0,none⟩) (nx+2) (nx+2),.slice (some ⟨C,0,none⟩) nb E] 260);have cR:l.heap.size<(l.alloc (.cells #[.slice (some ⟨f,0,none⟩) (nx+2) (nx+2),.slice (some ⟨C,0,none⟩) nb E] 260)).heap.size:=x6;have hm:=R.lt;have hn:=m.lt;have hd:=B.size;clear m R B;generalize l.alloc (.cells #[.slice (some ⟨f,0,none⟩) (nx+2) (nx+2),.slice (some ⟨C,0,none⟩) nb E] 260)=w8 at *;obtain⟨L,hL⟩:∃L,nx+2=nb+L:=⟨nx+2-nb,x3⟩
 have cU:(nx:Int)+2-(nb:Int)=(L:Int):=x3;have u:8*L<=281474976710656:=x3;have x:L<=9223372036854775807:=x3;have ad:=hV cU;have ho:L<=nx+2:=x3;have ey:=ca.size;have HL:=hV hL;clear hL cU;go_wp2_with (at_make;refine Yi rfl (.tmp 52) (.tmp 52) _ rfl 206 (.int .u64 0) 8 Zz VJ rfl .i64 .i64 _ _ L rfl rfl ad.out ad.out u x ?_;intro w9 eS I he)
 have fa:=QE ca I ca.size;have cV:0<Y:=n.out;have ae:U<Y*LB^L:=by
  refine Lb H5.out ?_
  refine L9 ?_ (Lo _ V.out.1)
  rw[R5,Ls 9223372036854775808,<- R5,<- Lt];have:=HL.out;rw[show nb-1+L=nx+1 by omega];exact Rv _ x4
 have cZ:=hV ae;clear ae cV;go_loopw [12] (λi wr=>∃k:Nat,k<=L/\i=.int .i64 ((k:Int)-1)/\Below w.heap.size w wr/\Cel wr f 206 (nx+2) (QX (U % (Y*LB^k)))/\Cel wr w8.heap.size 206 L (λj=>if k<=j then QX (U / Y) j else QX 0 j) /\
   Rd wr (some ⟨C,0,none⟩) nb (QX Y)/\wr.cell? ⟨l.heap.size,0,none⟩=some (.slice (some ⟨f,0,none⟩) (nx+2) (nx+2))/\wr.cell? ⟨l.heap.size,1,none⟩=some (.slice (some ⟨C,0,none⟩) nb E)) (λi _=>(intOf i+1).toNat)
 case atStart =>
  refine⟨L,L8 _,rfl,fa,?_,?_,Cel.rd0 (cO.bel I) X,(I.cell (p:=⟨l.heap.size,0,none⟩) cR).trans bX,(I.cell (p:=⟨l.heap.size,1,none⟩) cR).trans bY⟩
  ·rw[R8 cZ.out];exact ex.bel I
  ·exact eS.congr λj hj=>by rw[if_neg x3];unfold QX;rw[KO];rfl
 case round =>
  obtain⟨k,hk,rfl,S,J,T,cb,K,cc⟩:=hrel;rcases k with _|p
  ·have e0:((0:Nat):Int)-1=-1:=rfl;rw[e0];clear e0;rw[Ug,Sm]at J;have ag:=T.congr (f':=QX (U / Y)) (λj _=>by rw[if_pos (La _)]);clear T;have da:U / Y=Qa s / Qa t:=by rw[HU.out,HY.out,Nat.mul_div_mul_right _ _ (Lv d)]
   have dc:U % Y / 2^d=Qa s % Qa t:=by rw[HU.out,HY.out,Nat.mul_mod_mul_right,Nat.mul_div_cancel _ (Lv d)]
   have df:U / Y<LB^L:=by rw[Lm n.out,Ls];exact cZ.out
   have cf:U % Y<LB^(nx+2):=by
    refine Lb (Ra _ n.out) (L9 (Sf V.out.2) (Li QB x3))
   have M:=Ik cf;have c1:=hV (λW (h:Rd W (some ⟨w8.heap.size,0,none⟩) L (QX (U / Y)))=>Bh (some ⟨w8.heap.size,0,none⟩) L L (U / Y) W x3 (L8 _) df h);have c2:=hV (λW (h:Rd W (some ⟨f,0,none⟩) (nx+2) (QX (U % Y)))=>J5 (some ⟨f,0,none⟩) (nx+2) (nx+2) (U % Y) W x3 (L8 _) cf h);have c3:=hV (λW (h:Rd W (some ⟨f,0,none⟩) (nd 64 (U % Y)) (QX (U % Y)))=>n8 (some ⟨f,0,none⟩) (nx+2) (U % Y) d W x3 M x3 h);have c4:=hV (λW A c (h1:nd 64 (U % Y / 2^d)<=c) (h:Rd W A (nd 64 (U % Y / 2^d)) (QX (U % Y / 2^d)))=>B2 A c (U % Y / 2^d) W (L9 (BM x4 (Rn _ _)) (L9 M x3)) h1 h);have fb:=hV da;have fc:=hV dc;have fl:Rd wr.drew (some ⟨w8.heap.size,0,none⟩) L (QX (U / Y)):=(Cel.rd0 ag (L8 _)).drew;have dn:Rd wr.drew (some ⟨f,0,none⟩) (nx+2) (QX (U % Y)):=(Cel.rd0 J (L8 _)).drew;have O:l.heap.size<wr.drew.heap.size:=V3 K;have fp:wr.drew.cell? ⟨l.heap.size,0,none⟩=some (.slice (some ⟨f,0,none⟩) (nx+2) (nx+2)):=K;have dp:=S.drew;clear da dc df cf ag J;go_wp2_with fail
   go_region_held3 (λw'=>w'.cell? ⟨l.heap.size,0,none⟩=some (.slice (some ⟨f,0,none⟩) (nx+2) (nx+2)))
    (first
     | go_keep
     | exact dr
     | exact ds
     | exact fr)
    (first
     | (go_at_call_of 184 (Value.slice (some ⟨w8.heap.size,0,none⟩) L L);refine(c1.out _ fl).mono ?_;rintro e wt ⟨rfl,D⟩;have dr:=(D.cell (p:=⟨l.heap.size,0,none⟩) O).trans fp)
     | (go_at_call 189;refine(c2.out _ (dn.below D)).mono ?_;rintro e w' ⟨rfl,rfl⟩)
     | (go_at_call 190;refine(c3.out _ ((dn.below D).of_le M)).mono ?_;rintro e wd ⟨Ad,cd,rfl,fs,ch,fv⟩;have ds:=(ch.cell (p:=⟨l.heap.size,0,none⟩) (Lb O D.size)).trans dr)
     | (go_at_call 184;refine(c4.out _ Ad cd fs fv).mono ?_;rintro e we ⟨rfl,dx⟩;have fr:=(dx.cell (p:=⟨l.heap.size,0,none⟩) (Lb O (L9 D.size ch.size))).trans ds))
   go_wp2
   go_ret3
   have dT:=QE dp D dp.size;have u:=QE dT ch dT.size;exact⟨by rw[<- fb.out,<- fc.out];rfl,QE u dx u.size⟩
  ·have e0:((p+1:Nat):Int)-1=(p:Int):=x3;rw[e0];clear e0;have gf:=HL.out;have gm:=hV (eG (some ⟨C,0,none⟩) f (nx+2) (nx+2) nb E (nx+2) (U % (Y*LB^(p+1))) Y p wr x3 (L8 _) (L8 _) ao x3
    (Ra _ (Ut n.out (Sb QB))) V.out.1 V.out.2 J cb (Off.some_ x3))
   clear gf;go_wp2_with fail
   refine gm.out.mono ?_
   rintro e ea ⟨rfl,o,P⟩;rw[Et]at P;rw[lc]at P;rw[Et];have cj:=Zl S o S.size ev;have y:=T.grown o (by intro h;injection h with h;omega);have cl:=cb.grown o (Off.some_ x3);have cm:ea.cell? ⟨l.heap.size,0,none⟩=some (.slice (some ⟨f,0,none⟩) (nx+2) (nx+2)):=(World.cell?_of_block (a:=⟨l.heap.size,0,none⟩) (o.block _ (V3 K) (by intro h;simp at h;omega))).trans K;have cn:ea.cell? ⟨l.heap.size,1,none⟩=some (.slice (some ⟨C,0,none⟩) nb E):=(World.cell?_of_block (a:=⟨l.heap.size,1,none⟩) (o.block _ (V3 cc) (by intro h;simp at h;omega))).trans cc;have r:=y.cell (i:=p) x3;rw[if_neg x3]at r;unfold QX at r;have gs:=y.frozen p;have hp:p<L:=x3;clear S J T cb K cc;go_wp2
   refine⟨⟨p,x3,rfl,cj.setCell (show w.heap.size<=w8.heap.size from ey) _,P.far (show f≠w8.heap.size by omega) _,(y.set_ p _).congr λj hj=>?_,cl.keep (λq hq ha=>?_),?_,?_⟩,by simp[intOf]⟩
   ·by_cases e:j=p
    ·subst e;rw[if_pos rfl,if_pos x3];rfl
    ·rw[if_neg e];by_cases e2:p+1<=j
     ·rw[if_pos e2,if_pos x3]
     ·rw[if_neg e2,if_neg x3]
   ·have:=ha _ rfl;exact World.cell?_setCell_other _ _ _ _ (λe=>by rw[<- e]at this;simp at this;omega)
   ·exact(World.cell?_setCell_other _ _ _ _ (λe=>by injection e with e1;omega)).trans cm
   ·exact(World.cell?_setCell_other _ _ _ _ (λe=>by injection e with e1;omega)).trans cn
theorem P8(s t:u4)(w:y9)(a:s.size<=4294967296)(b:t.size<=4294967296):
  b9 prog 138 #[.string s,.string t] w (if Qa t=0 then .tuple #[.string ⟨#[]⟩,.string ⟨#[]⟩,.bool false]else .tuple #[.string (QK (Qa s / Qa t)),.string (QK (Qa s % Qa t)),.bool true]):=by
 by_cases c:Qa t=0
 ·rw[if_pos c];exact fC s t w a b c
 ·rw[if_neg c];by_cases d:Qa s<Qa t
  ·rw[Ss d,R8 d];exact WE s t w a b d
  ·exact j8 s t w a b x3 x3
