/- Laws beneath the statement. -/
import Derived.Test.YtoibldcmoapgbaaGreatDoorBP6
import Derived.Deep.RegionHeld3
namespace Go.Proofs.YtoibldcmoapgbaaGreatDoor
set_option linter.defProp false
open Tryz
set_option maxHeartbeats 4000000
set_option maxRecDepth 100000
open Go.RowKit
def tK(A:m3)(c v a:Nat)(w:m0)(i:nd 64 v<=4294967296)(f:nd 64 v<=c)(b:a<=9223372036854775807)(n:Rd w A (nd 64 v) (Q7 v)):
  Calls prog 190 #[.slice A (nd 64 v) c,.int .i64 (a:Nat)] w λe d=>∃j k,e=.returned (.slice j (nd 64 (v / 2^a)) k)/\nd 64 (v / 2^a)<=k/\Below w.heap.size w d/\Rd d j (nd 64 (v / 2^a)) (Q7 (v / 2^a)):=by
 by_cases h:a / 64<nd 64 v
 ·exact(Of A _ c v a w i f b h (YV v) n).mono λe d ⟨g,N,l,_,o,p,_,m⟩=>⟨_,N,l,m,o,Cel.rd0 p m⟩
 ·refine(UR A _ c v a w i b (Sx h)).mono λe d ⟨l,q⟩=>?_
  grind[Ed,YV,EF,p5,Rd.nil_]
def kd(s t:ByteArray)(w:World)(d:s.size<=4294967296)(f:t.size<=4294967296)(b:Qa t=0):
  o4 prog 138 #[.string s,.string t] w (.tuple #[.string ⟨#[]⟩,.string ⟨#[]⟩,.bool false]):=by
 have e0:(((nd 64 (Qa t):Nat):Int)==0)=true:=by rw[b];rfl
 clear b;go_enter func138,ntmps138
 go_wp2_with fail
 refine(KV s w d).mono ?_
 rintro e j ⟨g,N,rfl,p,c,q,r,u,v⟩;go_wp2_with fail
 refine(KV t j f).mono ?_
 rintro e x ⟨y,z,rfl,k,a,l,m,n,o⟩;go_wp2
 go_ret3
 exact⟨rfl,QW c a c.size⟩
def dD(s t:ByteArray)(w:World)(n:s.size<=4294967296)(o:t.size<=4294967296)(f:Qa s<Qa t):
  o4 prog 138 #[.string s,.string t] w (.tuple #[.string ⟨#[]⟩,.string (QL (Qa s)),.bool true]):=by
 have e0:(((nd 64 (Qa t):Nat):Int)==0)=false:=by
  have:=GV 64 x3 (v:=Qa t);exact Lp.2 x3
 have y:=cmpI_lt.2 f;clear f;go_enter func138,ntmps138
 go_wp2_with fail
 refine(KV s w n).mono ?_
 rintro e q ⟨g,N,rfl,z,i,A,j,B,l⟩;go_wp2_with fail
 refine(KV t q o).mono ?_
 rintro e C ⟨D,E,rfl,r,a,u,b,x,c⟩;go_wp2_with fail
 refine(IV _ _ _ _ _ _ _ x3 x3 j b (l.below a) c).mono ?_
 rintro e F ⟨rfl,k,rfl⟩;go_wp2_with fail
 refine(Ch _ _ _ _ x3 j ((l.below a).drewN k)).mono ?_
 rintro e G ⟨rfl,d⟩;go_wp2
 go_ret3
 have m:=Zk (QW i a i.size) k;exact⟨rfl,QW m d m.size⟩
theorem oB(s t:ByteArray)(w:World)(hs:s.size<=4294967296)(ht:t.size<=4294967296)(h0:0<Qa t)(al:Qa t<=Qa s):
  o4 prog 138 #[.string s,.string t] w (.tuple #[.string (QL (Qa s / Qa t)),.string (QL (Qa s % Qa t)),.bool true]):=by
 have dx:nd 64 (Qa s)<=536870912:=hA (De s);have cq:nd 64 (Qa t)<=nd 64 (Qa s):=AY x4 al;have ao:=GV 64 x3 (v:=Qa t);have e0:(((nd 64 (Qa t):Nat):Int)==0)=false:=Lp.2 x3;have hc:¬ Vg (Qa s) (Qa t)<0:=λh=>hA (cmpI_lt.1 h)
 let⟨f1,f2,f3,f4⟩:=dI (v:=Qa t) x3;have cr:((QG LB (Qa t) (nd 64 (Qa t)-1):Nat):Int)<=18446744073709551615:=by
  have h:QG LB (Qa t) (nd 64 (Qa t)-1)<18446744073709551616:=YO QF _ _;omega
 have aB:=λW=>Tryz.bits_LeadingZeros64 (QG LB (Qa t) (nd 64 (Qa t)-1)) W x3 cr
 obtain⟨d,ct⟩:∃d,d=64-nd 1 (QG LB (Qa t) (nd 64 (Qa t)-1)):=⟨_,rfl⟩
 have dT:d<=63:=x3;have cu:(64-(Lib.bitLen ((QG LB (Qa t) (nd 64 (Qa t)-1):Nat):Int).toNat:Int))=(d:Int):=by
  rw[Sm,Fb _ (YO QF _ _)];omega
 rw[cu]at aB;rw[<- ct]at f3 f4;have cw:=x0f aB;have V:=x0f (show LB^(nd 64 (Qa t)-1)*9223372036854775808<=Qa t*2^d/\Qa t*2^d<LB^nd 64 (Qa t)from⟨f3,f4⟩);have he:=x0f al;have H0:=x0f h0;clear aB cu ct f1 f2 f3 f4 al h0 cr;go_enter func138,ntmps138
 go_wp2_with fail
 refine(KV s w hs).mono ?_
 rintro e w1 ⟨g,N,rfl,hg,hb,hC,h1,h2,hr⟩;go_wp2_with fail
 refine(KV t w1 ht).mono ?_
 rintro e w2 ⟨g',N',rfl,hf,bd,ea,bi,eb,bk⟩;have u:=QW hb bd hb.size;have bl:=hr.below bd;clear hr bd hb;go_wp2_with fail
 refine(IV _ _ _ _ _ _ _ x3 x3 h1 bi bl bk).mono ?_
 rintro e w3 ⟨rfl,k,rfl⟩;have x:=Zk u k;have cy:=bl.drewN k;have F:=bk.drewN k;clear u bl bk hC ea;generalize w2.drewN k=w3 at *;have g1:w3.cell? ⟨g',nd 64 (Qa t)-1,none⟩=some (.int .u64 (QG LB (Qa t) (nd 64 (Qa t)-1):Nat)):=by
  let⟨b,off,e,ej⟩:=F ao;injection e with e
  injection e with e1 e2
  have:=ej (nd 64 (Qa t)-1) x3;rw[<- e1,<- e2,Lm]at this;exact this
 go_wp2_with fail
 refine(cw.out _).mono ?_
 rintro e w4 ⟨rfl,rfl⟩;go_wp2_with fail
 refine(eN _ _ _ (Qa s) d _ x3 h1 x3 (YV _) cy).mono ?_
 rintro e w5 ⟨g5,N5,rfl,hh,Q,cA,ek⟩;have G:Qa s*2^d<LB^(nd 64 (Qa s)+1):=by have:=qw (Qa s) d;rwa [show d / 64=0 by omega]at this
 have cC:=MG G;have H:nd 64 (Qa s*2^d)<=N5:=x3;have cD:=x0f (CN (some ⟨g5,0,none⟩) (nd 64 (Qa s*2^d)) N5 (Qa s*2^d) ((nd 64 (Qa s):Int)+2) (nd 64 (Qa s)+2) w5 x3 H x3 x3 x3 (YV _) (Cel.rd0 cA H));have H5:=x0f G;clear G ek cA;go_wp2_with fail
 refine cD.out.mono ?_
 rintro e w6 ⟨f,rfl,en,cF,bs⟩;have z:=QW Q cF Q.size;have cG:=F.below z;go_wp2_with fail
 refine(eN _ _ _ (Qa t) d _ x3 bi x3 (YV _) cG).mono ?_
 rintro e l ⟨C,E,rfl,hi,bX,R,eo⟩;have cL:nd 64 (Qa t*2^d)=nd 64 (Qa t):=WD 64 x4 V.out.2 (λ_=>L6 (Rz _ x4) V.out.1);have X:nd 64 (Qa t)<=E:=x3;have cM:0<Qa t*2^d:=Nat.mul_pos H0.out (R6 _);rw[cL];have m:=bs.bel bX;have gs:f<C:=hA bs.lt;have B:=QW (QW x z x.size) bX (L6 x.size z.size);have n:=x0f cM;have es:w.heap.size<=f:=L6 x.size (L6 Q.size en);obtain⟨U,hU⟩:∃U,U=Qa s*2^d:=⟨_,rfl⟩
 obtain⟨Y,hY⟩:∃Y,Y=Qa t*2^d:=⟨_,rfl⟩
 obtain⟨nx,cN⟩:∃nx,nx=nd 64 (Qa s):=⟨_,rfl⟩
 obtain⟨nb,Z⟩:∃nb,nb=nd 64 (Qa t):=⟨_,rfl⟩
 rw[<- hU]at m H5;rw[<- hY]at R V n;rw[<- cN]at m H5 dx cq ⊢;rw[<- Z]at V X cq ao ⊢;have HU:=x0f hU;have HY:=x0f hY;clear hU hY cN Z cL cM bs bX Q cF x z H cC eo h1 h2 bi eb cD cy F cG g1 cw hc e0;go_upto_region 8 with fail
 have bY:(l.alloc (.cells #[.slice (some ⟨f,0,none⟩) (nx+2) (nx+2),.slice (some ⟨C,0,none⟩) nb E] 260)).cell? ⟨l.heap.size,0,none⟩=some (.slice (some ⟨f,0,none⟩) (nx+2) (nx+2)):=by
  rw[World.cell?_alloc_at _ _ _ _ rfl];rfl
 have ca:(l.alloc (.cells #[.slice (some ⟨f,0,none⟩) (nx+2) (nx+2),.slice (some ⟨C,0,none⟩) nb E] 260)).cell? ⟨l.heap.size,1,none⟩=some (.slice (some ⟨C,0,none⟩) nb E):=by
  rw[World.cell?_alloc_at _ _ _ _ rfl];rfl
 have ev:=m.alloc (.cells #[.slice (some ⟨f,0,none⟩) (nx+2) (nx+2),.slice (some ⟨C,0,none⟩) nb E] 260);have cO:=R.alloc (.cells #[.slice (some ⟨f,0,none⟩) (nx+2) (nx+2),.slice (some ⟨C,0,none⟩) nb E] 260);have cb:=B.alloc B.size (.cells #[.slice (some ⟨f,0,none⟩) (nx+2) (nx+2),.slice (some ⟨C,0,none⟩) nb E] 260);have cP:l.heap.size<(l.alloc (.cells #[.slice (some ⟨f,0,none⟩) (nx+2) (nx+2),.slice (some ⟨C,0,none⟩) nb E] 260)).heap.size:=x6;have hl:=R.lt;have hm:=m.lt;have gw:=B.size;clear m R B;generalize l.alloc (.cells #[.slice (some ⟨f,0,none⟩) (nx+2) (nx+2),.slice (some ⟨C,0,none⟩) nb E] 260)=w8 at *;obtain⟨L,hL⟩:∃L,nx+2=nb+L:=⟨nx+2-nb,x3⟩
 have cR:(nx:Int)+2-(nb:Int)=(L:Int):=x3;have u:8*L<=281474976710656:=x3;have x:L<=9223372036854775807:=x3;have ad:=x0f cR;have hn:L<=nx+2:=x3;have ex:=cb.size;have HL:=x0f hL;clear hL cR;go_wp2_with (at_make;refine Yt rfl (.tmp 52) (.tmp 52) _ rfl 206 (.int .u64 0) 8 ZU GS rfl .i64 .i64 _ _ L rfl rfl ad.out ad.out u x ?_;intro w9 ey I hd)
 have eS:=QW cb I cb.size;have cU:0<Y:=n.out;have ae:U<Y*LB^L:=by
  refine L9 H5.out ?_
  refine L6 ?_ (Lt _ V.out.1)
  rw[R9,Ls 9223372036854775808,<- R9,<- Lz];have:=HL.out;rw[show nb-1+L=nx+1 by omega];exact Rz _ x4
 have cV:=x0f ae;clear ae cU;go_loopw [12] (λi wr=>∃k:Nat,k<=L/\i=.int .i64 ((k:Int)-1)/\Below w.heap.size w wr/\Cel wr f 206 (nx+2) (Q7 (U % (Y*LB^k)))/\Cel wr w8.heap.size 206 L (λj=>if k<=j then Q7 (U / Y) j else Q7 0 j) /\
   Rd wr (some ⟨C,0,none⟩) nb (Q7 Y)/\wr.cell? ⟨l.heap.size,0,none⟩=some (.slice (some ⟨f,0,none⟩) (nx+2) (nx+2))/\wr.cell? ⟨l.heap.size,1,none⟩=some (.slice (some ⟨C,0,none⟩) nb E)) (λi _=>(intOf i+1).toNat)
 case atStart =>
  refine⟨L,L4 _,rfl,eS,?_,?_,Cel.rd0 (cO.bel I) X,(I.cell (p:=⟨l.heap.size,0,none⟩) cP).trans bY,(I.cell (p:=⟨l.heap.size,1,none⟩) cP).trans ca⟩
  ·rw[Rc cV.out];exact ev.bel I
  ·exact ey.congr λj hj=>by rw[if_neg x3];unfold Q7;rw[Vx];rfl
 case round =>
  obtain⟨k,hk,rfl,S,J,T,cc,K,cf⟩:=hrel;rcases k with _|p
  ·have e0:((0:Nat):Int)-1=-1:=rfl;rw[e0];clear e0;rw[Tx,Sz]at J;have ag:=T.congr (f':=Q7 (U / Y)) (λj _=>by rw[if_pos (L7 _)]);clear T;have cW:U / Y=Qa s / Qa t:=by rw[HU.out,HY.out,Nat.mul_div_mul_right _ _ (R6 d)]
   have cZ:U % Y / 2^d=Qa s % Qa t:=by rw[HU.out,HY.out,Nat.mul_mod_mul_right,Nat.mul_div_cancel _ (R6 d)]
   have da:U / Y<LB^L:=by rw[Lr n.out,Ls];exact cV.out
   have ch:U % Y<LB^(nx+2):=by
    refine L9 (Re _ n.out) (L6 (Sv V.out.2) (Lh QF x3))
   have M:=MG ch;have c1:=x0f (λW (h:Rd W (some ⟨w8.heap.size,0,none⟩) L (Q7 (U / Y)))=>Aq (some ⟨w8.heap.size,0,none⟩) L L (U / Y) W x3 (L4 _) da h);have c2:=x0f (λW (h:Rd W (some ⟨f,0,none⟩) (nx+2) (Q7 (U % Y)))=>KN (some ⟨f,0,none⟩) (nx+2) (nx+2) (U % Y) W x3 (L4 _) ch h);have c3:=x0f (λW (h:Rd W (some ⟨f,0,none⟩) (nd 64 (U % Y)) (Q7 (U % Y)))=>tK (some ⟨f,0,none⟩) (nx+2) (U % Y) d W x3 M x3 h);have c4:=x0f (λW A c (h1:nd 64 (U % Y / 2^d)<=c) (h:Rd W A (nd 64 (U % Y / 2^d)) (Q7 (U % Y / 2^d)))=>Ch A c (U % Y / 2^d) W (L6 (AY x4 (Rn _ _)) (L6 M x3)) h1 h);have fa:=x0f cW;have fb:=x0f cZ;have fc:Rd wr.drew (some ⟨w8.heap.size,0,none⟩) L (Q7 (U / Y)):=(Cel.rd0 ag (L4 _)).drew;have dc:Rd wr.drew (some ⟨f,0,none⟩) (nx+2) (Q7 (U % Y)):=(Cel.rd0 J (L4 _)).drew;have O:l.heap.size<wr.drew.heap.size:=G7 K;have fl:wr.drew.cell? ⟨l.heap.size,0,none⟩=some (.slice (some ⟨f,0,none⟩) (nx+2) (nx+2)):=K;have df:=S.drew;clear cW cZ da ch ag J;go_wp2_with fail
   go_region_held3 (λw'=>w'.cell? ⟨l.heap.size,0,none⟩=some (.slice (some ⟨f,0,none⟩) (nx+2) (nx+2)))
    (first
     |go_keep
     |exact dk
     |exact dn
     |exact fp)
    (first
     |(go_at_call_of 184 (Value.slice (some ⟨w8.heap.size,0,none⟩) L L);refine(c1.out _ fc).mono ?_;rintro e wt ⟨rfl,D⟩;have dk:=(D.cell (p:=⟨l.heap.size,0,none⟩) O).trans fl)
     |(go_at_call 189;refine(c2.out _ (dc.below D)).mono ?_;rintro e w' ⟨rfl,rfl⟩)
     |(go_at_call 190;refine(c3.out _ ((dc.below D).of_le M)).mono ?_;rintro e wd ⟨Ad,cd,rfl,fr,cj,fs⟩;have dn:=(cj.cell (p:=⟨l.heap.size,0,none⟩) (L9 O D.size)).trans dk)
     |(go_at_call 184;refine(c4.out _ Ad cd fr fs).mono ?_;rintro e we ⟨rfl,dp⟩;have fp:=(dp.cell (p:=⟨l.heap.size,0,none⟩) (L9 O (L6 D.size cj.size))).trans dn))
   go_wp2
   go_ret3
   have dr:=QW df D df.size;have u:=QW dr cj dr.size;exact⟨by rw[<- fa.out,<- fb.out];rfl,QW u dp u.size⟩
  ·have e0:((p+1:Nat):Int)-1=(p:Int):=x3;rw[e0];clear e0;have fv:=HL.out;have gf:=x0f (jy (some ⟨C,0,none⟩) f (nx+2) (nx+2) nb E (nx+2) (U % (Y*LB^(p+1))) Y p wr x3 (L4 _) (L4 _) ao x3
    (Re _ (Nat.mul_pos n.out (Se QF))) V.out.1 V.out.2 J cc (Off.some_ x3))
   clear fv;go_wp2_with fail
   refine gf.out.mono ?_
   rintro e ds ⟨rfl,o,P⟩;rw[FP]at P;rw[pT]at P;rw[FP];have cl:=Zu S o S.size es;have y:=T.grown o (by intro h;injection h with h;omega);have cm:=cc.grown o (Off.some_ x3);have cn:ds.cell? ⟨l.heap.size,0,none⟩=some (.slice (some ⟨f,0,none⟩) (nx+2) (nx+2)):=(World.cell?_of_block (a:=⟨l.heap.size,0,none⟩) (o.block _ (G7 K) (by intro h;simp at h;omega))).trans K;have cp:ds.cell? ⟨l.heap.size,1,none⟩=some (.slice (some ⟨C,0,none⟩) nb E):=(World.cell?_of_block (a:=⟨l.heap.size,1,none⟩) (o.block _ (G7 cf) (by intro h;simp at h;omega))).trans cf;have r:=y.cell (i:=p) x3;rw[if_neg x3]at r;unfold Q7 at r;have gm:=y.frozen p;have ho:p<L:=x3;clear S J T cc K cf;go_wp2
   refine⟨⟨p,x3,rfl,cl.setCell (show w.heap.size<=w8.heap.size from ex) _,P.far (show f≠w8.heap.size by omega) _,(y.set_ p _).congr λj hj=>?_,cm.keep (λq hq ha=>?_),?_,?_⟩,by simp[intOf]⟩
   ·by_cases e:j=p
    ·subst e;rw[if_pos rfl,if_pos x3];rfl
    ·rw[if_neg e];by_cases e2:p+1<=j
     ·rw[if_pos e2,if_pos x3]
     ·rw[if_neg e2,if_neg x3]
   ·have:=ha _ rfl;exact World.cell?_setCell_other _ _ _ _ (λe=>by rw[<- e]at this;simp at this;omega)
   ·exact(World.cell?_setCell_other _ _ _ _ (λe=>by injection e with e1;omega)).trans cn
   ·exact(World.cell?_setCell_other _ _ _ _ (λe=>by injection e with e1;omega)).trans cp
def Wx(s t:m1)(w:m0)(c:s.size<=4294967296)(d:t.size<=4294967296):
  o4 prog 138 #[.string s,.string t] w (if Qa t=0 then .tuple #[.string ⟨#[]⟩,.string ⟨#[]⟩,.bool false]else .tuple #[.string (QL (Qa s / Qa t)),.string (QL (Qa s % Qa t)),.bool true]):=by
 by_cases a:Qa t=0
 ·rw[if_pos a];exact kd s t w c d a
 ·rw[if_neg a];by_cases b:Qa s<Qa t
  ·rw[Sg b,Rc b];exact dD s t w c d b
  grind[oB]
