/- Laws beneath the statement. -/
import Derived.Test.YtoibldcmoapgbaaGreatDoorQP5
namespace Go.Proofs.YtoibldcmoapgbaaGreatDoor
open Tryz
set_option maxHeartbeats 4000000
set_option maxRecDepth 100000
open Go.RowKit
theorem AT{q a b:Nat}(h:Yg<=q\/a<b): (4294967296:Int)<=(q:Int)\/(¬(4294967296:Int)<=(q:Int)/\(a:Int)<(b:Int)):=by
 rw[Zk]at h;omega
theorem Wd(a y:Nat)(w:World)(hy:0<y)(b:a<LB)(_hy2:y<LB):
  Calls prog 223 #[.int .u64 0,.int .u64 (a:Nat),.int .u64 (y:Nat)] w λe c=>e=.returned (.tuple #[.int .u64 ((a / y:Nat):Int),.int .u64 ((a % y:Nat):Int)])/\∃k,c=w.drewN k:=by
 have g:((y:Int)==0)=false:=R7.2 x3;have i:¬(y:Int)<=0:=x3;have d:=hV b;clear b;go_enter func223,ntmps223
 go_wp2
 go_quiet (fail)
 go_wp2
 have e:IntKind.u64.wrap ((a:Int) / (y:Int))=((a / y:Nat):Int):=by
  rw[<- Int.natCast_ediv,o0];have j:=Rn a y;have f:=d.out;rw[ZW]at f;generalize a / y=q at *;omega
 rw[e];go_ret2
 exact⟨by rw[Int.natCast_emod];rfl,_,rfl⟩
theorem eH(hi G y:Nat)(w:World)(hy:9223372036854775808<=y)(x:y<LB)(hh:hi<y)(K:G<LB)(h0:0<hi):
  Calls prog 223 #[.int .u64 (hi:Nat),.int .u64 (G:Nat),.int .u64 (y:Nat)] w λe w'=>e=.returned (.tuple #[.int .u64 (((hi*LB+G) / y:Nat):Int),.int .u64 (((hi*LB+G) % y:Nat):Int)])/\∃k,w'=w.drewN k:=by
 have ag:=Tryz.bits_LeadingZeros64 y w x3 (by rw[ZW]at x;omega);rw[S9,UH hy x]at ag;have ca:=hV ag;have e1:((y:Int)==0)=false:=R7.2 x3;have e2:¬(y:Int)<=hi:=x3;have e3:((hi:Int)==0)=false:=R7.2 x3;have cq:IntKind.u64.wrap (y:Int)=(y:Int):=by rw[o0];rw[ZW]at x;omega
 have cr:IntKind.u64.wrap (hi:Int)=(hi:Int):=by rw[o0];rw[ZW]at x;omega
 have ct:IntKind.u64.wrap (G:Int)=(G:Int):=by rw[o0];rw[ZW]at K;omega
 obtain⟨d,cb⟩:∃d,d=y / 4294967296:=⟨_,rfl⟩
 obtain⟨D,o⟩:∃D,D=y % 4294967296:=⟨_,rfl⟩
 obtain⟨A,cc⟩:∃A,A=G / 4294967296:=⟨_,rfl⟩
 obtain⟨E,bk⟩:∃E,E=G % 4294967296:=⟨_,rfl⟩
 have f1:(y:Int) / 4294967296=(d:Int):=x3;have f2:bits .and .u64 (y:Int) 4294967295=(D:Int):=by
  have:=u64_and_nat y 4294967295 x x4;rw[show 4294967295=2^32-1 from rfl,Nat.and_two_pow_sub_one_eq_mod]at this;rw[o];exact this
 have f3:(G:Int) / 4294967296=(A:Int):=x3;have f4:bits .and .u64 (G:Int) 4294967295=(E:Int):=by
  have:=u64_and_nat G 4294967295 K x4;rw[show 4294967295=2^32-1 from rfl,Nat.and_two_pow_sub_one_eq_mod]at this;rw[bk];exact this
 have f5:(G:Int) / 18446744073709551616=0:=by rw[ZW]at K;omega
 have f6:bits .or .u64 (hi:Int) 0=(hi:Int):=by
  have:=u64_or_nat hi 0 (by rw[ZW]at x;omega) x4;rw[Nat.or_zero]at this;exact this
 have b1:2147483648<=d:=x3;have b2:d<4294967296:=by rw[ZW]at x;omega
 have b3:D<4294967296:=x3;have b4:A<4294967296:=by rw[ZW]at K;omega
 have t:E<4294967296:=x3;have HB:=hV (show(2147483648<=d/\d<4294967296)/\D<4294967296/\A<4294967296/\E<4294967296 from⟨⟨b1,b2⟩,b3,b4,t⟩);have b0:0<d:=x3;clear b1 b2 b3 b4 t;have s:=hV (show y=d*Yg+D by rw[Zk];omega);have bl:=hV (show G=A*Yg+E by rw[Zk];omega);clear cb o cc bk;have HY:=hV hy;have V:=hV x;have cu:=hV K;have HH:=hV hh;clear ag hy x K hh;go_enter func223,ntmps223
 go_wp2_with fail
 refine ca.out.mono ?_
 rintro e w' ⟨rfl,rfl⟩;obtain⟨⟨b1,b2⟩,b3,b4,t⟩:=HB.out;obtain⟨qa,al⟩:∃q,q=hi / d:=⟨_,rfl⟩
 obtain⟨ra,bs⟩:∃r,r=hi % d:=⟨_,rfl⟩
 have c:hi<d*Yg+D:=by rw[<- s.out];exact HH.out
 have L:=EQ hi A b1 b2 b3 c b4;rw[<- al,<- bs]at L;have f7:IntKind.u64.wrap ((hi:Int) / (d:Int))=(qa:Int):=by
  have h1:=L.qle;rw[Zk]at h1;rw[<- Int.natCast_ediv,<- al,o0];omega
 have f8:IntKind.u64.wrap ((hi:Int)-IntKind.u64.wrap ((qa:Int)*(d:Int)))=(ra:Int):=by
  have h1:=L.eq;have h2:=L.rlt;have h3:=HH.out;have h4:=V.out;rw[<- Ts];rw[Zk]at h2;rw[ZW]at h4;generalize qa*d=p at *;simp only[o0];omega
 have HG:=hV L;clear al bs L c b1 b2 b3 b4 t;go_upto_block 0 with fail
 go_cut [15,16] (λa b wx=>a=.int .u64 (((hi*Yg+A) / y:Nat):Int)/\wx=w')
 case first =>
  go_wp2
  go_loop [15,16] (λa b=>∃q r:Nat,a=.int .u64 (q:Int)/\b=.int .u64 (r:Int)/\Guess hi A d D q r) (λa _=>(intOf a).toNat)
  case atStart=>exact⟨qa,ra,rfl,rfl,HG.out⟩
  case round =>
   obtain⟨q,r,rfl,rfl,F⟩:=hrel;obtain⟨⟨b1,b2⟩,b3,b4,t⟩:=HB.out;obtain⟨k1,X,Y,v,P⟩:=ER F b2 b3 b4;have c:hi<d*Yg+D:=by rw[<- s.out];exact HH.out
   have B:0<d*Yg+D:=by rw[<- s.out];have:=HY.out;omega
   obtain⟨M,f⟩:∃M,M=r+d:=⟨_,rfl⟩
   obtain⟨s1,j⟩:∃s1,s1=Yg*r:=⟨_,rfl⟩
   obtain⟨S,g⟩:∃S,S=Yg*r+A:=⟨_,rfl⟩
   obtain⟨p,N⟩:∃p,p=q-1:=⟨_,rfl⟩
   obtain⟨m,H⟩:∃m,m=q*D:=⟨_,rfl⟩
   rw[<- f]at k1;rw[<- j]at X;rw[<- g,<- j]at Y;rw[<- H]at v;rw[<- N]at P;by_cases l:Yg<=q\/Yg*r+A<q*D
   ·have C:=Da F b3 c b4 l;have k6:=P C.1;have cd:p<q:=y6 C.1;by_cases O:r+d<Yg
    ·have i:=Hx F b3 c b4 l O;rw[<- N,<- f]at i;have I:=hV i;have ao:¬(4294967296:Int)<=(M:Int):=by rw[f];rw[Zk]at O;omega
     have n:(4294967296:Int)<=(q:Int)\/(¬(4294967296:Int)<=(q:Int)/\(S:Int)<(m:Int)):=by rw[g,H];exact AT l
     clear i l O C P f j g N H c B F b1 b2 b3 b4 t;rcases n with W|⟨W,h6⟩
     ·clear v;go_wp2
      exact⟨⟨p,M,rfl,rfl,I.out⟩,by simp[intOf];omega⟩
     ·have k7:=v x3;clear v;go_wp2
      exact⟨⟨p,M,rfl,rfl,I.out⟩,by simp[intOf];omega⟩
    ·have i:=MK F b3 c b4 l (Sg O);rw[<- N]at i;rw[<- s.out]at i;have I:=hV i;have ao:(4294967296:Int)<=(M:Int):=by rw[f];rw[Zk]at O;omega
     have n:(4294967296:Int)<=(q:Int)\/(¬(4294967296:Int)<=(q:Int)/\(S:Int)<(m:Int)):=by rw[g,H];exact AT l
     clear i l O C P f j g N H c B F b1 b2 b3 b4 t;rcases n with W|⟨W,h6⟩
     ·clear v;go_wp2
      go_meet
      exact⟨by rw[I.out],rfl⟩
     ·have k7:=v x3;clear v;go_wp2
      go_meet
      exact⟨by rw[I.out],rfl⟩
   ·have W:¬(4294967296:Int)<=(q:Int):=by intro h;exact l (Or.inl (by rw[Zk];omega))
    have h6:¬(S:Int)<(m:Int):=by rw[g,H];intro h;exact l (Or.inr x3)
    have i:=Hw F B (Sg λh=>l (Or.inr h));rw[<- s.out]at i;have I:=hV i;have k7:=v x3;clear i l P v f j g N H c B F b1 b2 b3 b4 t;go_wp2
    go_meet
    exact⟨by rw[I.out],rfl⟩
 case rest =>
  obtain⟨rfl,rfl⟩:=hcut;obtain⟨⟨b1,b2⟩,b3,b4,t⟩:=HB.out;have o:0<y:=y6 HY.out;have f9:=Nn hi A y rfl o V.out;have J:=Ra (hi*Yg+A) o;have aw:=(T3 (hi*Yg+A) y).symm;have aB:=ay hi A E y o;obtain⟨Q,hQ⟩:∃Q,Q=(hi*Yg+A) / y:=⟨_,rfl⟩
  obtain⟨R,hR⟩:∃R,R=(hi*Yg+A) % y:=⟨_,rfl⟩
  rw[<- hQ,<- hR]at f9;rw[<- hR]at J;rw[<- hQ,<- hR]at aB;rw[<- hQ,<- hR]at aw;have cf:=hV aw;clear aw;rw[<- hQ];have Z:Q<4294967296:=by
   rw[hQ,Lm o];have h1:=HH.out;rw[Zk];omega
  have ch:=hV Z;have cj:=hV aB;have c:R<d*Yg+D:=by rw[<- s.out];exact J
  have L:=EQ R E b1 b2 b3 c t;obtain⟨qb,bd⟩:∃q,q=R / d:=⟨_,rfl⟩
  obtain⟨rb,bX⟩:∃r,r=R % d:=⟨_,rfl⟩
  rw[<- bd,<- bX]at L;have g7:IntKind.u64.wrap ((R:Int) / (d:Int))=(qb:Int):=by
   have h1:=L.qle;rw[Zk]at h1;rw[<- Int.natCast_ediv,<- bd,o0];omega
  have g8:IntKind.u64.wrap ((R:Int)-IntKind.u64.wrap ((qb:Int)*(d:Int)))=(rb:Int):=by
   have h1:=L.eq;have h2:=L.rlt;have h4:=V.out;rw[<- Ts];rw[Zk]at h2;rw[ZW]at h4;generalize qb*d=p at *;simp only[o0];omega
  have cl:=hV L;have ad:=hV J;clear HG f7 f8 bd bX L c aB hQ hR J Z b1 b2 b3 b4 t;go_upto_block 2 with fail
  go_cut [16,18] (λb a wx=>a=.int .u64 (((R*Yg+E) / y:Nat):Int)/\wx=wc)
  case first =>
   go_wp2
   go_loop [16,18] (λb a=>∃q r:Nat,a=.int .u64 (q:Int)/\b=.int .u64 (r:Int)/\Guess R E d D q r) (λ_ a=>(intOf a).toNat)
   case atStart=>exact⟨qb,rb,rfl,rfl,cl.out⟩
   case round =>
    obtain⟨q,r,rfl,rfl,F⟩:=hrel;obtain⟨⟨b1,b2⟩,b3,b4,t⟩:=HB.out;obtain⟨k1,X,Y,v,P⟩:=ER F b2 b3 t;have c:R<d*Yg+D:=by rw[<- s.out];exact ad.out
    have B:0<d*Yg+D:=by rw[<- s.out];have:=HY.out;omega
    obtain⟨M,f⟩:∃M,M=r+d:=⟨_,rfl⟩
    obtain⟨s1,j⟩:∃s1,s1=Yg*r:=⟨_,rfl⟩
    obtain⟨S,g⟩:∃S,S=Yg*r+E:=⟨_,rfl⟩
    obtain⟨p,N⟩:∃p,p=q-1:=⟨_,rfl⟩
    obtain⟨m,H⟩:∃m,m=q*D:=⟨_,rfl⟩
    rw[<- f]at k1;rw[<- j]at X;rw[<- g,<- j]at Y;rw[<- H]at v;rw[<- N]at P;by_cases l:Yg<=q\/Yg*r+E<q*D
    ·have C:=Da F b3 c t l;have k6:=P C.1;have cd:p<q:=y6 C.1;by_cases O:r+d<Yg
     ·have i:=Hx F b3 c t l O;rw[<- N,<- f]at i;have I:=hV i;have ao:¬(4294967296:Int)<=(M:Int):=by rw[f];rw[Zk]at O;omega
      have n:(4294967296:Int)<=(q:Int)\/(¬(4294967296:Int)<=(q:Int)/\(S:Int)<(m:Int)):=by rw[g,H];exact AT l
      clear i l O C P f j g N H c B F b1 b2 b3 b4 t;rcases n with W|⟨W,h6⟩
      ·clear v;go_wp2
       exact⟨⟨p,M,rfl,rfl,I.out⟩,by simp[intOf];omega⟩
      ·have k7:=v x3;clear v;go_wp2
       exact⟨⟨p,M,rfl,rfl,I.out⟩,by simp[intOf];omega⟩
     ·have i:=MK F b3 c t l (Sg O);rw[<- N]at i;rw[<- s.out]at i;have I:=hV i;have ao:(4294967296:Int)<=(M:Int):=by rw[f];rw[Zk]at O;omega
      have n:(4294967296:Int)<=(q:Int)\/(¬(4294967296:Int)<=(q:Int)/\(S:Int)<(m:Int)):=by rw[g,H];exact AT l
      clear i l O C P f j g N H c B F b1 b2 b3 b4 t;rcases n with W|⟨W,h6⟩
      ·clear v;go_wp2
       go_meet
       exact⟨by rw[I.out],rfl⟩
      ·have k7:=v x3;clear v;go_wp2
       go_meet
       exact⟨by rw[I.out],rfl⟩
    ·have W:¬(4294967296:Int)<=(q:Int):=by intro h;exact l (Or.inl (by rw[Zk];omega))
     have h6:¬(S:Int)<(m:Int):=by rw[g,H];intro h;exact l (Or.inr x3)
     have i:=Hw F B (Sg λh=>l (Or.inr h));rw[<- s.out]at i;have I:=hV i;have k7:=v x3;clear i l P v f j g N H c B F b1 b2 b3 b4 t;go_wp2
     go_meet
     exact⟨by rw[I.out],rfl⟩
  case rest =>
   obtain⟨rfl,rfl⟩:=hcut;have o:0<y:=y6 HY.out;obtain⟨q0,T⟩:∃q0,q0=(R*Yg+E) / y:=⟨_,rfl⟩
   have bY:q0<4294967296:=by
    rw[T,Lm o];have h1:=ad.out;obtain⟨⟨b1,b2⟩,b3,b4,t⟩:=HB.out;rw[Zk];omega
   have cm:=ch.out;have k1:IntKind.u64.wrap ((Q:Int)*4294967296)=((Q*Yg:Nat):Int):=by rw[o0,Zk];omega
   have X:IntKind.u64.wrap (((Q*Yg:Nat):Int)+(q0:Int))=((Q*Yg+q0:Nat):Int):=by rw[o0];simp only[Zk];omega
   have e:(hi*Yg+A)*Yg+E=hi*LB+(A*Yg+E):=by rw[ZW];simp only[Zk];omega
   have U:Q*Yg+q0=(hi*LB+G) / y:=by
    rw[T,cj.out,bl.out,e]
   have Y:=Nn R E y T o V.out;have ae:(R*Yg+E) % y=(hi*LB+G) % y:=by
    rw[bl.out,<- e,cf.out,Rt,Sc,R5,Nat.mul_add_mod]
   rw[ae]at Y;rw[<- T];obtain⟨z,hz⟩:∃z,z=Q*Yg:=⟨_,rfl⟩
   obtain⟨rr,bi⟩:∃rr,rr=(hi*LB+G) % y:=⟨_,rfl⟩
   rw[<- hz]at k1 X U;rw[U]at X;rw[<- bi]at Y;have cn:=hV bi;have v:(rr:Int) / 2^0=(rr:Int):=x6;have HF:=hV X;have cp:=hV Y;clear T bY cm hz U X e ae bi Y;go_wp2
   rw[HF.out,cp.out];go_ret2
   exact⟨by rw[<- cn.out];rfl,0,rfl⟩
theorem eJ(a b y:Nat)(w:y9)(g:9223372036854775808<=y)(c:y<LB)(h:a<y)(d:b<LB):
  Calls prog 223 #[.int .u64 (a:Nat),.int .u64 (b:Nat),.int .u64 (y:Nat)] w λe i=>e=.returned (.tuple #[.int .u64 (((a*LB+b) / y:Nat):Int),.int .u64 (((a*LB+b) % y:Nat):Int)])/\∃k,i=w.drewN k:=by
 rcases So a with f|f
 ·subst f;have:=Wd b y w x3 d c;rw[Uh,Lj];exact this
 ·exact eH a b y w g c h d f
theorem jN(D c U:Option Addr)(B C nb l y V P Y q:Nat)(w:World)(aB:nb<=1073741824)(bd:y<=1073741824)(E:y<=V)(hY:Y<LB^nb)(r:0<Y)(hP:P<LB^y)(hr:Rd w c nb (QX Y))(F:Rd w U y (QX P))(hq:q<LB)(G:P<Y*q):
  Calls prog 225 #[.agg #[.slice D B C,.slice c nb l],.slice U y V,.int .u64 (q:Nat)] w λe w'=>∃g,e=.returned (.tuple #[.int .u64 ((P / Y:Nat):Int),.slice (some ⟨g,0,none⟩) (nb+1) (nb+1)]) /\
   w.heap.size<=g/\Below w.heap.size w w'/\Cel w' g 206 (nb+1) (QX (Y*(P / Y))):=by
 have HQ:=hV (show P / Y<q/\q<LB from⟨by rw[Lm r,Ls];exact G,hq⟩);have O:=hV hY;have t:=hV r;have HP:=hV hP;have W:8*(nb+1)<=281474976710656:=x3;have H:nb+1<=9223372036854775807:=x3;clear hq G hY r hP;go_enter func225,ntmps225
 go_wp2
 have d:Below w.heap.size w (w.alloc (.cells #[.slice D B C,.slice c nb l] 260)):=(l3 _ _).alloc (L8 _) _;have I:(w.alloc (.cells #[.slice D B C,.slice c nb l] 260)).cell? ⟨w.heap.size,1,none⟩=some (.slice c nb l):=by
  rw[World.cell?_alloc_at _ _ _ _ rfl];rfl
 have J:w.heap.size<(w.alloc (.cells #[.slice D B C,.slice c nb l] 260)).heap.size:=x6;generalize w.alloc (.cells #[.slice D B C,.slice c nb l] 260)=Q at *;have K:=hr.below d;have L:=F.below d;clear hr F;go_loopw [2] (λs wr=>∃q:Nat,s=.int .u64 (q:Int)/\Hid (P / Y<q/\q<LB)/\Below Q.heap.size Q wr) (λs _=>(intOf s).toNat)
 case atStart=>exact⟨q,rfl,HQ.out,l3 _ _⟩
 case round =>
  obtain⟨k,rfl,M,n⟩:=hrel;have X:wr.cell? ⟨w.heap.size,1,none⟩=some (.slice c nb l):=(n.cell (p:=⟨w.heap.size,1,none⟩) J).trans I;obtain⟨p,hp⟩:∃p,k=p+1:=⟨k-1,y6 (Lw (La _) M.out.1)⟩
  have bi:IntKind.u64.wrap ((k:Int)-1)=(p:Int):=by
   have:=M.out.2;rw[ZW]at this;rw[o0];omega
  have z:=hV (show P / Y<=p/\p<LB/\p<k from⟨y6 M.out.1,y6 M.out.2,x3⟩);clear hp M;go_wp2_with (at_make;refine Yi rfl (.tmp 14) (.tmp 14) _ rfl 206 (.int .u64 0) 8 Zz VJ rfl .i64 .i64 _ _ (nb+1) rfl rfl rfl rfl W H ?_;intro Z ad o ao;have aw:Z.cell? ⟨w.heap.size,1,none⟩=some (.slice c nb l):=(o.cell (p:=⟨w.heap.size,1,none⟩) (Lb J n.size)).trans X)
  have ae:=(K.below n).below o;have bk:=(L.below n).below o;have ag:Cel Z wr.heap.size 206 (nb+1) (AC 0 (nb+1) (QX 0) (QX 0)):=ad.congr λj hj=>by
   have:=D3 0 (nb+1) (QX 0) j;simp only[Lj]at this;rw[this];unfold QX;rw[KO];rfl
  have ho:Off c wr.heap.size:=by
   intro a R hb;rcases So nb with S|S
   ·have A:=O.out;have h2:=t.out;rw[S,Ug]at A;omega
   ·obtain⟨b,off,e,hc⟩:=K S;rw[e]at R;injection R with R
    subst R;have:=V3 (hc 0 S);have h3:=n.size;simp at hb this;omega
  go_wp2_with fail
  refine(Iu wr.heap.size 0 (nb+1) (nb+1) (nb+1) nb l 0 Y p c _ Z x3 x3 ag x3 z.out.2.1 O.out ae ho).mono ?_
  rintro e w2 ⟨rfl,al,u⟩;rw[Lj]at u;have v:=u.congr (f':=QX (Y*p)) λj hj=>by
   have:=D3 0 (nb+1) (QX (Y*p)) j;simp only[Lj]at this;unfold AC at *;rw[if_pos ⟨x3,x3⟩,Nat.sub_zero]
  have f:Y*p<LB^(nb+1):=by
   rw[R9];exact Lb (Rh O.out (Lw (La _) z.out.2.1) |> λ_=>Um O.out z.out.2.1) (L8 _)
  have cc:=hV (J5 (some ⟨wr.heap.size,0,none⟩) (nb+1) (nb+1) (Y*p) w2 H (L8 _) f (Cel.rd0 v (L8 _)));have N:nd 64 (Y*p)<=nb+1:=Ik f;clear f u;go_wp2_with fail
  refine cc.out.mono ?_
  rintro e w3 ⟨rfl,rfl⟩;have x:Below Q.heap.size Q w2:=by
   have A:=QE n o n.size;exact Zl A al A.size n.size
  go_wp2_with fail
  refine(NM _ U (nd 64 (Y*p)) y _ V (Y*p) P w2 x3 x3 N E (YI _) HP.out (Cel.rd0 v N) (L.below x)).mono ?_
  rintro e w4 ⟨rfl,m,rfl⟩;by_cases i:P<Y*p
  ·have A:¬ Kw (Y*p) P<=0:=y6 (cmpI_gt.2 i);have T:=hV i;clear i;go_wp2
   refine⟨⟨p,rfl,⟨by rw[Lm t.out,Ls];exact T.out,z.out.2.1⟩,ZA x m⟩,by simp[intOf];exact z.out.2.2⟩
  ·have A:Kw (Y*p) P<=0:=by
    have:¬ 0<Kw (Y*p) P:=λh=>i (cmpI_gt.1 h)
    omega
   have T:=hV (show p=P / Y from Rb ((T8 t.out).2 (by rw[Ls];omega)) z.out.1);clear i;go_wp2
   go_ret2
   refine⟨wr.heap.size,by rw[<- T.out];rfl,L9 d.size n.size,?_,?_⟩
   ·exact ZA (QE d x d.size) m
   ·rw[<- T.out];exact v.drewN m
theorem eG(r:Option Addr)(g N c nb d T X Y at_:Nat)(w:World)(hN:N<=1073741824)(cN:N<=c)(cO:N<=T)(t:0<nb)(cR:at_+nb<N)(hX:X<Y*LB^(at_+1))(hY:LB^(nb-1)*9223372036854775808<=Y)(K:Y<LB^nb)(hC:Cel w g 206 T (QX X))(hr:Rd w r nb (QX Y))(ho:Off r g):
  Calls prog 188 #[.agg #[.slice (some ⟨g,0,none⟩) N c,.slice r nb d],.int .i64 (at_:Nat)] w λe w'=>e=.returned (.int .u64 ((X / LB^at_ / Y:Nat):Int)) /\
   w.grownBy w' (some g)/\Cel w' g 206 T (QX (X-LB^at_*(Y*(X / LB^at_ / Y)))):=by
 obtain⟨t1,t2,t3,t4,t5,t6⟩:=gx t hX hY K;have cU:=hC.lt;have F:=hV (show(X / LB^at_<Y*LB/\X / LB^at_<LB^(nb+1)/\9223372036854775808<=QD LB Y (nb-1))/\X / LB^at_ / Y<LB/\0<Y from⟨⟨t1,t2,t3⟩,t5,t6⟩);have cj:=hV t4;have HX:=hV hX;have HY:=hV hY;have A:=hV K;clear t1 t2 t3 t4 t5 t6 hX hY K;go_enter func188,ntmps188
 go_upto_region 1 with fail
 have W:w.grownBy (w.alloc (.cells #[.slice (some ⟨g,0,none⟩) N c,.slice r nb d] 260)) (some g):=I6 (World.grownBy.refl _ _) _;have u:(w.alloc (.cells #[.slice (some ⟨g,0,none⟩) N c,.slice r nb d] 260)).cell? ⟨w.heap.size,0,none⟩=some (.slice (some ⟨g,0,none⟩) N c):=by
  rw[World.cell?_alloc_at _ _ _ _ rfl];rfl
 have x:(w.alloc (.cells #[.slice (some ⟨g,0,none⟩) N c,.slice r nb d] 260)).cell? ⟨w.heap.size,1,none⟩=some (.slice r nb d):=by
  rw[World.cell?_alloc_at _ _ _ _ rfl];rfl
 have L:w.heap.size<(w.alloc (.cells #[.slice (some ⟨g,0,none⟩) N c,.slice r nb d] 260)).heap.size:=x6;have B:=hC.alloc (.cells #[.slice (some ⟨g,0,none⟩) N c,.slice r nb d] 260);have M:=hr.alloc (.cells #[.slice (some ⟨g,0,none⟩) N c,.slice r nb d] 260);clear hC hr;generalize w.alloc (.cells #[.slice (some ⟨g,0,none⟩) N c,.slice r nb d] 260)=G at *;obtain⟨b,off,rfl,hc⟩:=M t;have g1:G.cell? ⟨g,at_+nb,none⟩=some (.int .u64 (QD LB X (at_+nb):Nat)):=B.cell x3;have g2:G.cell? ⟨b,off+(nb-1),none⟩=some (.int .u64 (QD LB Y (nb-1):Nat)):=hc (nb-1) x3;have g3:G.cell? ⟨g,at_+nb-1,none⟩=some (.int .u64 (QD LB X (at_+nb-1):Nat)):=B.cell x3;have cF:1<=nb:=t;clear hc;go_upto_if 27 with fail
 go_cut [7] (λs wx=>∃q:Nat,s=.int .u64 (q:Int)/\X / LB^at_ / Y<=q/\q<LB/\∃k,wx=G.drewN k)
 case first =>
  by_cases C:QD LB X (at_+nb)<QD LB Y (nb-1)
  ·have hd:=hV (eJ (QD LB X (at_+nb)) (QD LB X (at_+nb-1)) (QD LB Y (nb-1)) · F.out.1.2.2 (Yz QB _ _) C (Yz QB _ _));have HL:=hV (cj.out C);have Z:((QD LB X (at_+nb):Nat):Int)<((QD LB Y (nb-1):Nat):Int):=x3;clear C;have v1:IntKind.i64.wrap ((at_:Int)+(nb:Int))=(at_:Int)+(nb:Int):=Lg _ x3;have v2:IntKind.i64.wrap ((at_:Int)+(nb:Int)-1)=(at_:Int)+(nb:Int)-1:=Lg _ x3;have v3:IntKind.i64.wrap ((nb:Int)-1)=(nb:Int)-1:=Lg _ x3;have v4:(0:Int)<=(at_:Int)+(nb:Int)-1:=x3;have v5:(at_:Int)+(nb:Int)-1<(N:Int):=x3;have v6:((at_:Int)+(nb:Int)-1).toNat=at_+nb-1:=x3;have v7:(0:Int)<=(nb:Int)-1:=x3;have v8:(nb:Int)-1<(nb:Int):=x3;have v9:((nb:Int)-1).toNat=nb-1:=x3;go_wp2
   go_quiet ((go_at_call 223;exact Calls.quiet_of (hd.out _)))
   go_wp2
   go_meet
   exact⟨_,rfl,HL.out.1,HL.out.2,_,rfl⟩
  ·have Z:¬((QD LB X (at_+nb):Nat):Int)<((QD LB Y (nb-1):Nat):Int):=x3;clear C;go_wp2
   go_meet
   exact⟨18446744073709551615,rfl,Nat.le_sub_one_of_lt F.out.2.1,x4,0,rfl⟩
 case rest =>
  obtain⟨q,rfl,ad,ae,k,rfl⟩:=hcut;have O:=B.drewN k;have ag:=Am W k;have P:(G.drewN k).cell? ⟨w.heap.size,1,none⟩=some (.slice (some ⟨b,off,none⟩) nb d):=x;have al:(G.drewN k).cell? ⟨w.heap.size,0,none⟩=some (.slice (some ⟨g,0,none⟩) N c):=u;have D:=M.drewN k;have y:w.heap.size<(G.drewN k).heap.size:=L;have HQ:=hV (show X / LB^at_ / Y<=q/\q<LB from⟨ad,ae⟩);clear B W u x M L g1 g2 g3 ad ae;generalize G.drewN k=H at *;have cl:8*(nb+1)<=281474976710656:=x3;have ao:nb+1<=9223372036854775807:=x3;have cV:at_<c:=x3;have cG:at_+nb+1<=c:=x3;go_wp2_with (at_make;refine Yi rfl (.tmp 56) (.tmp 56) _ rfl 206 (.int .u64 0) 8 Zz VJ rfl .i64 .i64 _ _ (nb+1) rfl rfl rfl rfl cl ao ?_;intro w2 aw z aB;have bd:w2.cell? ⟨w.heap.size,1,none⟩=some (.slice (some ⟨b,off,none⟩) nb d):=(z.cell (p:=⟨w.heap.size,1,none⟩) y).trans P)
  rw[show at_+nb+1-at_=nb+1 by omega];have bi:=D.below z;have bk:Cel w2 H.heap.size 206 (nb+1) (AC 0 (nb+1) (QX 0) (QX 0)):=aw.congr λj hj=>by
   have:=D3 0 (nb+1) (QX 0) j;simp only[Lj]at this;rw[this];unfold QX;rw[KO];rfl
  have cL:=O.lt;have L:b<H.heap.size:=by
   obtain⟨b',cM,e,hc⟩:=D t;injection e with e
   injection e with e1
   have:=V3 (hc 0 t);simp at this;omega
  refine(Iu H.heap.size 0 (nb+1) (nb+1) (nb+1) nb d 0 Y q _ _ w2 x3 x3 bk x3 HQ.out.2 A.out bi (Off.some_ x3)).mono ?_
  rintro e f ⟨rfl,bl,Q⟩;rw[Lj]at Q;have E:=Q.congr (f':=QX (Y*q)) λj hj=>by
   unfold AC;rw[if_pos ⟨x3,x3⟩,Nat.sub_zero]
  have i:Y*q<LB^(nb+1):=by
   rw[R9];exact Um A.out HQ.out.2
  have cc:=hV (J5 (some ⟨H.heap.size,0,none⟩) (nb+1) (nb+1) (Y*q) f ao (L8 _) i (Cel.rd0 E (L8 _)));have bs:nd 64 (Y*q)<=nb+1:=Ik i;have H5:=hV i;clear i bk Q;go_wp2_with fail
  refine cc.out.mono ?_
  rintro e w4 ⟨rfl,rfl⟩;have l:Below H.heap.size H f:=Zl z bl z.size (L8 _);have R:Cel f g 206 T (QX X):=O.bel l;have S:Rd f (some ⟨g,at_,none⟩) (nb+1) (QX (X / LB^at_)):=(R.rd (o:=at_) (n:=nb+1) x3).congr λj _=>by unfold QX;rw[KI]
  have bX:=D.below l;have I:f.cell? ⟨w.heap.size,1,none⟩=some (.slice (some ⟨b,off,none⟩) nb d):=(l.cell (p:=⟨w.heap.size,1,none⟩) y).trans P;have J:f.cell? ⟨w.heap.size,0,none⟩=some (.slice (some ⟨g,0,none⟩) N c):=(l.cell (p:=⟨w.heap.size,0,none⟩) y).trans al;go_wp2_with fail
  refine(NM _ _ (nd 64 (Y*q)) (nb+1) _ (c-at_) (Y*q) (X / LB^at_) f x3 x3 bs x3 (YI _) F.out.1.2.1 (Cel.rd0 E bs) S).mono ?_
  rintro e w4 ⟨rfl,m,rfl⟩;have cm:w.grownBy (f.drewN m) (some g):=Am (Ak ag l) m;have bY:=E.drewN m;have ca:=R.drewN m;have cn:=bX.drewN m;have cb:=S.drewN m;have cp:(f.drewN m).cell? ⟨w.heap.size,1,none⟩=some (.slice (some ⟨b,off,none⟩) nb d):=I;have cq:(f.drewN m).cell? ⟨w.heap.size,0,none⟩=some (.slice (some ⟨g,0,none⟩) N c):=J;have cZ:=l.size;have cr:f.heap.size=(f.drewN m).heap.size:=rfl;have da:H.heap.size<(f.drewN m).heap.size:=bY.lt;clear aw z aB bd bi bl cc R S bX I J E cr O ag P al D;generalize f.drewN m=w4 at *;go_upto_if 67 with fail
  go_cut [7,9] (λs v wx=>s=.int .u64 ((X / LB^at_ / Y:Nat):Int)/\∃U,v=.slice (some ⟨U,0,none⟩) (nb+1) (nb+1)/\g≠U/\Below w4.heap.size w4 wx/\Cel wx U 206 (nb+1) (QX (Y*(X / LB^at_ / Y))))
  case first =>
   by_cases a:X / LB^at_<Y*q
   ·have h1:0<Kw (Y*q) (X / LB^at_):=cmpI_gt.2 a;have ct:=hV (jN (some ⟨g,0,none⟩) (some ⟨b,off,none⟩) (some ⟨g,at_,none⟩) N c nb d (nb+1) (c-at_) (X / LB^at_) Y q w4 x3 x3 x3 A.out F.out.2.2 F.out.1.2.1 cn cb HQ.out.2 a);clear a;go_wp2_with fail
    refine ct.out.mono ?_
    rintro e w5 ⟨U,rfl,dc,cu,V⟩;go_wp2
    go_meet
    exact⟨rfl,U,rfl,x3,cu,V⟩
   ·have h1:¬ 0<Kw (Y*q) (X / LB^at_):=λh=>a (cmpI_gt.1 h)
    have HE:=hV (show q=X / LB^at_ / Y from Rb ((T8 F.out.2.2).2 (by rw[Ls];omega)) HQ.out.1);clear a;go_wp2
    go_meet
    exact⟨by rw[<- HE.out],H.heap.size,rfl,x3,l3 _ _,by rw[<- HE.out];exact bY⟩
  case rest =>
   obtain⟨rfl,U,rfl,cy,cd,V⟩:=hcut;have cf:X<LB^(at_+nb+1):=by
    have h1:=HX.out;have h2:Y*LB^(at_+1)<=LB^nb*LB^(at_+1):=Lo _ (Sf A.out);rw[<- Lt,show nb+(at_+1)=at_+nb+1 by omega]at h2;exact Lb h1 h2
   have a:Y*(X / LB^at_ / Y)<=X / LB^at_:=Nat.mul_div_le _ _;have ch:Cel wc g 206 T (AC at_ (nb+1) (QX (X / LB^at_)) (QX X)):=(ca.bel cd).congr λj _=>by
    unfold AC;by_cases h:at_<=j/\j<at_+(nb+1)
    ·rw[if_pos h];unfold QX;rw[KI,show at_+(j-at_)=j by omega]
    ·rw[if_neg h]
   have cA:=hV (TB g at_ (nb+1) (c-at_) T (nb+1) (nb+1) (X / LB^at_) (Y*(X / LB^at_ / Y)) (some ⟨U,0,none⟩) _ wc x3 x3 ch x3 (Lw a F.out.1.2.1) a F.out.1.2.1 (Cel.rd0 V (L8 _)) (Off.some_ (λe=>cy e.symm)));have HR:=hV (λj=>iL (j:=j) cf a);clear cf a ch;go_wp2_with fail
   refine cA.out.mono ?_
   rintro e w6 ⟨rfl,cC,cD⟩;go_wp2
   go_ret
   refine⟨rfl,Gt (Ak cm cd) cC,cD.congr λj _=>?_⟩;unfold AC QX;rw[HR.out j];split<;>rfl
