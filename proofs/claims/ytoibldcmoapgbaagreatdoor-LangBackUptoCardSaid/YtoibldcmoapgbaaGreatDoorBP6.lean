/- Laws beneath the statement. -/
import Derived.Test.YtoibldcmoapgbaaGreatDoorBP5
namespace Go.Proofs.YtoibldcmoapgbaaGreatDoor
set_option linter.defProp false
open Tryz
set_option maxHeartbeats 4000000
set_option maxRecDepth 100000
open Go.RowKit
def Eb{q a b:Nat}(h:Yr<=q\/a<b):(4294967296:Int)<=(q:Int)\/(¬(4294967296:Int)<=(q:Int)/\(a:Int)<(b:Int)):=by
 rw[Zt]at h;omega
def bS(a y:Nat)(w:World)(hy:0<y)(b:a<LB)(_hy2:y<LB):
  Calls prog 223 #[.int .u64 0,.int .u64 (a:Nat),.int .u64 (y:Nat)] w λe c=>e=.returned (.tuple #[.int .u64 ((a / y:Nat):Int),.int .u64 ((a % y:Nat):Int)])/\∃k,c=w.drewN k:=by
 have g:((y:Int)==0)=false:=Lp.2 x3;have i:¬(y:Int)<=0:=x3;have d:=x0f b;clear b;go_enter func223,ntmps223
 go_wp2
 go_quiet (fail)
 go_wp2
 have e:IntKind.u64.wrap ((a:Int) / (y:Int))=((a / y:Nat):Int):=by
  rw[<- Int.natCast_ediv,b7];have j:=Rn a y;have f:=d.out;rw[Jo]at f;generalize a / y=q at *;omega
 rw[e];go_ret2
 exact⟨by rw[Int.natCast_emod];rfl,_,rfl⟩
def jz(hi H y:Nat)(w:World)(hy:9223372036854775808<=y)(A:y<LB)(hh:hi<y)(L:H<LB)(h0:0<hi):
  Calls prog 223 #[.int .u64 (hi:Nat),.int .u64 (H:Nat),.int .u64 (y:Nat)] w λe w'=>e=.returned (.tuple #[.int .u64 (((hi*LB+H) / y:Nat):Int),.int .u64 (((hi*LB+H) % y:Nat):Int)])/\∃k,w'=w.drewN k:=by
 have al:=Tryz.bits_LeadingZeros64 y w x3 (by rw[Jo]at A;omega);rw[Sm,bv hy A]at al;have cc:=x0f al;have e1:((y:Int)==0)=false:=Lp.2 x3;have e2:¬(y:Int)<=hi:=x3;have e3:((hi:Int)==0)=false:=Lp.2 x3;have ct:IntKind.u64.wrap (y:Int)=(y:Int):=by rw[b7];rw[Jo]at A;omega
 have cu:IntKind.u64.wrap (hi:Int)=(hi:Int):=by rw[b7];rw[Jo]at A;omega
 have cw:IntKind.u64.wrap (H:Int)=(H:Int):=by rw[b7];rw[Jo]at L;omega
 obtain⟨d,cd⟩:∃d,d=y / 4294967296:=⟨_,rfl⟩
 obtain⟨E,o⟩:∃E,E=y % 4294967296:=⟨_,rfl⟩
 obtain⟨B,cf⟩:∃B,B=H / 4294967296:=⟨_,rfl⟩
 obtain⟨F,bs⟩:∃F,F=H % 4294967296:=⟨_,rfl⟩
 have f1:(y:Int) / 4294967296=(d:Int):=x3;have f2:bits .and .u64 (y:Int) 4294967295=(E:Int):=by
  have:=u64_and_nat y 4294967295 A x4;rw[show 4294967295=2^32-1 from rfl,Nat.and_two_pow_sub_one_eq_mod]at this;rw[o];exact this
 have f3:(H:Int) / 4294967296=(B:Int):=x3;have f4:bits .and .u64 (H:Int) 4294967295=(F:Int):=by
  have:=u64_and_nat H 4294967295 L x4;rw[show 4294967295=2^32-1 from rfl,Nat.and_two_pow_sub_one_eq_mod]at this;rw[bs];exact this
 have f5:(H:Int) / 18446744073709551616=0:=by rw[Jo]at L;omega
 have f6:bits .or .u64 (hi:Int) 0=(hi:Int):=by
  have:=u64_or_nat hi 0 (by rw[Jo]at A;omega) x4;rw[Nat.or_zero]at this;exact this
 have b1:2147483648<=d:=x3;have b2:d<4294967296:=by rw[Jo]at A;omega
 have b3:E<4294967296:=x3;have t:B<4294967296:=by rw[Jo]at L;omega
 have v:F<4294967296:=x3;have HB:=x0f (show(2147483648<=d/\d<4294967296)/\E<4294967296/\B<4294967296/\F<4294967296 from⟨⟨b1,b2⟩,b3,t,v⟩);have b0:0<d:=x3;clear b1 b2 b3 t v;have s:=x0f (show y=d*Yr+E by rw[Zt];omega);have bX:=x0f (show H=B*Yr+F by rw[Zt];omega);clear cd o cf bs;have HY:=x0f hy;have W:=x0f A;have cy:=x0f L;have HH:=x0f hh;clear al hy A L hh;go_enter func223,ntmps223
 go_wp2_with fail
 refine cc.out.mono ?_
 rintro e w' ⟨rfl,rfl⟩;let⟨⟨b1,b2⟩,b3,t,v⟩:=HB.out;obtain⟨qa,ao⟩:∃q,q=hi / d:=⟨_,rfl⟩
 obtain⟨ra,bY⟩:∃r,r=hi % d:=⟨_,rfl⟩
 have c:hi<d*Yr+E:=by rw[<- s.out];exact HH.out
 have M:=Ha hi B b1 b2 b3 c t;rw[<- ao,<- bY]at M;have f7:IntKind.u64.wrap ((hi:Int) / (d:Int))=(qa:Int):=by
  have h1:=M.qle;rw[Zt]at h1;rw[<- Int.natCast_ediv,<- ao,b7];omega
 have f8:IntKind.u64.wrap ((hi:Int)-IntKind.u64.wrap ((qa:Int)*(d:Int)))=(ra:Int):=by
  have h1:=M.eq;have h2:=M.rlt;have h3:=HH.out;have h4:=W.out;rw[<- Ty];rw[Zt]at h2;rw[Jo]at h4;generalize qa*d=p at *;simp only[b7];omega
 have HG:=x0f M;clear ao bY M c b1 b2 b3 t v;go_upto_block 0 with fail
 go_cut [15,16] (λa b wx=>a=.int .u64 (((hi*Yr+B) / y:Nat):Int)/\wx=w')
 case first =>
  go_wp2
  go_loop [15,16] (λa b=>∃q r:Nat,a=.int .u64 (q:Int)/\b=.int .u64 (r:Int)/\Guess hi B d E q r) (λa _=>(intOf a).toNat)
  case atStart=>exact⟨qa,ra,rfl,rfl,HG.out⟩
  case round =>
   obtain⟨q,r,rfl,rfl,G⟩:=hrel;let⟨⟨b1,b2⟩,b3,t,v⟩:=HB.out;let⟨k1,Y,Z,x,S⟩:=Hb G b2 b3 t;have c:hi<d*Yr+E:=by rw[<- s.out];exact HH.out
   have C:0<d*Yr+E:=by rw[<- s.out];have:=HY.out;omega
   obtain⟨N,f⟩:∃N,N=r+d:=⟨_,rfl⟩
   obtain⟨s1,j⟩:∃s1,s1=Yr*r:=⟨_,rfl⟩
   obtain⟨T,g⟩:∃T,T=Yr*r+B:=⟨_,rfl⟩
   obtain⟨p,O⟩:∃p,p=q-1:=⟨_,rfl⟩
   obtain⟨m,I⟩:∃m,m=q*E:=⟨_,rfl⟩
   rw[<- f]at k1;rw[<- j]at Y;rw[<- g,<- j]at Z;rw[<- I]at x;rw[<- O]at S;by_cases l:Yr<=q\/Yr*r+B<q*E
   ·have D:=D6 G b3 c t l;have k6:=S D.1;have ch:p<q:=hA D.1;by_cases P:r+d<Yr
    ·have i:=Mk G b3 c t l P;rw[<- O,<- f]at i;have J:=x0f i;have aB:¬(4294967296:Int)<=(N:Int):=by rw[f];rw[Zt]at P;omega
     have n:(4294967296:Int)<=(q:Int)\/(¬(4294967296:Int)<=(q:Int)/\(T:Int)<(m:Int)):=by rw[g,I];exact Eb l
     clear i l P D S f j g O I c C G b1 b2 b3 t v;rcases n with X|⟨X,h6⟩
     ·clear x;go_wp2
      exact⟨⟨p,N,rfl,rfl,J.out⟩,by simp[intOf];omega⟩
     ·have k7:=x x3;clear x;go_wp2
      exact⟨⟨p,N,rfl,rfl,J.out⟩,by simp[intOf];omega⟩
    ·have i:=Ot G b3 c t l (Sx P);rw[<- O]at i;rw[<- s.out]at i;have J:=x0f i;have aB:(4294967296:Int)<=(N:Int):=by rw[f];rw[Zt]at P;omega
     have n:(4294967296:Int)<=(q:Int)\/(¬(4294967296:Int)<=(q:Int)/\(T:Int)<(m:Int)):=by rw[g,I];exact Eb l
     clear i l P D S f j g O I c C G b1 b2 b3 t v;rcases n with X|⟨X,h6⟩
     ·clear x;go_wp2
      go_meet
      exact⟨by rw[J.out],rfl⟩
     ·have k7:=x x3;clear x;go_wp2
      go_meet
      exact⟨by rw[J.out],rfl⟩
   ·have X:¬(4294967296:Int)<=(q:Int):=by intro h;exact l (Or.inl (by rw[Zt];omega))
    have h6:¬(T:Int)<(m:Int):=by rw[g,I];intro h;exact l (Or.inr x3)
    have i:=Mj G C (Sx λh=>l (Or.inr h));rw[<- s.out]at i;have J:=x0f i;have k7:=x x3;clear i l S x f j g O I c C G b1 b2 b3 t v;go_wp2
    go_meet
    exact⟨by rw[J.out],rfl⟩
 case rest =>
  obtain⟨rfl,rfl⟩:=hcut;let⟨⟨b1,b2⟩,b3,t,v⟩:=HB.out;have o:0<y:=hA HY.out;have f9:=OW hi B y rfl o W.out;have K:=Re (hi*Yr+B) o;have bd:=(Tc (hi*Yr+B) y).symm;have bi:=eF hi B F y o;obtain⟨Q,hQ⟩:∃Q,Q=(hi*Yr+B) / y:=⟨_,rfl⟩
  obtain⟨R,hR⟩:∃R,R=(hi*Yr+B) % y:=⟨_,rfl⟩
  rw[<- hQ,<- hR]at f9;rw[<- hR]at K;rw[<- hQ,<- hR]at bi;rw[<- hQ,<- hR]at bd;have cj:=x0f bd;clear bd;rw[<- hQ];have ad:Q<4294967296:=by
   rw[hQ,Lr o];have h1:=HH.out;rw[Zt];omega
  have cl:=x0f ad;have cm:=x0f bi;have c:R<d*Yr+E:=by rw[<- s.out];exact K
  have M:=Ha R F b1 b2 b3 c v;obtain⟨qb,bk⟩:∃q,q=R / d:=⟨_,rfl⟩
  obtain⟨rb,ca⟩:∃r,r=R % d:=⟨_,rfl⟩
  rw[<- bk,<- ca]at M;have g7:IntKind.u64.wrap ((R:Int) / (d:Int))=(qb:Int):=by
   have h1:=M.qle;rw[Zt]at h1;rw[<- Int.natCast_ediv,<- bk,b7];omega
  have g8:IntKind.u64.wrap ((R:Int)-IntKind.u64.wrap ((qb:Int)*(d:Int)))=(rb:Int):=by
   have h1:=M.eq;have h2:=M.rlt;have h4:=W.out;rw[<- Ty];rw[Zt]at h2;rw[Jo]at h4;generalize qb*d=p at *;simp only[b7];omega
  have cn:=x0f M;have ae:=x0f K;clear HG f7 f8 bk ca M c bi hQ hR K ad b1 b2 b3 t v;go_upto_block 2 with fail
  go_cut [16,18] (λb a wx=>a=.int .u64 (((R*Yr+F) / y:Nat):Int)/\wx=wc)
  case first =>
   go_wp2
   go_loop [16,18] (λb a=>∃q r:Nat,a=.int .u64 (q:Int)/\b=.int .u64 (r:Int)/\Guess R F d E q r) (λ_ a=>(intOf a).toNat)
   case atStart=>exact⟨qb,rb,rfl,rfl,cn.out⟩
   case round =>
    obtain⟨q,r,rfl,rfl,G⟩:=hrel;let⟨⟨b1,b2⟩,b3,t,v⟩:=HB.out;let⟨k1,Y,Z,x,S⟩:=Hb G b2 b3 v;have c:R<d*Yr+E:=by rw[<- s.out];exact ae.out
    have C:0<d*Yr+E:=by rw[<- s.out];have:=HY.out;omega
    obtain⟨N,f⟩:∃N,N=r+d:=⟨_,rfl⟩
    obtain⟨s1,j⟩:∃s1,s1=Yr*r:=⟨_,rfl⟩
    obtain⟨T,g⟩:∃T,T=Yr*r+F:=⟨_,rfl⟩
    obtain⟨p,O⟩:∃p,p=q-1:=⟨_,rfl⟩
    obtain⟨m,I⟩:∃m,m=q*E:=⟨_,rfl⟩
    rw[<- f]at k1;rw[<- j]at Y;rw[<- g,<- j]at Z;rw[<- I]at x;rw[<- O]at S;by_cases l:Yr<=q\/Yr*r+F<q*E
    ·have D:=D6 G b3 c v l;have k6:=S D.1;have ch:p<q:=hA D.1;by_cases P:r+d<Yr
     ·have i:=Mk G b3 c v l P;rw[<- O,<- f]at i;have J:=x0f i;have aB:¬(4294967296:Int)<=(N:Int):=by rw[f];rw[Zt]at P;omega
      have n:(4294967296:Int)<=(q:Int)\/(¬(4294967296:Int)<=(q:Int)/\(T:Int)<(m:Int)):=by rw[g,I];exact Eb l
      clear i l P D S f j g O I c C G b1 b2 b3 t v;rcases n with X|⟨X,h6⟩
      ·clear x;go_wp2
       exact⟨⟨p,N,rfl,rfl,J.out⟩,by simp[intOf];omega⟩
      ·have k7:=x x3;clear x;go_wp2
       exact⟨⟨p,N,rfl,rfl,J.out⟩,by simp[intOf];omega⟩
     ·have i:=Ot G b3 c v l (Sx P);rw[<- O]at i;rw[<- s.out]at i;have J:=x0f i;have aB:(4294967296:Int)<=(N:Int):=by rw[f];rw[Zt]at P;omega
      have n:(4294967296:Int)<=(q:Int)\/(¬(4294967296:Int)<=(q:Int)/\(T:Int)<(m:Int)):=by rw[g,I];exact Eb l
      clear i l P D S f j g O I c C G b1 b2 b3 t v;rcases n with X|⟨X,h6⟩
      ·clear x;go_wp2
       go_meet
       exact⟨by rw[J.out],rfl⟩
      ·have k7:=x x3;clear x;go_wp2
       go_meet
       exact⟨by rw[J.out],rfl⟩
    ·have X:¬(4294967296:Int)<=(q:Int):=by intro h;exact l (Or.inl (by rw[Zt];omega))
     have h6:¬(T:Int)<(m:Int):=by rw[g,I];intro h;exact l (Or.inr x3)
     have i:=Mj G C (Sx λh=>l (Or.inr h));rw[<- s.out]at i;have J:=x0f i;have k7:=x x3;clear i l S x f j g O I c C G b1 b2 b3 t v;go_wp2
     go_meet
     exact⟨by rw[J.out],rfl⟩
  case rest =>
   obtain⟨rfl,rfl⟩:=hcut;have o:0<y:=hA HY.out;obtain⟨q0,U⟩:∃q0,q0=(R*Yr+F) / y:=⟨_,rfl⟩
   have cb:q0<4294967296:=by
    rw[U,Lr o];have h1:=ae.out;let⟨⟨b1,b2⟩,b3,t,v⟩:=HB.out;rw[Zt];omega
   have cp:=cl.out;have k1:IntKind.u64.wrap ((Q:Int)*4294967296)=((Q*Yr:Nat):Int):=by rw[b7,Zt];omega
   have Y:IntKind.u64.wrap (((Q*Yr:Nat):Int)+(q0:Int))=((Q*Yr+q0:Nat):Int):=by rw[b7];simp only[Zt];omega
   have e:(hi*Yr+B)*Yr+F=hi*LB+(B*Yr+F):=by rw[Jo];simp only[Zt];omega
   have V:Q*Yr+q0=(hi*LB+H) / y:=by
    rw[U,cm.out,bX.out,e]
   have Z:=OW R F y U o W.out;have ag:(R*Yr+F) % y=(hi*LB+H) % y:=by
    rw[bX.out,<- e,cj.out,S8,Sf,R9,Nat.mul_add_mod]
   rw[ag]at Z;rw[<- U];obtain⟨z,hz⟩:∃z,z=Q*Yr:=⟨_,rfl⟩
   obtain⟨rr,bl⟩:∃rr,rr=(hi*LB+H) % y:=⟨_,rfl⟩
   rw[<- hz]at k1 Y V;rw[V]at Y;rw[<- bl]at Z;have cq:=x0f bl;have x:(rr:Int) / 2^0=(rr:Int):=x6;have HF:=x0f Y;have cr:=x0f Z;clear U cb cp hz V Y e ag bl Z;go_wp2
   rw[HF.out,cr.out];go_ret2
   exact⟨by rw[<- cq.out];rfl,0,rfl⟩
def jA(a b y:Nat)(w:m0)(g:9223372036854775808<=y)(c:y<LB)(h:a<y)(d:b<LB):
  Calls prog 223 #[.int .u64 (a:Nat),.int .u64 (b:Nat),.int .u64 (y:Nat)] w λe i=>e=.returned (.tuple #[.int .u64 (((a*LB+b) / y:Nat):Int),.int .u64 (((a*LB+b) % y:Nat):Int)])/\∃k,i=w.drewN k:=by
 rcases T5 a with f|f
 ·subst f;have:=bS b y w x3 d c;rw[Ue,Lm];exact this
 ·exact jz a b y w g c h d f
def nY(D c U:Option Addr)(B C nb l y V P Y q:Nat)(w:World)(bd:nb<=1073741824)(bi:y<=1073741824)(E:y<=V)(hY:Y<LB^nb)(r:0<Y)(hP:P<LB^y)(hr:Rd w c nb (Q7 Y))(F:Rd w U y (Q7 P))(hq:q<LB)(G:P<Y*q):
  Calls prog 225 #[.agg #[.slice D B C,.slice c nb l],.slice U y V,.int .u64 (q:Nat)] w λe w'=>∃g,e=.returned (.tuple #[.int .u64 ((P / Y:Nat):Int),.slice (some ⟨g,0,none⟩) (nb+1) (nb+1)]) /\
   w.heap.size<=g/\Below w.heap.size w w'/\Cel w' g 206 (nb+1) (Q7 (Y*(P / Y))):=by
 have HQ:=x0f (show P / Y<q/\q<LB from⟨by rw[Lr r,Ls];exact G,hq⟩);have O:=x0f hY;have t:=x0f r;have HP:=x0f hP;have W:8*(nb+1)<=281474976710656:=x3;have H:nb+1<=9223372036854775807:=x3;clear hq G hY r hP;go_enter func225,ntmps225
 go_wp2
 have d:Below w.heap.size w (w.alloc (.cells #[.slice D B C,.slice c nb l] 260)):=(p5 _ _).alloc (L4 _) _;have I:(w.alloc (.cells #[.slice D B C,.slice c nb l] 260)).cell? ⟨w.heap.size,1,none⟩=some (.slice c nb l):=by
  rw[World.cell?_alloc_at _ _ _ _ rfl];rfl
 have J:w.heap.size<(w.alloc (.cells #[.slice D B C,.slice c nb l] 260)).heap.size:=x6;generalize w.alloc (.cells #[.slice D B C,.slice c nb l] 260)=Q at *;have K:=hr.below d;have L:=F.below d;clear hr F;go_loopw [2] (λs wr=>∃q:Nat,s=.int .u64 (q:Int)/\Hid (P / Y<q/\q<LB)/\Below Q.heap.size Q wr) (λs _=>(intOf s).toNat)
 case atStart=>exact⟨q,rfl,HQ.out,p5 _ _⟩
 case round =>
  obtain⟨k,rfl,M,n⟩:=hrel;have X:wr.cell? ⟨w.heap.size,1,none⟩=some (.slice c nb l):=(n.cell (p:=⟨w.heap.size,1,none⟩) J).trans I;obtain⟨p,hp⟩:∃p,k=p+1:=⟨k-1,hA (Lw (L7 _) M.out.1)⟩
  have bk:IntKind.u64.wrap ((k:Int)-1)=(p:Int):=by
   have:=M.out.2;rw[Jo]at this;rw[b7];omega
  have z:=x0f (show P / Y<=p/\p<LB/\p<k from⟨hA M.out.1,hA M.out.2,x3⟩);clear hp M;go_wp2_with (at_make;refine Yt rfl (.tmp 14) (.tmp 14) _ rfl 206 (.int .u64 0) 8 ZU GS rfl .i64 .i64 _ _ (nb+1) rfl rfl rfl rfl W H ?_;intro Z ad o ao;have aB:Z.cell? ⟨w.heap.size,1,none⟩=some (.slice c nb l):=(o.cell (p:=⟨w.heap.size,1,none⟩) (L9 J n.size)).trans X)
  have ae:=(K.below n).below o;have bl:=(L.below n).below o;have ag:Cel Z wr.heap.size 206 (nb+1) (CT 0 (nb+1) (Q7 0) (Q7 0)):=ad.congr λj hj=>by
   have:=B5 0 (nb+1) (Q7 0) j;simp only[Lm]at this;rw[this];unfold Q7;rw[Vx];rfl
  have ho:Off c wr.heap.size:=by
   intro a R hb;rcases T5 nb with S|S
   ·have A:=O.out;have h2:=t.out;rw[S,Tx]at A;omega
   ·let⟨b,off,e,hc⟩:=K S;rw[e]at R;injection R with R
    subst R;have:=G7 (hc 0 S);have h3:=n.size;simp at hb this;omega
  go_wp2_with fail
  refine(MT wr.heap.size 0 (nb+1) (nb+1) (nb+1) nb l 0 Y p c _ Z x3 x3 ag x3 z.out.2.1 O.out ae ho).mono ?_
  rintro e w2 ⟨rfl,al,u⟩;rw[Lm]at u;have v:=u.congr (f':=Q7 (Y*p)) λj hj=>by
   have:=B5 0 (nb+1) (Q7 (Y*p)) j;simp only[Lm]at this;unfold CT at *;rw[if_pos ⟨x3,x3⟩,Nat.sub_zero]
  have f:Y*p<LB^(nb+1):=by
   rw[R8];exact L9 (Rt O.out (Lw (L7 _) z.out.2.1) |> λ_=>Ux O.out z.out.2.1) (L4 _)
  have cc:=x0f (KN (some ⟨wr.heap.size,0,none⟩) (nb+1) (nb+1) (Y*p) w2 H (L4 _) f (Cel.rd0 v (L4 _)));have N:nd 64 (Y*p)<=nb+1:=MG f;clear f u;go_wp2_with fail
  refine cc.out.mono ?_
  rintro e w3 ⟨rfl,rfl⟩;have x:Below Q.heap.size Q w2:=by
   have A:=QW n o n.size;exact Zu A al A.size n.size
  go_wp2_with fail
  refine(Pw _ U (nd 64 (Y*p)) y _ V (Y*p) P w2 x3 x3 N E (YV _) HP.out (Cel.rd0 v N) (L.below x)).mono ?_
  rintro e w4 ⟨rfl,m,rfl⟩;by_cases i:P<Y*p
  ·have A:¬ Vg (Y*p) P<=0:=hA (cmpI_gt.2 i);have T:=x0f i;clear i;go_wp2
   refine⟨⟨p,rfl,⟨by rw[Lr t.out,Ls];exact T.out,z.out.2.1⟩,Zk x m⟩,by simp[intOf];exact z.out.2.2⟩
  ·have A:Vg (Y*p) P<=0:=by
    have:¬ 0<Vg (Y*p) P:=λh=>i (cmpI_gt.1 h)
    omega
   have T:=x0f (show p=P / Y from Ra ((Te t.out).2 (by rw[Ls];omega)) z.out.1);clear i;go_wp2
   go_ret2
   refine⟨wr.heap.size,by rw[<- T.out];rfl,L6 d.size n.size,?_,?_⟩
   ·exact Zk (QW d x d.size) m
   ·rw[<- T.out];exact v.drewN m
def jy(r:Option Addr)(g N c nb d T X Y at_:Nat)(w:World)(hN:N<=1073741824)(cN:N<=c)(cO:N<=T)(t:0<nb)(cP:at_+nb<N)(hX:X<Y*LB^(at_+1))(hY:LB^(nb-1)*9223372036854775808<=Y)(K:Y<LB^nb)(hC:Cel w g 206 T (Q7 X))(hr:Rd w r nb (Q7 Y))(ho:Off r g):
  Calls prog 188 #[.agg #[.slice (some ⟨g,0,none⟩) N c,.slice r nb d],.int .i64 (at_:Nat)] w λe w'=>e=.returned (.int .u64 ((X / LB^at_ / Y:Nat):Int)) /\
   w.grownBy w' (some g)/\Cel w' g 206 T (Q7 (X-LB^at_*(Y*(X / LB^at_ / Y)))):=by
 let⟨t1,t2,t3,t4,t5,t6⟩:=kZ t hX hY K;have cR:=hC.lt;have F:=x0f (show(X / LB^at_<Y*LB/\X / LB^at_<LB^(nb+1)/\9223372036854775808<=QG LB Y (nb-1))/\X / LB^at_ / Y<LB/\0<Y from⟨⟨t1,t2,t3⟩,t5,t6⟩);have cl:=x0f t4;have HX:=x0f hX;have HY:=x0f hY;have A:=x0f K;clear t1 t2 t3 t4 t5 t6 hX hY K;go_enter func188,ntmps188
 go_upto_region 1 with fail
 have W:w.grownBy (w.alloc (.cells #[.slice (some ⟨g,0,none⟩) N c,.slice r nb d] 260)) (some g):=grownBy_alloc (World.grownBy.refl _ _) _;have u:(w.alloc (.cells #[.slice (some ⟨g,0,none⟩) N c,.slice r nb d] 260)).cell? ⟨w.heap.size,0,none⟩=some (.slice (some ⟨g,0,none⟩) N c):=by
  rw[World.cell?_alloc_at _ _ _ _ rfl];rfl
 have x:(w.alloc (.cells #[.slice (some ⟨g,0,none⟩) N c,.slice r nb d] 260)).cell? ⟨w.heap.size,1,none⟩=some (.slice r nb d):=by
  rw[World.cell?_alloc_at _ _ _ _ rfl];rfl
 have L:w.heap.size<(w.alloc (.cells #[.slice (some ⟨g,0,none⟩) N c,.slice r nb d] 260)).heap.size:=x6;have B:=hC.alloc (.cells #[.slice (some ⟨g,0,none⟩) N c,.slice r nb d] 260);have M:=hr.alloc (.cells #[.slice (some ⟨g,0,none⟩) N c,.slice r nb d] 260);clear hC hr;generalize w.alloc (.cells #[.slice (some ⟨g,0,none⟩) N c,.slice r nb d] 260)=G at *;obtain⟨b,off,rfl,hc⟩:=M t;have g1:G.cell? ⟨g,at_+nb,none⟩=some (.int .u64 (QG LB X (at_+nb):Nat)):=B.cell x3;have g2:G.cell? ⟨b,off+(nb-1),none⟩=some (.int .u64 (QG LB Y (nb-1):Nat)):=hc (nb-1) x3;have g3:G.cell? ⟨g,at_+nb-1,none⟩=some (.int .u64 (QG LB X (at_+nb-1):Nat)):=B.cell x3;have cF:1<=nb:=t;clear hc;go_upto_if 27 with fail
 go_cut [7] (λs wx=>∃q:Nat,s=.int .u64 (q:Int)/\X / LB^at_ / Y<=q/\q<LB/\∃k,wx=G.drewN k)
 case first =>
  by_cases C:QG LB X (at_+nb)<QG LB Y (nb-1)
  ·have hd:=x0f (jA (QG LB X (at_+nb)) (QG LB X (at_+nb-1)) (QG LB Y (nb-1)) · F.out.1.2.2 (YO QF _ _) C (YO QF _ _));have HL:=x0f (cl.out C);have Z:((QG LB X (at_+nb):Nat):Int)<((QG LB Y (nb-1):Nat):Int):=x3;clear C;have v1:IntKind.i64.wrap ((at_:Int)+(nb:Int))=(at_:Int)+(nb:Int):=Le _ x3;have v2:IntKind.i64.wrap ((at_:Int)+(nb:Int)-1)=(at_:Int)+(nb:Int)-1:=Le _ x3;have v3:IntKind.i64.wrap ((nb:Int)-1)=(nb:Int)-1:=Le _ x3;have v4:(0:Int)<=(at_:Int)+(nb:Int)-1:=x3;have v5:(at_:Int)+(nb:Int)-1<(N:Int):=x3;have v6:((at_:Int)+(nb:Int)-1).toNat=at_+nb-1:=x3;have v7:(0:Int)<=(nb:Int)-1:=x3;have v8:(nb:Int)-1<(nb:Int):=x3;have v9:((nb:Int)-1).toNat=nb-1:=x3;go_wp2
   go_quiet ((go_at_call 223;exact Calls.quiet_of (hd.out _)))
   go_wp2
   go_meet
   exact⟨_,rfl,HL.out.1,HL.out.2,_,rfl⟩
  ·have Z:¬((QG LB X (at_+nb):Nat):Int)<((QG LB Y (nb-1):Nat):Int):=x3;clear C;go_wp2
   go_meet
   exact⟨18446744073709551615,rfl,Nat.le_sub_one_of_lt F.out.2.1,x4,0,rfl⟩
 case rest =>
  obtain⟨q,rfl,ad,ae,k,rfl⟩:=hcut;have O:=B.drewN k;have ag:=CB W k;have P:(G.drewN k).cell? ⟨w.heap.size,1,none⟩=some (.slice (some ⟨b,off,none⟩) nb d):=x;have al:(G.drewN k).cell? ⟨w.heap.size,0,none⟩=some (.slice (some ⟨g,0,none⟩) N c):=u;have D:=M.drewN k;have y:w.heap.size<(G.drewN k).heap.size:=L;have HQ:=x0f (show X / LB^at_ / Y<=q/\q<LB from⟨ad,ae⟩);clear B W u x M L g1 g2 g3 ad ae;generalize G.drewN k=H at *;have cm:8*(nb+1)<=281474976710656:=x3;have ao:nb+1<=9223372036854775807:=x3;have cU:at_<c:=x3;have cG:at_+nb+1<=c:=x3;go_wp2_with (at_make;refine Yt rfl (.tmp 56) (.tmp 56) _ rfl 206 (.int .u64 0) 8 ZU GS rfl .i64 .i64 _ _ (nb+1) rfl rfl rfl rfl cm ao ?_;intro w2 aB z bd;have bi:w2.cell? ⟨w.heap.size,1,none⟩=some (.slice (some ⟨b,off,none⟩) nb d):=(z.cell (p:=⟨w.heap.size,1,none⟩) y).trans P)
  rw[show at_+nb+1-at_=nb+1 by omega];have bk:=D.below z;have bl:Cel w2 H.heap.size 206 (nb+1) (CT 0 (nb+1) (Q7 0) (Q7 0)):=aB.congr λj hj=>by
   have:=B5 0 (nb+1) (Q7 0) j;simp only[Lm]at this;rw[this];unfold Q7;rw[Vx];rfl
  have cL:=O.lt;have L:b<H.heap.size:=by
   let⟨b',cM,e,hc⟩:=D t;injection e with e
   injection e with e1
   have:=G7 (hc 0 t);simp at this;omega
  refine(MT H.heap.size 0 (nb+1) (nb+1) (nb+1) nb d 0 Y q _ _ w2 x3 x3 bl x3 HQ.out.2 A.out bk (Off.some_ x3)).mono ?_
  rintro e f ⟨rfl,bs,Q⟩;rw[Lm]at Q;have E:=Q.congr (f':=Q7 (Y*q)) λj hj=>by
   unfold CT;rw[if_pos ⟨x3,x3⟩,Nat.sub_zero]
  have i:Y*q<LB^(nb+1):=by
   rw[R8];exact Ux A.out HQ.out.2
  have cc:=x0f (KN (some ⟨H.heap.size,0,none⟩) (nb+1) (nb+1) (Y*q) f ao (L4 _) i (Cel.rd0 E (L4 _)));have bX:nd 64 (Y*q)<=nb+1:=MG i;have H5:=x0f i;clear i bl Q;go_wp2_with fail
  refine cc.out.mono ?_
  rintro e w4 ⟨rfl,rfl⟩;have l:Below H.heap.size H f:=Zu z bs z.size (L4 _);have R:Cel f g 206 T (Q7 X):=O.bel l;have S:Rd f (some ⟨g,at_,none⟩) (nb+1) (Q7 (X / LB^at_)):=(R.rd (o:=at_) (n:=nb+1) x3).congr λj _=>by unfold Q7;rw[Vq]
  have bY:=D.below l;have I:f.cell? ⟨w.heap.size,1,none⟩=some (.slice (some ⟨b,off,none⟩) nb d):=(l.cell (p:=⟨w.heap.size,1,none⟩) y).trans P;have J:f.cell? ⟨w.heap.size,0,none⟩=some (.slice (some ⟨g,0,none⟩) N c):=(l.cell (p:=⟨w.heap.size,0,none⟩) y).trans al;go_wp2_with fail
  refine(Pw _ _ (nd 64 (Y*q)) (nb+1) _ (c-at_) (Y*q) (X / LB^at_) f x3 x3 bX x3 (YV _) F.out.1.2.1 (Cel.rd0 E bX) S).mono ?_
  rintro e w4 ⟨rfl,m,rfl⟩;have cn:w.grownBy (f.drewN m) (some g):=CB (CA ag l) m;have ca:=E.drewN m;have cb:=R.drewN m;have cp:=bY.drewN m;have cd:=S.drewN m;have cq:(f.drewN m).cell? ⟨w.heap.size,1,none⟩=some (.slice (some ⟨b,off,none⟩) nb d):=I;have cr:(f.drewN m).cell? ⟨w.heap.size,0,none⟩=some (.slice (some ⟨g,0,none⟩) N c):=J;have cV:=l.size;have ct:f.heap.size=(f.drewN m).heap.size:=rfl;have cW:H.heap.size<(f.drewN m).heap.size:=ca.lt;clear aB z bd bi bk bs cc R S bY I J E ct O ag P al D;generalize f.drewN m=w4 at *;go_upto_if 67 with fail
  go_cut [7,9] (λs v wx=>s=.int .u64 ((X / LB^at_ / Y:Nat):Int)/\∃U,v=.slice (some ⟨U,0,none⟩) (nb+1) (nb+1)/\g≠U/\Below w4.heap.size w4 wx/\Cel wx U 206 (nb+1) (Q7 (Y*(X / LB^at_ / Y))))
  case first =>
   by_cases a:X / LB^at_<Y*q
   ·have h1:0<Vg (Y*q) (X / LB^at_):=cmpI_gt.2 a;have cu:=x0f (nY (some ⟨g,0,none⟩) (some ⟨b,off,none⟩) (some ⟨g,at_,none⟩) N c nb d (nb+1) (c-at_) (X / LB^at_) Y q w4 x3 x3 x3 A.out F.out.2.2 F.out.1.2.1 cp cd HQ.out.2 a);clear a;go_wp2_with fail
    refine cu.out.mono ?_
    rintro e w5 ⟨U,rfl,cZ,cw,V⟩;go_wp2
    go_meet
    exact⟨rfl,U,rfl,x3,cw,V⟩
   ·have h1:¬ 0<Vg (Y*q) (X / LB^at_):=λh=>a (cmpI_gt.1 h)
    have HE:=x0f (show q=X / LB^at_ / Y from Ra ((Te F.out.2.2).2 (by rw[Ls];omega)) HQ.out.1);clear a;go_wp2
    go_meet
    exact⟨by rw[<- HE.out],H.heap.size,rfl,x3,p5 _ _,by rw[<- HE.out];exact ca⟩
  case rest =>
   obtain⟨rfl,U,rfl,cy,cf,V⟩:=hcut;have ch:X<LB^(at_+nb+1):=by
    have h1:=HX.out;have h2:Y*LB^(at_+1)<=LB^nb*LB^(at_+1):=Lt _ (Sv A.out);rw[<- Lz,show nb+(at_+1)=at_+nb+1 by omega]at h2;exact L9 h1 h2
   have a:Y*(X / LB^at_ / Y)<=X / LB^at_:=Nat.mul_div_le _ _;have cj:Cel wc g 206 T (CT at_ (nb+1) (Q7 (X / LB^at_)) (Q7 X)):=(cb.bel cf).congr λj _=>by
    unfold CT;by_cases h:at_<=j/\j<at_+(nb+1)
    ·rw[if_pos h];unfold Q7;rw[Vq,show at_+(j-at_)=j by omega]
    ·rw[if_neg h]
   have cA:=x0f (aC g at_ (nb+1) (c-at_) T (nb+1) (nb+1) (X / LB^at_) (Y*(X / LB^at_ / Y)) (some ⟨U,0,none⟩) _ wc x3 x3 cj x3 (Lw a F.out.1.2.1) a F.out.1.2.1 (Cel.rd0 V (L4 _)) (Off.some_ (λe=>cy e.symm)));have HR:=x0f (λj=>mz (j:=j) ch a);clear ch a cj;go_wp2_with fail
   refine cA.out.mono ?_
   rintro e w6 ⟨rfl,cC,cD⟩;go_wp2
   go_ret
   refine⟨rfl,Vr (CA cn cf) cC,cD.congr λj _=>?_⟩;unfold CT Q7;rw[HR.out j];split<;>rfl
