/- The walks and plain laws beneath the statements. -/
import Derived.Test.YtaelfkdjlioegaaGreatDoorQG7
import Derived.Deep.DeepCutAuto
import Derived.Deep.CutBlock
namespace Go.Proofs.YtaelfkdjlioegaaGreatDoor
open Tryz
set_option maxHeartbeats 4000000
set_option maxRecDepth 100000
open Go.RowKit
theorem Ba{q a b:Nat}(h:Xv≤q∨a<b): (4294967296:Int)≤(q:Int)∨(¬(4294967296:Int)≤(q:Int)∧(a:Int)<(b:Int)):=by
 rw[YB]at h;omega
theorem OP(lo y:Nat)(w:World)(hy:0<y)(hlo:lo<LB)(_hy2:y<LB):
  Calls prog 194 #[.int .u64 0,.int .u64 (lo:Nat),.int .u64 (y:Nat)] w fun e w'=>e=.returned (.tuple #[.int .u64 ((lo / y:Nat):Int),.int .u64 ((lo % y:Nat):Int)])∧∃k,w'=w.drewN k:=by
 have e1:((y:Int)==0)=false:=R6.2 (by omega)
 have e2:¬(y:Int)≤0:=by omega
 have HL:=Lib.hid hlo
 clear hlo
 go_enter func194,ntmps194
 go_wp2
 go_quiet (fail)
 go_wp2
 have e:IntKind.u64.wrap ((lo:Int) / (y:Int))=((lo / y:Nat):Int):=by
  rw[← U5,IntKind.wrap_u64]
  have h1:=Rl lo y
  have h2:=HL.out
  rw[YW]at h2
  generalize lo / y=q at *
  omega
 rw[e]
 go_ret2
 exact⟨by rw[Int.natCast_emod];rfl,_,rfl⟩
theorem Wa(hi lo y:Nat)(w:World)(hy:9223372036854775808≤y)(hy2:y<LB)(hh:hi<y)(hlo:lo<LB)(h0:0<hi):
  Calls prog 194 #[.int .u64 (hi:Nat),.int .u64 (lo:Nat),.int .u64 (y:Nat)] w fun e w'=>e=.returned (.tuple #[.int .u64 (((hi*LB+lo) / y:Nat):Int),.int .u64 (((hi*LB+lo) % y:Nat):Int)])∧∃k,w'=w.drewN k:=by
 have hlz:=Tryz.bits_LeadingZeros64 y w (by omega) (by rw[YW]at hy2;omega)
 rw[Ro,Oe hy hy2]at hlz
 have HLZ:=Lib.hid hlz
 have e1:((y:Int)==0)=false:=R6.2 (by omega)
 have e2:¬(y:Int)≤hi:=by omega
 have e3:((hi:Int)==0)=false:=R6.2 (by omega)
 have hyw:IntKind.u64.wrap (y:Int)=(y:Int):=by rw[IntKind.wrap_u64];rw[YW]at hy2;omega
 have hhw:IntKind.u64.wrap (hi:Int)=(hi:Int):=by rw[IntKind.wrap_u64];rw[YW]at hy2;omega
 have hlw:IntKind.u64.wrap (lo:Int)=(lo:Int):=by rw[IntKind.wrap_u64];rw[YW]at hlo;omega
 obtain⟨y1,hy1⟩:∃y1,y1=y / 4294967296:=⟨_,rfl⟩
 obtain⟨y0,hy0⟩:∃y0,y0=y % 4294967296:=⟨_,rfl⟩
 obtain⟨u1,hu1⟩:∃u1,u1=lo / 4294967296:=⟨_,rfl⟩
 obtain⟨u0,hu0⟩:∃u0,u0=lo % 4294967296:=⟨_,rfl⟩
 have f1:(y:Int) / 4294967296=(y1:Int):=by omega
 have f2:bits .and .u64 (y:Int) 4294967295=(y0:Int):=by
  have:=u64_and_nat y 4294967295 hy2 (by decide)
  rw[show 4294967295=2^32-1 from rfl,Nat.and_two_pow_sub_one_eq_mod]at this
  rw[hy0];exact this
 have f3:(lo:Int) / 4294967296=(u1:Int):=by omega
 have f4:bits .and .u64 (lo:Int) 4294967295=(u0:Int):=by
  have:=u64_and_nat lo 4294967295 hlo (by decide)
  rw[show 4294967295=2^32-1 from rfl,Nat.and_two_pow_sub_one_eq_mod]at this
  rw[hu0];exact this
 have f5:(lo:Int) / 18446744073709551616=0:=by rw[YW]at hlo;omega
 have f6:bits .or .u64 (hi:Int) 0=(hi:Int):=by
  have:=u64_or_nat hi 0 (by rw[YW]at hy2;omega) (by decide)
  rw[Nat.or_zero]at this
  exact this
 have b1:2147483648≤y1:=by omega
 have b2:y1<4294967296:=by rw[YW]at hy2;omega
 have b3:y0<4294967296:=by omega
 have b4:u1<4294967296:=by rw[YW]at hlo;omega
 have b5:u0<4294967296:=by omega
 have HB:=Lib.hid (show(2147483648≤y1∧y1<4294967296)∧y0<4294967296∧u1<4294967296∧u0<4294967296 from⟨⟨b1,b2⟩,b3,b4,b5⟩)
 have b0:0<y1:=by omega
 clear b1 b2 b3 b4 b5
 have HEY:=Lib.hid (show y=y1*Xv+y0 by rw[YB];omega)
 have HEL:=Lib.hid (show lo=u1*Xv+u0 by rw[YB];omega)
 clear hy1 hy0 hu1 hu0
 have HY:=Lib.hid hy
 have HY2:=Lib.hid hy2
 have HLO:=Lib.hid hlo
 have HH:=Lib.hid hh
 clear hlz hy hy2 hlo hh
 go_enter func194,ntmps194
 go_wp2_with fail
 refine HLZ.out.mono ?_
 rintro e w' ⟨rfl,rfl⟩
 obtain⟨⟨b1,b2⟩,b3,b4,b5⟩:=HB.out
 obtain⟨qa,hqa⟩:∃q,q=hi / y1:=⟨_,rfl⟩
 obtain⟨ra,hra⟩:∃r,r=hi % y1:=⟨_,rfl⟩
 have hya:hi<y1*Xv+y0:=by rw[← HEY.out];exact HH.out
 have hG:=Af (u:=hi) (u1:=u1) b1 b2 b3 hya b4
 rw[← hqa,← hra]at hG
 have f7:IntKind.u64.wrap ((hi:Int) / (y1:Int))=(qa:Int):=by
  have h1:=hG.qle
  rw[YB]at h1
  rw[← U5,← hqa,IntKind.wrap_u64];omega
 have f8:IntKind.u64.wrap ((hi:Int)-IntKind.u64.wrap ((qa:Int)*(y1:Int)))=(ra:Int):=by
  have h1:=hG.eq
  have h2:=hG.rlt
  have h3:=HH.out
  have h4:=HY2.out
  rw[← T3]
  rw[YB]at h2
  rw[YW]at h4
  generalize qa*y1=p at *
  simp only[IntKind.wrap_u64];omega
 have HG:=Lib.hid hG
 clear hqa hra hG hya b1 b2 b3 b4 b5
 go_upto_block 0 with fail
 go_cut [15,16] (fun a b wx=>a=.int .u64 (((hi*Xv+u1) / y:Nat):Int)∧wx=w')
 case first =>
  go_wp2
  go_loop [15,16] (fun a b=>∃q r:Nat,a=.int .u64 (q:Int)∧b=.int .u64 (r:Int)∧Guess hi u1 y1 y0 q r) (fun a _=>(intOf a).toNat)
  case atStart=>exact⟨qa,ra,rfl,rfl,HG.out⟩
  case round =>
   obtain⟨q,r,rfl,rfl,hg⟩:=hrel
   obtain⟨⟨b1,b2⟩,b3,b4,b5⟩:=HB.out
   obtain⟨k1,k2,k3,k4,k5⟩:=B0 hg b2 b3 b4
   have hya:hi<y1*Xv+y0:=by rw[← HEY.out];exact HH.out
   have hb0:0<y1*Xv+y0:=by rw[← HEY.out];have:=HY.out;omega
   obtain⟨r2,hr2⟩:∃r2,r2=r+y1:=⟨_,rfl⟩
   obtain⟨s1,hs1⟩:∃s1,s1=Xv*r:=⟨_,rfl⟩
   obtain⟨s2,hs2⟩:∃s2,s2=Xv*r+u1:=⟨_,rfl⟩
   obtain⟨p,hp⟩:∃p,p=q-1:=⟨_,rfl⟩
   obtain⟨m,hm⟩:∃m,m=q*y0:=⟨_,rfl⟩
   rw[← hr2]at k1
   rw[← hs1]at k2
   rw[← hs2,← hs1]at k3
   rw[← hm]at k4
   rw[← hp]at k5
   by_cases ht:Xv≤q∨Xv*r+u1<q*y0
   ·have hst:=VC hg b3 hya b4 ht
    have k6:=k5 hst.1
    have hm1:p<q:=by have:=hst.1;omega
    by_cases hr:r+y1<Xv
    ·have hn:=A8 hg b3 hya b4 ht hr
     rw[← hp,← hr2]at hn
     have HN:=Lib.hid hn
     have hr4:¬(4294967296:Int)≤(r2:Int):=by rw[hr2];rw[YB]at hr;omega
     have hdec:(4294967296:Int)≤(q:Int)∨(¬(4294967296:Int)≤(q:Int)∧(s2:Int)<(m:Int)):=by rw[hs2,hm];exact Ba ht
     clear hn ht hr hst k5 hr2 hs1 hs2 hp hm hya hb0 hg b1 b2 b3 b4 b5
     rcases hdec with h5|⟨h5,h6⟩
     ·clear k4
      go_wp2
      exact⟨⟨p,r2,rfl,rfl,HN.out⟩,by simp[intOf];omega⟩
     ·have k7:=k4 (by omega)
      clear k4
      go_wp2
      exact⟨⟨p,r2,rfl,rfl,HN.out⟩,by simp[intOf];omega⟩
    ·have hn:=Fx hg b3 hya b4 ht (Se hr)
     rw[← hp]at hn
     rw[← HEY.out]at hn
     have HN:=Lib.hid hn
     have hr4:(4294967296:Int)≤(r2:Int):=by rw[hr2];rw[YB]at hr;omega
     have hdec:(4294967296:Int)≤(q:Int)∨(¬(4294967296:Int)≤(q:Int)∧(s2:Int)<(m:Int)):=by rw[hs2,hm];exact Ba ht
     clear hn ht hr hst k5 hr2 hs1 hs2 hp hm hya hb0 hg b1 b2 b3 b4 b5
     rcases hdec with h5|⟨h5,h6⟩
     ·clear k4
      go_wp2
      go_meet
      exact⟨by rw[HN.out],rfl⟩
     ·have k7:=k4 (by omega)
      clear k4
      go_wp2
      go_meet
      exact⟨by rw[HN.out],rfl⟩
   ·have h5:¬(4294967296:Int)≤(q:Int):=by intro h;exact ht (Or.inl (by rw[YB];omega))
    have h6:¬(s2:Int)<(m:Int):=by rw[hs2,hm];intro h;exact ht (Or.inr (by omega))
    have hn:=Cg hg hb0 (Se fun h=>ht (Or.inr h))
    rw[← HEY.out]at hn
    have HN:=Lib.hid hn
    have k7:=k4 (by omega)
    clear hn ht k5 k4 hr2 hs1 hs2 hp hm hya hb0 hg b1 b2 b3 b4 b5
    go_wp2
    go_meet
    exact⟨by rw[HN.out],rfl⟩
 case rest =>
  obtain⟨rfl,rfl⟩:=hcut
  obtain⟨⟨b1,b2⟩,b3,b4,b5⟩:=HB.out
  have hy0:0<y:=by have:=HY.out;omega
  have f9:=F3 (u:=hi) (u1:=u1) (y:=y) rfl hy0 HY2.out
  have hmod:=Ly (hi*Xv+u1) hy0
  have hrd:=(S8 (hi*Xv+u1) y).symm
  have htd:=OD hi u1 u0 y hy0
  obtain⟨Q,hQ⟩:∃Q,Q=(hi*Xv+u1) / y:=⟨_,rfl⟩
  obtain⟨R,hR⟩:∃R,R=(hi*Xv+u1) % y:=⟨_,rfl⟩
  rw[← hQ,← hR]at f9
  rw[← hR]at hmod
  rw[← hQ,← hR]at htd
  rw[← hQ,← hR]at hrd
  have HRD:=Lib.hid hrd
  clear hrd
  rw[← hQ]
  have hQlt:Q<4294967296:=by
   rw[hQ,Li hy0]
   have h1:=HH.out
   rw[YB];omega
  have HQL:=Lib.hid hQlt
  have HTD:=Lib.hid htd
  have hya:R<y1*Xv+y0:=by rw[← HEY.out];exact hmod
  have hG:=Af (u:=R) (u1:=u0) b1 b2 b3 hya b5
  obtain⟨qb,hqb⟩:∃q,q=R / y1:=⟨_,rfl⟩
  obtain⟨rb,hrb⟩:∃r,r=R % y1:=⟨_,rfl⟩
  rw[← hqb,← hrb]at hG
  have g7:IntKind.u64.wrap ((R:Int) / (y1:Int))=(qb:Int):=by
   have h1:=hG.qle
   rw[YB]at h1
   rw[← U5,← hqb,IntKind.wrap_u64];omega
  have g8:IntKind.u64.wrap ((R:Int)-IntKind.u64.wrap ((qb:Int)*(y1:Int)))=(rb:Int):=by
   have h1:=hG.eq
   have h2:=hG.rlt
   have h4:=HY2.out
   rw[← T3]
   rw[YB]at h2
   rw[YW]at h4
   generalize qb*y1=p at *
   simp only[IntKind.wrap_u64];omega
  have HG2:=Lib.hid hG
  have HMOD:=Lib.hid hmod
  clear HG f7 f8 hqb hrb hG hya htd hQ hR hmod hQlt b1 b2 b3 b4 b5
  go_upto_block 2 with fail
  go_cut [16,18] (fun b a wx=>a=.int .u64 (((R*Xv+u0) / y:Nat):Int)∧wx=wc)
  case first =>
   go_wp2
   go_loop [16,18] (fun b a=>∃q r:Nat,a=.int .u64 (q:Int)∧b=.int .u64 (r:Int)∧Guess R u0 y1 y0 q r) (fun _ a=>(intOf a).toNat)
   case atStart=>exact⟨qb,rb,rfl,rfl,HG2.out⟩
   case round =>
    obtain⟨q,r,rfl,rfl,hg⟩:=hrel
    obtain⟨⟨b1,b2⟩,b3,b4,b5⟩:=HB.out
    obtain⟨k1,k2,k3,k4,k5⟩:=B0 hg b2 b3 b5
    have hya:R<y1*Xv+y0:=by rw[← HEY.out];exact HMOD.out
    have hb0:0<y1*Xv+y0:=by rw[← HEY.out];have:=HY.out;omega
    obtain⟨r2,hr2⟩:∃r2,r2=r+y1:=⟨_,rfl⟩
    obtain⟨s1,hs1⟩:∃s1,s1=Xv*r:=⟨_,rfl⟩
    obtain⟨s2,hs2⟩:∃s2,s2=Xv*r+u0:=⟨_,rfl⟩
    obtain⟨p,hp⟩:∃p,p=q-1:=⟨_,rfl⟩
    obtain⟨m,hm⟩:∃m,m=q*y0:=⟨_,rfl⟩
    rw[← hr2]at k1
    rw[← hs1]at k2
    rw[← hs2,← hs1]at k3
    rw[← hm]at k4
    rw[← hp]at k5
    by_cases ht:Xv≤q∨Xv*r+u0<q*y0
    ·have hst:=VC hg b3 hya b5 ht
     have k6:=k5 hst.1
     have hm1:p<q:=by have:=hst.1;omega
     by_cases hr:r+y1<Xv
     ·have hn:=A8 hg b3 hya b5 ht hr
      rw[← hp,← hr2]at hn
      have HN:=Lib.hid hn
      have hr4:¬(4294967296:Int)≤(r2:Int):=by rw[hr2];rw[YB]at hr;omega
      have hdec:(4294967296:Int)≤(q:Int)∨(¬(4294967296:Int)≤(q:Int)∧(s2:Int)<(m:Int)):=by rw[hs2,hm];exact Ba ht
      clear hn ht hr hst k5 hr2 hs1 hs2 hp hm hya hb0 hg b1 b2 b3 b4 b5
      rcases hdec with h5|⟨h5,h6⟩
      ·clear k4
       go_wp2
       exact⟨⟨p,r2,rfl,rfl,HN.out⟩,by simp[intOf];omega⟩
      ·have k7:=k4 (by omega)
       clear k4
       go_wp2
       exact⟨⟨p,r2,rfl,rfl,HN.out⟩,by simp[intOf];omega⟩
     ·have hn:=Fx hg b3 hya b5 ht (Se hr)
      rw[← hp]at hn
      rw[← HEY.out]at hn
      have HN:=Lib.hid hn
      have hr4:(4294967296:Int)≤(r2:Int):=by rw[hr2];rw[YB]at hr;omega
      have hdec:(4294967296:Int)≤(q:Int)∨(¬(4294967296:Int)≤(q:Int)∧(s2:Int)<(m:Int)):=by rw[hs2,hm];exact Ba ht
      clear hn ht hr hst k5 hr2 hs1 hs2 hp hm hya hb0 hg b1 b2 b3 b4 b5
      rcases hdec with h5|⟨h5,h6⟩
      ·clear k4
       go_wp2
       go_meet
       exact⟨by rw[HN.out],rfl⟩
      ·have k7:=k4 (by omega)
       clear k4
       go_wp2
       go_meet
       exact⟨by rw[HN.out],rfl⟩
    ·have h5:¬(4294967296:Int)≤(q:Int):=by intro h;exact ht (Or.inl (by rw[YB];omega))
     have h6:¬(s2:Int)<(m:Int):=by rw[hs2,hm];intro h;exact ht (Or.inr (by omega))
     have hn:=Cg hg hb0 (Se fun h=>ht (Or.inr h))
     rw[← HEY.out]at hn
     have HN:=Lib.hid hn
     have k7:=k4 (by omega)
     clear hn ht k5 k4 hr2 hs1 hs2 hp hm hya hb0 hg b1 b2 b3 b4 b5
     go_wp2
     go_meet
     exact⟨by rw[HN.out],rfl⟩
  case rest =>
   obtain⟨rfl,rfl⟩:=hcut
   have hy0:0<y:=by have:=HY.out;omega
   obtain⟨q0,hq0⟩:∃q0,q0=(R*Xv+u0) / y:=⟨_,rfl⟩
   have hq0l:q0<4294967296:=by
    rw[hq0,Li hy0]
    have h1:=HMOD.out
    obtain⟨⟨b1,b2⟩,b3,b4,b5⟩:=HB.out
    rw[YB];omega
   have hQl:=HQL.out
   have k1:IntKind.u64.wrap ((Q:Int)*4294967296)=((Q*Xv:Nat):Int):=by rw[IntKind.wrap_u64,YB];omega
   have k2:IntKind.u64.wrap (((Q*Xv:Nat):Int)+(q0:Int))=((Q*Xv+q0:Nat):Int):=by rw[IntKind.wrap_u64];simp only[YB];omega
   have e:(hi*Xv+u1)*Xv+u0=hi*LB+(u1*Xv+u0):=by rw[YW];simp only[YB];omega
   have hfin:Q*Xv+q0=(hi*LB+lo) / y:=by
    rw[hq0,HTD.out,HEL.out,e]
   have k3:=F3 (u:=R) (u1:=u0) (y:=y) hq0 hy0 HY2.out
   have hrem:(R*Xv+u0) % y=(hi*LB+lo) % y:=by
    rw[HEL.out,← e,HRD.out,Rv,Sb,Lw,Nat.mul_add_mod]
   rw[hrem]at k3
   rw[← hq0]
   obtain⟨z,hz⟩:∃z,z=Q*Xv:=⟨_,rfl⟩
   obtain⟨rr,hrr⟩:∃rr,rr=(hi*LB+lo) % y:=⟨_,rfl⟩
   rw[← hz]at k1 k2 hfin
   rw[hfin]at k2
   rw[← hrr]at k3
   have HRR:=Lib.hid hrr
   have k4:(rr:Int) / 2^0=(rr:Int):=by simp
   have HF:=Lib.hid k2
   have HK3:=Lib.hid k3
   clear hq0 hq0l hQl hz hfin k2 e hrem hrr k3
   go_wp2
   rw[HF.out,HK3.out]
   go_ret2
   exact⟨by rw[← HRR.out];rfl,0,rfl⟩
theorem SP(hi lo y:Nat)(w:World)(hy:9223372036854775808≤y)(hy2:y<LB)(hh:hi<y)(hlo:lo<LB):
  Calls prog 194 #[.int .u64 (hi:Nat),.int .u64 (lo:Nat),.int .u64 (y:Nat)] w fun e w'=>e=.returned (.tuple #[.int .u64 (((hi*LB+lo) / y:Nat):Int),.int .u64 (((hi*LB+lo) % y:Nat):Int)])∧∃k,w'=w.drewN k:=by
 rcases Ss hi with h0|h0
 ·subst h0
  have:=OP lo y w (by omega) hlo hy2
  rw[Th,Ld]
  exact this
 ·exact Wa hi lo y w hy hy2 hh hlo h0
theorem cJ(D A' A2:Option Addr)(dn dc nb c' np cp P Y q:Nat)(w:World)(hnb:nb≤1073741824)(hnp:np≤1073741824)(hnpc:np≤cp)(hY:Y<LB^nb)(hY0:0<Y)(hP:P<LB^np)(hr:Rd w A' nb (QQ Y))(hrp:Rd w A2 np (QQ P))(hq:q<LB)(hgt:P<Y*q):
  Calls prog 195 #[.agg #[.slice D dn dc,.slice A' nb c'],.slice A2 np cp,.int .u64 (q:Nat)] w fun e w'=>∃g,e=.returned (.tuple #[.int .u64 ((P / Y:Nat):Int),.slice (some ⟨g,0,none⟩) (nb+1) (nb+1)]) ∧
   w.heap.size≤g∧Below w.heap.size w w'∧Cel w' g 119 (nb+1) (QQ (Y*(P / Y))):=by
 have HQ:=Lib.hid (show P / Y<q∧q<LB from⟨by rw[Li hY0,Lh];exact hgt,hq⟩)
 have HY:=Lib.hid hY
 have HY0:=Lib.hid hY0
 have HP:=Lib.hid hP
 have hb2:8*(nb+1)≤281474976710656:=by omega
 have hb3:nb+1≤9223372036854775807:=by omega
 clear hq hgt hY hY0 hP
 go_enter func195,ntmps195
 go_wp2
 have hb0:Below w.heap.size w (w.alloc (.cells #[.slice D dn dc,.slice A' nb c'] 204)):=(Below.refl _ _).alloc (L3 _) _
 have hbox:(w.alloc (.cells #[.slice D dn dc,.slice A' nb c'] 204)).cell? ⟨w.heap.size,1,none⟩=some (.slice A' nb c'):=by
  rw[World.cell?_alloc_at _ _ _ _ rfl];rfl
 have hbl:w.heap.size<(w.alloc (.cells #[.slice D dn dc,.slice A' nb c'] 204)).heap.size:=by simp
 generalize w.alloc (.cells #[.slice D dn dc,.slice A' nb c'] 204)=w0 at *
 have hr0:=hr.below hb0
 have hp0:=hrp.below hb0
 clear hr hrp
 go_loopw [2] (fun s wr=>∃q:Nat,s=.int .u64 (q:Int)∧Hid (P / Y<q∧q<LB)∧Below w0.heap.size w0 wr) (fun s _=>(intOf s).toNat)
 case atStart=>exact⟨q,rfl,HQ.out,Below.refl _ _⟩
 case round =>
  obtain⟨k,rfl,hk,hB⟩:=hrel
  have hbx:wr.cell? ⟨w.heap.size,1,none⟩=some (.slice A' nb c'):=(hB.cell (p:=⟨w.heap.size,1,none⟩) hbl).trans hbox
  obtain⟨p,hp⟩:∃p,k=p+1:=⟨k-1,by have:=Lu (L9 _) hk.out.1;omega⟩
  have hpw:IntKind.u64.wrap ((k:Int)-1)=(p:Int):=by
   have:=hk.out.2
   rw[YW]at this
   rw[IntKind.wrap_u64];omega
  have HK:=Lib.hid (show P / Y≤p∧p<LB∧p<k from⟨by have:=hk.out.1;omega,by have:=hk.out.2;omega,by omega⟩)
  clear hp hk
  go_wp2_with (at_make;refine Q1 rfl (.tmp 14) (.tmp 14) _ rfl 119 (.int .u64 0) 8 YJ Kf rfl .i64 .i64 _ _ (nb+1) rfl rfl rfl rfl hb2 hb3 ?_;intro w1 hC1 hB1 hlt1;have hbx1:w1.cell? ⟨w.heap.size,1,none⟩=some (.slice A' nb c'):=(hB1.cell (p:=⟨w.heap.size,1,none⟩) (Lb hbl hB.size)).trans hbx)
  have hr1:=(hr0.below hB).below hB1
  have hp1:=(hp0.below hB).below hB1
  have hC2:Cel w1 wr.heap.size 119 (nb+1) (G8 0 (nb+1) (QQ 0) (QQ 0)):=hC1.congr fun j hj=>by
   have:=Gi 0 (nb+1) (QQ 0) j
   simp only[Ld]at this
   rw[this];unfold QQ;rw[ZV];rfl
  have ho:Off A' wr.heap.size:=by
   intro a ha hb
   rcases Ss nb with h0|h0
   ·have h1:=HY.out
    have h2:=HY0.out
    rw[h0,Sl]at h1
    omega
   ·obtain⟨b,off,e,hc⟩:=hr0 h0
    rw[e]at ha
    injection ha with ha
    subst ha
    have:=Ky (hc 0 h0)
    have h3:=hB.size
    simp at hb this
    omega
  go_wp2_with fail
  refine(Ei wr.heap.size 0 (nb+1) (nb+1) (nb+1) nb c' 0 Y p A' _ w1 (by omega) (by omega) hC2 (by omega) HK.out.2.1 HY.out hr1 ho).mono ?_
  rintro e w2 ⟨rfl,hg2,hC3⟩
  rw[Ld]at hC3
  have hC4:=hC3.congr (f':=QQ (Y*p)) fun j hj=>by
   have:=Gi 0 (nb+1) (QQ (Y*p)) j
   simp only[Ld]at this
   unfold G8 at *
   rw[if_pos ⟨by omega,by omega⟩,Nat.sub_zero]
  have hlt2:Y*p<LB^(nb+1):=by
   rw[Lx]
   exact Lb (R9 HY.out (Lu (L9 _) HK.out.2.1) |> fun _=>U8 HY.out HK.out.2.1) (L3 _)
  have cc:=Lib.hid (ZU (some ⟨wr.heap.size,0,none⟩) (nb+1) (nb+1) (Y*p) w2 hb3 (L3 _) hlt2 (Cel.rd0 hC4 (L3 _)))
  have hnd:nd 64 (Y*p)≤nb+1:=CL hlt2
  clear hlt2 hC3
  go_wp2_with fail
  refine cc.out.mono ?_
  rintro e w3 ⟨rfl,rfl⟩
  have hB3:Below w0.heap.size w0 w2:=by
   have h1:=Qj hB hB1 hB.size
   exact YC h1 hg2 h1.size hB.size
  go_wp2_with fail
  refine(Hc _ A2 (nd 64 (Y*p)) np _ cp (Y*p) P w2 (by omega) (by omega) hnd hnpc (X8 _) HP.out (Cel.rd0 hC4 hnd) (hp0.below hB3)).mono ?_
  rintro e w4 ⟨rfl,m,rfl⟩
  by_cases hle:P<Y*p
  ·have h1:¬ YM (Y*p) P≤0:=by have:=cmpI_gt.2 hle;omega
   have HL:=Lib.hid hle
   clear hle
   go_wp2
   refine⟨⟨p,rfl,⟨by rw[Li HY0.out,Lh];exact HL.out,HK.out.2.1⟩,YO hB3 m⟩,by simp[intOf];exact HK.out.2.2⟩
  ·have h1:YM (Y*p) P≤0:=by
    have:¬ 0<YM (Y*p) P:=fun h=>hle (cmpI_gt.1 h)
    omega
   have HL:=Lib.hid (show p=P / Y from So ((Sq HY0.out).2 (by rw[Lh];omega)) HK.out.1)
   clear hle
   go_wp2
   go_ret2
   refine⟨wr.heap.size,by rw[← HL.out];rfl,L8 hb0.size hB.size,?_,?_⟩
   ·exact YO (Qj hb0 hB3 hb0.size) m
   ·rw[← HL.out];exact hC4.drewN m
theorem SK(A':Option Addr)(g N c nb c' T X Y at_:Nat)(w:World)(hN:N≤1073741824)(hNc:N≤c)(hNT:N≤T)(hnb:0<nb)(hat:at_+nb<N)(hX:X<Y*LB^(at_+1))(hY:LB^(nb-1)*9223372036854775808≤Y)(hY2:Y<LB^nb)(hC:Cel w g 119 T (QQ X))(hr:Rd w A' nb (QQ Y))(ho:Off A' g):
  Calls prog 184 #[.agg #[.slice (some ⟨g,0,none⟩) N c,.slice A' nb c'],.int .i64 (at_:Nat)] w fun e w'=>e=.returned (.int .u64 ((X / LB^at_ / Y:Nat):Int)) ∧
   w.grownBy w' (some g)∧Cel w' g 119 T (QQ (X-LB^at_*(Y*(X / LB^at_ / Y)))):=by
 obtain⟨t1,t2,t3,t4,t5,t6⟩:=RU hnb hX hY hY2
 have hgl:=hC.lt
 have HT:=Lib.hid (show(X / LB^at_<Y*LB∧X / LB^at_<LB^(nb+1)∧9223372036854775808≤Ql LB Y (nb-1))∧X / LB^at_ / Y<LB∧0<Y from⟨⟨t1,t2,t3⟩,t5,t6⟩)
 have HT4:=Lib.hid t4
 have HX:=Lib.hid hX
 have HY:=Lib.hid hY
 have HY2:=Lib.hid hY2
 clear t1 t2 t3 t4 t5 t6 hX hY hY2
 go_enter func184,ntmps184
 go_upto_region 1 with fail
 have hg0:w.grownBy (w.alloc (.cells #[.slice (some ⟨g,0,none⟩) N c,.slice A' nb c'] 204)) (some g):=grownBy_alloc (World.grownBy.refl _ _) _
 have hbox0:(w.alloc (.cells #[.slice (some ⟨g,0,none⟩) N c,.slice A' nb c'] 204)).cell? ⟨w.heap.size,0,none⟩=some (.slice (some ⟨g,0,none⟩) N c):=by
  rw[World.cell?_alloc_at _ _ _ _ rfl];rfl
 have hbox1:(w.alloc (.cells #[.slice (some ⟨g,0,none⟩) N c,.slice A' nb c'] 204)).cell? ⟨w.heap.size,1,none⟩=some (.slice A' nb c'):=by
  rw[World.cell?_alloc_at _ _ _ _ rfl];rfl
 have hbl:w.heap.size<(w.alloc (.cells #[.slice (some ⟨g,0,none⟩) N c,.slice A' nb c'] 204)).heap.size:=by simp
 have hC0:=hC.alloc (.cells #[.slice (some ⟨g,0,none⟩) N c,.slice A' nb c'] 204)
 have hr0:=hr.alloc (.cells #[.slice (some ⟨g,0,none⟩) N c,.slice A' nb c'] 204)
 clear hC hr
 generalize w.alloc (.cells #[.slice (some ⟨g,0,none⟩) N c,.slice A' nb c'] 204)=w0 at *
 obtain⟨b,off,rfl,hc⟩:=hr0 hnb
 have g1:w0.cell? ⟨g,at_+nb,none⟩=some (.int .u64 (Ql LB X (at_+nb):Nat)):=hC0.cell (by omega)
 have g2:w0.cell? ⟨b,off+(nb-1),none⟩=some (.int .u64 (Ql LB Y (nb-1):Nat)):=hc (nb-1) (by omega)
 have g3:w0.cell? ⟨g,at_+nb-1,none⟩=some (.int .u64 (Ql LB X (at_+nb-1):Nat)):=hC0.cell (by omega)
 have hnb1:1≤nb:=hnb
 clear hc
 go_upto_if 27 with fail
 go_cut [7] (fun s wx=>∃q:Nat,s=.int .u64 (q:Int)∧X / LB^at_ / Y≤q∧q<LB∧∃k,wx=w0.drewN k)
 case first =>
  by_cases hlt:Ql LB X (at_+nb)<Ql LB Y (nb-1)
  ·have hd:=Lib.hid (SP (Ql LB X (at_+nb)) (Ql LB X (at_+nb-1)) (Ql LB Y (nb-1)) · HT.out.1.2.2 (Q8 Qu _ _) hlt (Q8 Qu _ _))
   have HL:=Lib.hid (HT4.out hlt)
   have hlt':((Ql LB X (at_+nb):Nat):Int)<((Ql LB Y (nb-1):Nat):Int):=by omega
   clear hlt
   have v1:IntKind.i64.wrap ((at_:Int)+(nb:Int))=(at_:Int)+(nb:Int):=Ln _ (by omega)
   have v2:IntKind.i64.wrap ((at_:Int)+(nb:Int)-1)=(at_:Int)+(nb:Int)-1:=Ln _ (by omega)
   have v3:IntKind.i64.wrap ((nb:Int)-1)=(nb:Int)-1:=Ln _ (by omega)
   have v4:(0:Int)≤(at_:Int)+(nb:Int)-1:=by omega
   have v5:(at_:Int)+(nb:Int)-1<(N:Int):=by omega
   have v6:((at_:Int)+(nb:Int)-1).toNat=at_+nb-1:=by omega
   have v7:(0:Int)≤(nb:Int)-1:=by omega
   have v8:(nb:Int)-1<(nb:Int):=by omega
   have v9:((nb:Int)-1).toNat=nb-1:=by omega
   go_wp2
   go_quiet ((go_at_call 194;exact Calls.quiet_of (hd.out _)))
   go_wp2
   go_meet
   exact⟨_,rfl,HL.out.1,HL.out.2,_,rfl⟩
  ·have hlt':¬((Ql LB X (at_+nb):Nat):Int)<((Ql LB Y (nb-1):Nat):Int):=by omega
   clear hlt
   go_wp2
   go_meet
   exact⟨18446744073709551615,rfl,Nat.le_sub_one_of_lt HT.out.2.1,by decide,0,rfl⟩
 case rest =>
  obtain⟨q,rfl,hq1,hq2,k,rfl⟩:=hcut
  have hC1:=hC0.drewN k
  have hg1:=GZ hg0 k
  have hb1:(w0.drewN k).cell? ⟨w.heap.size,1,none⟩=some (.slice (some ⟨b,off,none⟩) nb c'):=hbox1
  have hb0:(w0.drewN k).cell? ⟨w.heap.size,0,none⟩=some (.slice (some ⟨g,0,none⟩) N c):=hbox0
  have hr1:=hr0.drewN k
  have hbl1:w.heap.size<(w0.drewN k).heap.size:=hbl
  have HQ:=Lib.hid (show X / LB^at_ / Y≤q∧q<LB from⟨hq1,hq2⟩)
  clear hC0 hg0 hbox0 hbox1 hr0 hbl g1 g2 g3 hq1 hq2
  generalize w0.drewN k=w1 at *
  have hb2:8*(nb+1)≤281474976710656:=by omega
  have hb3:nb+1≤9223372036854775807:=by omega
  have hac:at_<c:=by omega
  have hac2:at_+nb+1≤c:=by omega
  go_wp2_with (at_make;refine Q1 rfl (.tmp 56) (.tmp 56) _ rfl 119 (.int .u64 0) 8 YJ Kf rfl .i64 .i64 _ _ (nb+1) rfl rfl rfl rfl hb2 hb3 ?_;intro w2 hC2 hB2 hlt2;have hbx2:w2.cell? ⟨w.heap.size,1,none⟩=some (.slice (some ⟨b,off,none⟩) nb c'):=(hB2.cell (p:=⟨w.heap.size,1,none⟩) hbl1).trans hb1)
  rw[show at_+nb+1-at_=nb+1 by omega]
  have hr2:=hr1.below hB2
  have hC3:Cel w2 w1.heap.size 119 (nb+1) (G8 0 (nb+1) (QQ 0) (QQ 0)):=hC2.congr fun j hj=>by
   have:=Gi 0 (nb+1) (QQ 0) j
   simp only[Ld]at this
   rw[this];unfold QQ;rw[ZV];rfl
  have hgl1:=hC1.lt
  have hbl:b<w1.heap.size:=by
   obtain⟨b',off',e,hc⟩:=hr1 hnb
   injection e with e
   injection e with e1
   have:=Ky (hc 0 hnb)
   simp at this;omega
  refine(Ei w1.heap.size 0 (nb+1) (nb+1) (nb+1) nb c' 0 Y q _ _ w2 (by omega) (by omega) hC3 (by omega) HQ.out.2 HY2.out hr2 (Off.some_ (by omega))).mono ?_
  rintro e w3 ⟨rfl,hg3,hC4⟩
  rw[Ld]at hC4
  have hC5:=hC4.congr (f':=QQ (Y*q)) fun j hj=>by
   unfold G8
   rw[if_pos ⟨by omega,by omega⟩,Nat.sub_zero]
  have hlt5:Y*q<LB^(nb+1):=by
   rw[Lx]
   exact U8 HY2.out HQ.out.2
  have cc:=Lib.hid (ZU (some ⟨w1.heap.size,0,none⟩) (nb+1) (nb+1) (Y*q) w3 hb3 (L3 _) hlt5 (Cel.rd0 hC5 (L3 _)))
  have hnd:nd 64 (Y*q)≤nb+1:=CL hlt5
  have H5:=Lib.hid hlt5
  clear hlt5 hC3 hC4
  go_wp2_with fail
  refine cc.out.mono ?_
  rintro e w4 ⟨rfl,rfl⟩
  have hB3:Below w1.heap.size w1 w3:=YC hB2 hg3 hB2.size (L3 _)
  have hCg:Cel w3 g 119 T (QQ X):=hC1.bel hB3
  have hrp:Rd w3 (some ⟨g,at_,none⟩) (nb+1) (QQ (X / LB^at_)):=(hCg.rd (o:=at_) (n:=nb+1) (by omega)).congr fun j _=>by unfold QQ;rw[JA]
  have hr3:=hr1.below hB3
  have hbx3:w3.cell? ⟨w.heap.size,1,none⟩=some (.slice (some ⟨b,off,none⟩) nb c'):=(hB3.cell (p:=⟨w.heap.size,1,none⟩) hbl1).trans hb1
  have hbx0:w3.cell? ⟨w.heap.size,0,none⟩=some (.slice (some ⟨g,0,none⟩) N c):=(hB3.cell (p:=⟨w.heap.size,0,none⟩) hbl1).trans hb0
  go_wp2_with fail
  refine(Hc _ _ (nd 64 (Y*q)) (nb+1) _ (c-at_) (Y*q) (X / LB^at_) w3 (by omega) (by omega) hnd (by omega) (X8 _) HT.out.1.2.1 (Cel.rd0 hC5 hnd) hrp).mono ?_
  rintro e w4 ⟨rfl,m,rfl⟩
  have hg4:w.grownBy (w3.drewN m) (some g):=GZ (G3 hg1 hB3) m
  have hC6:=hC5.drewN m
  have hCg4:=hCg.drewN m
  have hr4:=hr3.drewN m
  have hrp4:=hrp.drewN m
  have hbx14:(w3.drewN m).cell? ⟨w.heap.size,1,none⟩=some (.slice (some ⟨b,off,none⟩) nb c'):=hbx3
  have hbx04:(w3.drewN m).cell? ⟨w.heap.size,0,none⟩=some (.slice (some ⟨g,0,none⟩) N c):=hbx0
  have hs3:=hB3.size
  have hs4:w3.heap.size=(w3.drewN m).heap.size:=rfl
  have hs5:w1.heap.size<(w3.drewN m).heap.size:=hC6.lt
  clear hC2 hB2 hlt2 hbx2 hr2 hg3 cc hCg hrp hr3 hbx3 hbx0 hC5 hs4 hC1 hg1 hb1 hb0 hr1
  generalize w3.drewN m=w4 at *
  go_upto_if 67 with fail
  go_cut [7,9] (fun s v wx=>s=.int .u64 ((X / LB^at_ / Y:Nat):Int)∧∃gm,v=.slice (some ⟨gm,0,none⟩) (nb+1) (nb+1)∧g≠gm∧Below w4.heap.size w4 wx∧Cel wx gm 119 (nb+1) (QQ (Y*(X / LB^at_ / Y))))
  case first =>
   by_cases hle:X / LB^at_<Y*q
   ·have h1:0<YM (Y*q) (X / LB^at_):=cmpI_gt.2 hle
    have hls:=Lib.hid (cJ (some ⟨g,0,none⟩) (some ⟨b,off,none⟩) (some ⟨g,at_,none⟩) N c nb c' (nb+1) (c-at_) (X / LB^at_) Y q w4 (by omega) (by omega) (by omega) HY2.out HT.out.2.2 HT.out.1.2.1 hr4 hrp4 HQ.out.2 hle)
    clear hle
    go_wp2_with fail
    refine hls.out.mono ?_
    rintro e w5 ⟨gm,rfl,hgm,hb5,hCm⟩
    go_wp2
    go_meet
    exact⟨rfl,gm,rfl,by omega,hb5,hCm⟩
   ·have h1:¬ 0<YM (Y*q) (X / LB^at_):=fun h=>hle (cmpI_gt.1 h)
    have HE:=Lib.hid (show q=X / LB^at_ / Y from So ((Sq HT.out.2.2).2 (by rw[Lh];omega)) HQ.out.1)
    clear hle
    go_wp2
    go_meet
    exact⟨by rw[← HE.out],w1.heap.size,rfl,by omega,Below.refl _ _,by rw[← HE.out];exact hC6⟩
  case rest =>
   obtain⟨rfl,gm,rfl,hne,hB5,hCm⟩:=hcut
   have hX2:X<LB^(at_+nb+1):=by
    have h1:=HX.out
    have h2:Y*LB^(at_+1)≤LB^nb*LB^(at_+1):=Lo _ (T6 HY2.out)
    rw[← Ll,show nb+(at_+1)=at_+nb+1 by omega]at h2
    exact Lb h1 h2
   have hle:Y*(X / LB^at_ / Y)≤X / LB^at_:=Nat.mul_div_le _ _
   have hC7:Cel wc g 119 T (G8 at_ (nb+1) (QQ (X / LB^at_)) (QQ X)):=(hCg4.bel hB5).congr fun j _=>by
    unfold G8
    by_cases h:at_≤j∧j<at_+(nb+1)
    ·rw[if_pos h];unfold QQ;rw[JA,show at_+(j-at_)=j by omega]
    ·rw[if_neg h]
   have htk:=Lib.hid (MD g at_ (nb+1) (c-at_) T (nb+1) (nb+1) (X / LB^at_) (Y*(X / LB^at_ / Y)) (some ⟨gm,0,none⟩) _ wc (by omega) (by omega) hC7 (by omega) (Lu hle HT.out.1.2.1) hle HT.out.1.2.1 (Cel.rd0 hCm (L3 _)) (Off.some_ (fun e=>hne e.symm)))
   have HR:=Lib.hid (fun j=>eU (j:=j) hX2 hle)
   clear hX2 hle hC7
   go_wp2_with fail
   refine htk.out.mono ?_
   rintro e w6 ⟨rfl,hg6,hC8⟩
   go_wp2
   go_ret
   refine⟨rfl,JB (G3 hg4 hB5) hg6,hC8.congr fun j _=>?_⟩
   unfold G8 QQ
   rw[HR.out j]
   split<;>rfl
