/- The walks and plain laws beneath the statements. -/
import Derived.Test.YtaelfkdjlioegaaGreatDoorQG12
import Derived.Test.YtaelfkdjlioegaaGreatDoorQG14
namespace Go.Proofs.YtaelfkdjlioegaaGreatDoor
open Tryz
set_option maxHeartbeats 4000000
set_option maxRecDepth 100000
open Go.RowKit
theorem Uw(s t:ByteArray)(w:World)(hs:s.size≤268435456)(ht:t.size≤268435456)(h0:Qa t=0):
  Calls prog 115 #[.string s,.string t] w fun e w'=>e=.returned (.tuple #[.string ⟨#[]⟩,.string ⟨#[]⟩,.bool false])∧Below w.heap.size w w':=by
 have cs:=Lib.hid (fun W=>XO s W hs)
 have ct:=Lib.hid (fun W=>XO t W ht)
 rw[h0,Gk]at ct
 clear h0
 go_enter func115,ntmps115
 go_wp2_with fail
 refine(cs.out w).mono ?_
 rintro e w1 ⟨A,c,rfl,hnc,hr,hb⟩
 go_wp2_with fail
 refine(ct.out w1).mono ?_
 rintro e w2 ⟨A',c',rfl,hnc',hr',hb'⟩
 have hbb:=Qj hb hb' hb.size
 go_wp2
 go_ret3
 exact⟨rfl,hbb⟩
theorem d7(s t:ByteArray)(w:World)(hs:s.size≤16777216)(ht:t.size≤16777216)(h0:0<Qa t):
  Calls prog 115 #[.string s,.string t] w fun e w'=>e=.returned (.tuple #[.string (Qx (Qa s / Qa t)),.string (Qx (Qa s % Qa t)),.bool true])∧Below w.heap.size w w':=by
 have B1:=Lib.hid (show nd 1 (Qa s)≤134217728 by have:=Y9 s;omega)
 have B2:=Lib.hid (show nd 1 (Qa t)≤134217728 by have:=Y9 t;omega)
 have l1:=Lib.hid (ZX (Qa s))
 have l2:=Lib.hid (ZX (Qa t))
 have cs:=Lib.hid (fun W=>XO s W (by omega))
 have ct:=Lib.hid (fun W=>XO t W (by omega))
 have hp1:0<nd 1 (Qa t):=Y8 (by omega)
 generalize Qa s=u at *
 generalize Qa t=v at *
 obtain⟨N,hN⟩:∃N,N=nd 1 u:=⟨_,rfl⟩
 obtain⟨M,hM⟩:∃M,M=nd 1 v:=⟨_,rfl⟩
 rw[← hN]at B1 l1 cs
 rw[← hM]at B2 l2 ct hp1
 have HM:=Lib.hid hM
 have hNb:=B1.out
 have hMb:=B2.out
 have hb2:1*N≤281474976710656:=by omega
 have hb3:N≤9223372036854775807:=by omega
 have H0:=Lib.hid h0
 clear hN hM h0
 go_enter func115,ntmps115
 go_wp2_with fail
 refine(cs.out w).mono ?_
 rintro e w1 ⟨A,c,rfl,hnc,hr,hb⟩
 go_wp2_with fail
 refine(ct.out w1).mono ?_
 rintro e w2 ⟨A',c',rfl,hnc',hr',hb'⟩
 have hbb:=Qj hb hb' hb.size
 have hr2:=hr.below hb'
 clear hr hb hb'
 have hr3:=Lib.hid hr2
 go_wp2_with (at_make;refine Q1 rfl (.tmp 20) (.tmp 20) _ rfl 5 (.int .u8 0) 1 X7 Kw rfl .i64 .i64 _ _ N rfl rfl rfl rfl hb2 hb3 ?_;intro w3 hC hB hlt)
 have HBB:=Lib.hid hbb
 have HR':=Lib.hid hr'
 clear hr2 hr' hbb
 go_loopw [10,11] (fun rs i wr=>∃p m cc:Nat,∃A0:Option Addr,p≤N∧i=.int .i64 ((p:Int)-1)∧rs=.slice A0 m cc∧Hid ((A0=none→m=0∧cc=0)∧m=nd 1 (u / 2^p % v)∧m≤cc∧Rd wr A0 m (YQ (u / 2^p % v)))∧Cel wr w2.heap.size 5 N (fun j=>if p≤j then YQ (u / v) j else .int .u8 0)∧Below w2.heap.size w2 wr) (fun _ i _=>(intOf i+1).toNat)
 case atStart=>exact⟨N,0,0,none,L3 _,rfl,rfl,⟨fun _=>⟨rfl,rfl⟩,by rw[Rz l1.out,Nat.zero_mod,Gk],L3 _,Rd.nil_⟩,hC.congr fun j hj=>by rw[if_neg (by omega)],hB⟩
 case round =>
  obtain⟨p,m,cc,A0,hp,rfl,rfl,hX,hC2,hB2⟩:=hrel
  rcases p with _|q
  ·have e0:((0:Nat):Int)-1=-1:=rfl
   rw[e0]
   clear e0
   have hm:=hX.out.2.1
   have hro:=hX.out.2.2.2
   have hmc:=Lib.hid hX.out.2.2.1
   rw[Sl,Nat.div_one]at hm hro
   have hrv:u % v<v:=Ly _ H0.out
   have hml:m≤134217728:=by
    rw[hm];exact L8 (JS (by decide) (T6 hrv)) (by rw[← HM.out];exact hMb)
   have hq2:u / v<2^N:=Lu (Rl _ _) l1.out
   have hr2:u % v<2^m:=by rw[hm];exact ZX _
   have hrq:=(hC2.rd (o:=0) (n:=N) (by omega)).congr (f':=YQ (u / v)) (fun j hj=>by simp only[Ld];rw[if_pos (L9 _)])
   have cq:=Lib.hid (ZL _ N N (u / v) wr (by omega) (L3 _) hq2 hrq)
   have crr:=Lib.hid (fun W (h:Below wr.heap.size wr W)=>ZL A0 m cc (u % v) W (by omega) hmc.out hr2 (hro.below h))
   clear hm hrv hq2 hr2 hrq hro hX hC2
   go_wp2_with fail
   refine cq.out.mono ?_
   rintro e w5 ⟨rfl,hb5⟩
   go_wp2_with fail
   refine(crr.out _ hb5).mono ?_
   rintro e w6 ⟨rfl,hb6⟩
   go_wp2
   go_ret3
   have h1:=Qj HBB.out hB2 HBB.out.size
   have h2:=Qj h1 hb5 h1.size
   exact⟨rfl,Qj h2 hb6 h2.size⟩
  ·have e0:((q+1:Nat):Int)-1=(q:Int):=by omega
   rw[e0]
   clear e0
   obtain⟨b,off,rfl,hc⟩:=hr3.out (by omega)
   have g1:wr.cell? ⟨b,off+q,none⟩=some (.int .u8 (Ql 2 u q:Nat)):=L7 hB2 (hc q (by omega))
   have HC:=Lib.hid hc
   clear hc
   have hdb:Ql 2 u q<2:=Q8 (by decide) _ _
   have HDB:=Lib.hid (gM u v q H0.out)
   have hA0:=Lib.hid hX.out.1
   have hro:=Lib.hid hX.out.2.2.2
   have hrv:u / 2^(q+1) % v<v:=Ly _ H0.out
   have hml:m≤134217728:=by
    rw[hX.out.2.1];exact L8 (JS (by decide) (T6 hrv)) (by rw[← HM.out];exact hMb)
   have hrm:u / 2^(q+1) % v<2^m:=by rw[hX.out.2.1];exact ZX _
   have h63:1+m≤maxLen:=by unfold maxLen;omega
   have hby:(1+m)*1≤140737488355328:=by omega
   obtain⟨X,hXe⟩:∃X,X=2*(u / 2^(q+1) % v)+Ql 2 u q:=⟨_,rfl⟩
   have hXb:X<2^(1+m):=by rw[hXe,Ll 2 1 m,Rn];exact(fun(r d M:Nat) (h1:r<M) (h2:d<2)=>show 2*r+d<2*M by omega) _ _ _ hrm hdb
   have HXB:=Lib.hid (NZ (u / 2^(q+1) % v) (Ql 2 u q) · hdb)
   rw[← hXe]at HDB
   have HXE:=Lib.hid hXe
   have HXL:=Lib.hid hXb
   have hal:=Lib.hid (fun(o:Obj)=>show wr.heap.size≤(wr.alloc o).heap.size by simp)
   have hone:=Lib.hid (OwnR.one wr wr.heap.size 5 (YQ u q) (L3 _))
   have hro2:=Lib.hid (fun(o:Obj)=>hro.out.alloc o)
   clear hX hXe hXb hrv hrm
   go_wp2_with (at_builtin;refine BJ rfl (.tmp 33) (.tmp 34) _ rfl wr.heap.size 5 (.int .u8 0) 1 X7 Kw rfl _ 1 (fun _=>YQ u q) A0 m cc (YQ (u / 2^(q+1) % v)) rfl rfl hA0.out hone.out (hro2.out _) (fun _=>rfl) h63 hby (hal.out _) ?_;intro v4 w4 hown4 hB4 hg4)
   have hown5:OwnR w4 wr.heap.size 5 v4 (1+m) (YQ X):=hown4.congr fun j _=>by
    unfold YQ;rw[HXE.out,HXB.out j];split<;>rfl
   obtain⟨A4,c4,rfl,hnc4,hr4,_⟩:=hown5.rd
   obtain⟨b4,o4,rfl,_⟩:=hr4 (by omega)
   have hB5:Below wr.heap.size wr w4:=((Below.refl _ _).alloc (L3 _) _).trans hB4
   have hC4:=hC2.bel hB5
   have hB6:=Qj hB2 hB5 hB2.size
   have hnX:nd 1 X≤1+m:=QU (by decide) (by rw[Rn];exact HXL.out)
   have ccut:=Lib.hid (D4 _ (1+m) c4 X w4 (by omega) hnc4 HXL.out hr4)
   have hr5:=hr4.of_le hnX
   have hry:=HR'.out.below hB6
   have ccmp:=Lib.hid (DS _ A' (nd 1 X) M c4 c' X v w4 (by omega) (by omega) (ZX X) l2.out hr5 hry)
   have hnc5:nd 1 X≤c4:=by omega
   have HR5:=Lib.hid hr5
   have HRY:=Lib.hid hry
   have HC4:=Lib.hid hC4
   clear hown4 hown5 hg4 hr4 hB4 hB5 hr5 hry hC4 hC2 hB2
   go_wp2_with fail
   refine ccut.out.mono ?_
   rintro e w' ⟨rfl,rfl⟩
   by_cases hlt:X<v
   ·have h1:YM X v<0:=cmpI_lt.2 hlt
    have HE:=Lib.hid (HDB.out.2.1 hlt)
    clear hlt
    go_wp2_with fail
    refine ccmp.out.mono ?_
    rintro e w' ⟨rfl,rfl⟩
    go_wp2
    refine⟨⟨q,nd 1 X,c4,_,by omega,rfl,rfl,⟨(fun h=>by cases h),by rw[HE.out.1],hnc5,by rw[HE.out.1];exact HR5.out⟩,HC4.out.congr fun j hj=>?_,hB6⟩,by simp[intOf]⟩
    by_cases e:j=q
    ·subst e
     rw[if_neg (by omega),if_pos (L3 _)]
     unfold YQ;rw[HE.out.2];rfl
    ·by_cases e2:q≤j
     ·rw[if_pos (by omega),if_pos e2]
     ·rw[if_neg (by omega),if_neg e2]
   ·have h1:0≤YM X v:=by have:=mt cmpI_lt.1 hlt;omega
    have hvX:v≤X:=by omega
    have HE:=Lib.hid (HDB.out.2.2 hvX)
    have cmin:=Lib.hid (EA _ A' (nd 1 X) M c4 c' X v w4 (by omega) (by omega) (ZX X) l2.out hvX HR5.out HRY.out)
    have hsub:X-v<2^nd 1 X:=Lu (U6 _ _) (ZX X)
    have HSUB:=Lib.hid hsub
    clear hlt hvX hsub
    go_wp2_with fail
    refine ccmp.out.mono ?_
    rintro e w' ⟨rfl,rfl⟩
    go_wp2_with fail
    refine cmin.out.mono ?_
    rintro e w6 ⟨g6,rfl,hb6,hg6,hr6⟩
    have ccut2:=Lib.hid (D4 _ (nd 1 X) (nd 1 X) (X-v) w6 (by omega) (L3 _) HSUB.out hr6)
    have hC6:=HC4.out.bel hb6
    have hB7:=Qj hB6 hb6 hB6.size
    have hn6:nd 1 (X-v)≤nd 1 X:=JS (by decide) (U6 _ _)
    have HR6:=Lib.hid (hr6.of_le hn6)
    have g2:w6.cell? ⟨w2.heap.size,q,none⟩=some (.int .u8 0):=by rw[hC6.cell (by omega),if_neg (by omega)]
    have g3:=hC6.frozen q
    have hset:=Lib.hid (hC6.set_ q (.int .u8 1))
    have hfar:=Lib.hid (show ∀(u:Value),Rd (w6.setCell ⟨w2.heap.size,q,none⟩ u) (some ⟨g6,0,none⟩) (nd 1 (X-v)) (YQ (X-v))from fun u=>HR6.out.keep fun p _ hp=>World.cell?_of_block (a:=p) (Sv w6 _ u p.block (fun e=>by
     have h1:p.block=g6:=hp _ rfl
     have h2:p.block=w2.heap.size:=e
     have h3:w2.heap.size<w4.heap.size:=HC4.out.lt
     omega)))
    clear hr6 hC6 hb6
    go_wp2_with fail
    refine ccut2.out.mono ?_
    rintro e w' ⟨rfl,rfl⟩
    go_wp2
    refine⟨⟨q,nd 1 (X-v),nd 1 X,_,by omega,rfl,rfl,⟨(fun h=>by cases h),by rw[HE.out.1],hn6,by rw[HE.out.1];exact hfar.out _⟩,hset.out.congr fun j hj=>?_,hB7.setCell (L3 _) _⟩,by simp[intOf]⟩
    by_cases e:j=q
    ·subst e
     simp only[if_true]
     rw[if_pos (L3 _)]
     unfold YQ;rw[HE.out.2];rfl
    ·simp only[if_neg e]
     by_cases e2:q≤j
     ·rw[if_pos (by omega),if_pos e2]
     ·rw[if_neg (by omega),if_neg e2]
theorem eJ(s t:ByteArray)(w:World)(hs:s.size≤16777216)(ht:t.size≤16777216):
  Calls prog 115 #[.string s,.string t] w fun e w'=>e=.returned (if Qa t=0 then .tuple #[.string ⟨#[]⟩,.string ⟨#[]⟩,.bool false]else .tuple #[.string (Qx (Qa s / Qa t)),.string (Qx (Qa s % Qa t)),.bool true])∧Below w.heap.size w w':=by
 by_cases h0:Qa t=0
 ·rw[if_pos h0];exact Uw s t w (by omega) (by omega) h0
 ·rw[if_neg h0];exact d7 s t w hs ht (by omega)
