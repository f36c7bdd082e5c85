/- The walks and plain laws beneath the statements. -/
import Derived.Test.YtaelfkdjlioegaaGreatDoorQG11
import Derived.Test.YtaelfkdjlioegaaGreatDoorQG7
namespace Go.Proofs.YtaelfkdjlioegaaGreatDoor
open Tryz
set_option maxHeartbeats 4000000
set_option maxRecDepth 100000
open Go.RowKit
theorem bJ(s:ByteArray)(n:Int)(w:World)(hs:s.size≤268435456)(hn:n≤1073741824):
  Calls prog 177 #[.string s,.int .i64 n] w fun e w'=>e=.returned (.string (Qx (Qa s*2^n.toNat)))∧Below w.heap.size w w':=by
 have B1:=Lib.hid (show nd 1 (Qa s)≤2147483648 by have:=Y9 s;omega)
 have l1:=Lib.hid (ZX (Qa s))
 have cs:=Lib.hid (fun W=>XO s W hs)
 generalize Qa s=V at *
 have hm:=In n
 have hup:=Lib.hid (show n.toNat≤1073741824 by omega)
 generalize n.toNat=up at *
 go_enter func177,ntmps177
 go_wp2_with fail
 refine(cs.out w).mono ?_
 rintro e w1 ⟨A,c,rfl,hnc,hr,hb⟩
 go_wp2_with fail
 refine(Br none A 0 _ 0 c 0 V up w1 (L9 _) (by have:=B1.out;omega) (by have:=hup.out;omega) (Lq 0) l1.out Rd.nil_ hr).mono ?_
 rintro e w2 ⟨g,N,rfl,hb2,hg,hr2,hlt,hN⟩
 rw[Ld]at hr2 hlt
 have hB2:=Qj hb hb2 hb.size
 have HN:=Lib.hid (show N≤4294967296 by have:=B1.out;have:=hup.out;omega)
 have HL:=Lib.hid hlt
 clear hN hlt
 go_wp2_with fail
 refine(ZL _ N N _ w2 HN.out (L3 _) HL.out hr2).mono ?_
 rintro e w3 ⟨rfl,hb3⟩
 go_wp2
 go_ret
 exact⟨rfl,Qj hB2 hb3 hB2.size⟩
theorem W7(s t:ByteArray)(w:World)(hs:s.size≤16777216)(ht:t.size≤16777216):
  Calls prog 178 #[.string s,.string t] w fun e w'=>e=.returned (.string (Qx (Qa s*Qa t)))∧Below w.heap.size w w':=by
 have b1:nd 1 (Qa s)≤134217728:=by have:=Y9 s;omega
 have B2:=Lib.hid (show nd 1 (Qa t)≤134217728 by have:=Y9 t;omega)
 have l1:=Lib.hid (ZX (Qa s))
 have l2:=Lib.hid (ZX (Qa t))
 have cs:=Lib.hid (fun W=>XO s W (by omega))
 have ct:=Lib.hid (fun W=>XO t W (by omega))
 generalize Qa s=u at *
 generalize Qa t=v at *
 go_enter func178,ntmps178
 go_wp2_with fail
 refine(cs.out w).mono ?_
 rintro e w1 ⟨A,c,rfl,hnc,hr,hb⟩
 go_wp2_with fail
 refine(ct.out w1).mono ?_
 rintro e w2 ⟨A',c',rfl,hnc',hr',hb'⟩
 have hbb:=Qj hb hb' hb.size
 have hr2:=hr.below hb'
 clear hr hb hb'
 go_wp2
 go_loopw [7,8] (fun o i wr=>∃k n cc:Nat,∃A0:Option Addr,k≤nd 1 u∧i=.int .i64 (k:Nat)∧o=.slice A0 n cc∧Hid (n≤cc∧n≤nd 1 v+k∧(u % 2^k)*v<2^n)∧Rd wr A0 n (YQ ((u % 2^k)*v))∧Below w2.heap.size w2 wr) (fun _ i _=>nd 1 u-(intOf i).toNat)
 case atStart=>exact⟨0,0,0,none,L9 _,rfl,rfl,⟨L3 _,L9 _,by rw[Sl,Ty,Th];decide⟩,Rd.nil_,Below.refl _ _⟩
 case round =>
  obtain⟨k,n,cc,A0,hk,rfl,rfl,hX,hro,hB⟩:=hrel
  by_cases hlt:k<nd 1 u
  ·obtain⟨b,off,rfl,hc⟩:=hr2 (by omega)
   have g1:wr.cell? ⟨b,off+k,none⟩=some (.int .u8 (Ql 2 u k:Nat)):=L7 hB (hc k hlt)
   have hstep:=YP 2 u k
   have HC:=Lib.hid hc
   have hrt:=hr'.below hB
   by_cases hd:Ql 2 u k=0
   ·have hd0:(((Ql 2 u k:Nat):Int)==1)=false:=by rw[hd];rfl
    have HS:=Lib.hid (show u % 2^(k+1)=u % 2^k by rw[hstep,hd,Nat.mul_zero,U2])
    clear hd hstep hc
    go_wp2
    exact⟨⟨k+1,n,cc,A0,hlt,by go_num,rfl,⟨hX.out.1,by have:=hX.out.2.1;omega,by rw[HS.out];exact hX.out.2.2⟩,by rw[HS.out];exact hro,hB⟩,by simp[intOf];omega⟩
   ·have hdb:Ql 2 u k<2:=Q8 (by decide) _ _
    have hd1:Ql 2 u k=1:=by omega
    have hd0:(((Ql 2 u k:Nat):Int)==1)=true:=by rw[hd1];rfl
    have HS:=Lib.hid (show u % 2^(k+1)*v=u % 2^k*v+v*2^k by rw[hstep,hd1,Si,Rv,Lh (2^k)])
    have cp:=Lib.hid (Br A0 A' n (nd 1 v) cc c' _ v k wr (by have:=hX.out.2.1;have:=B2.out;omega) (by have:=B2.out;omega) (by omega) hX.out.2.2 l2.out hro hrt)
    clear hd hstep hc hd1
    go_wp2_with fail
    refine cp.out.mono ?_
    rintro e w4 ⟨g,N,rfl,hb4,hg,hr4,hf4,hN⟩
    have HF:=Lib.hid hf4
    have HN:=Lib.hid hN
    clear hf4 hN
    go_wp2
    exact⟨⟨k+1,N,N,_,hlt,by go_num,rfl,⟨L3 _,by have:=hX.out.2.1;have:=HN.out;omega,by rw[HS.out];exact HF.out⟩,by rw[HS.out];exact hr4,Qj hB hb4 hB.size⟩,by simp[intOf];omega⟩
  ·obtain rfl:k=nd 1 u:=by omega
   rw[Lz l1.out]at hro hX
   have ctx:=Lib.hid (ZL A0 n cc _ wr (by have:=hX.out.2.1;have:=B2.out;omega) hX.out.1 hX.out.2.2 hro)
   go_wp2_with fail
   refine ctx.out.mono ?_
   rintro e w5 ⟨rfl,hb5⟩
   go_wp2
   go_ret
   have hb6:=Qj hbb hB hbb.size
   exact⟨rfl,Qj hb6 hb5 hb6.size⟩
theorem eK(A:Option Addr)(n c:Nat)(ss:Nat→ByteArray)(w:World)(hn:n≤1048576)(hs:∀j,(ss j).size≤16777216)(hrl:Rd w A n fun j=>.string (ss j)):
  Calls prog 140 #[.slice A n c] w fun e w'=>e=.returned (.string (Qx (Zf (fun j=>Qa (ss j)) n)))∧Below w.heap.size w w':=by
 have hnb:∀j,nd 1 (Qa (ss j))≤134217728:=fun j=>by have:=Y9 (ss j);have:=hs j;omega
 have HNB:=Lib.hid hnb
 have cs:=Lib.hid (fun j W=>XO (ss j) W (by have:=hs j;omega))
 clear hs hnb
 go_enter func140,ntmps140
 go_wp2
 go_loopw [3,4] (fun o i wr=>∃k m cc:Nat,∃A0:Option Addr,k≤n∧i=.int .i64 (k:Nat)∧o=.slice A0 m cc∧Hid (m≤cc∧m≤134217728+k∧Zf (fun j=>Qa (ss j)) k<2^m)∧Rd wr A0 m (YQ (Zf (fun j=>Qa (ss j)) k))∧Below w.heap.size w wr) (fun _ i _=>n-(intOf i).toNat)
 case atStart=>exact⟨0,0,0,none,L9 _,rfl,rfl,⟨L3 _,L9 _,by show 0<2^0;decide⟩,Rd.nil_,Below.refl _ _⟩
 case round =>
  obtain⟨k,m,cc,A0,hk,rfl,rfl,hX,hro,hB⟩:=hrel
  by_cases hlt:k<n
  ·obtain⟨b,off,rfl,hc⟩:=hrl (by omega)
   have g1:wr.cell? ⟨b,off+k,none⟩=some (.string (ss k)):=L7 hB (hc k hlt)
   have HC:=Lib.hid hc
   have HNk:=Lib.hid (HNB.out k)
   have HS:=Lib.hid (show Zf (fun j=>Qa (ss j)) (k+1)=Zf (fun j=>Qa (ss j)) k+Qa (ss k)*2^0 by rw[Sl,Si];rfl)
   have ck:=Lib.hid (cs.out k wr)
   have l2:=Lib.hid (ZX (Qa (ss k)))
   clear hc hrl
   generalize Qa (ss k)=v at *
   go_wp2_with fail
   refine ck.out.mono ?_
   rintro e w3 ⟨A',c',rfl,hnc',hr',hb3⟩
   have hB3:=Qj hB hb3 hB.size
   have cp:=Lib.hid (Br A0 A' m (nd 1 v) cc c' _ v 0 w3 (by have:=hX.out.2.1;omega) (by have:=HNk.out;omega) (by omega) hX.out.2.2 l2.out (hro.below hb3) hr')
   clear hro hr' hb3 hB
   go_wp2_with fail
   refine cp.out.mono ?_
   rintro e w4 ⟨g,N,rfl,hb4,hg,hr4,hf4,hN⟩
   have HF:=Lib.hid hf4
   have HN:=Lib.hid hN
   clear hf4 hN
   go_wp2
   exact⟨⟨k+1,N,N,_,hlt,by go_num,rfl,⟨L3 _,by have:=hX.out.2.1;have:=HN.out;have:=HNk.out;omega,by rw[HS.out];exact HF.out⟩,by rw[HS.out];exact hr4,Qj hB3 hb4 hB3.size⟩,by simp[intOf];omega⟩
  ·obtain rfl:k=n:=by omega
   have ctx:=Lib.hid (ZL A0 m cc _ wr (by have:=hX.out.2.1;omega) hX.out.1 hX.out.2.2 hro)
   go_wp2_with fail
   refine ctx.out.mono ?_
   rintro e w5 ⟨rfl,hb5⟩
   go_wp2
   go_ret
   exact⟨rfl,Qj hB hb5 hB.size⟩
