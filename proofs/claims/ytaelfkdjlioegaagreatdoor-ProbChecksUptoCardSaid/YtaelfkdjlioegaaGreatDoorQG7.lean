/- The walks and plain laws beneath the statements. -/
import Derived.Test.YtaelfkdjlioegaaGreatDoorQG6
namespace Go.Proofs.YtaelfkdjlioegaaGreatDoor
open Tryz
set_option maxHeartbeats 4000000
set_option maxRecDepth 100000
open Go.RowKit
theorem In(n:Int): max n 0=(n.toNat:Int):=by omega
theorem CL{v n:Nat}(h:v<LB^n): nd 64 v≤n:=QU (k:=64) (by decide) h
theorem dJ(v m:Nat): v*2^m<LB^(nd 64 v+m / 64+1):=by
 refine Lb (R9 (X8 v) (Lq _)) ?_
 rw[Xn,Xj,Xj,← Ll]
 exact Le (by decide) (by omega)
theorem cK(s:ByteArray)(n:Int)(w:World)(hs:s.size≤4294967296)(hn:n≤68719476736):
  Calls prog 144 #[.string s,.int .i64 n] w fun e w'=>e=.returned (.string (Qx (Qa s*2^n.toNat)))∧Below w.heap.size w w':=by
 have b1:nd 64 (Qa s)≤1073741824:=by have:=KD s;omega
 have hm:=In n
 have hnn:n.toNat≤68719476736:=by omega
 have hB0:=CL (dJ (Qa s) n.toNat)
 have hB:nd 64 (Qa s*2^n.toNat)≤4294967296:=by omega
 obtain⟨m,hmm⟩:∃m,m=n.toNat:=⟨_,rfl⟩
 rw[← hmm]at hm hnn hB hB0 ⊢
 clear hmm hn
 go_enter func144,ntmps144
 go_wp2_with fail
 refine(ZY s w hs).mono ?_
 rintro e w1 ⟨g,N,rfl,hg,hb,hC,h1,h2,hr⟩
 go_wp2_with fail
 refine(Om _ _ _ (Qa s) m w1 (by omega) h1 hnn (X8 _) hr).mono ?_
 rintro e w2 ⟨g2,N2,rfl,hg2,hb2,hC2,hN2⟩
 have hN3:nd 64 (Qa s*2^m)≤N2:=by omega
 clear hN2
 go_wp2_with fail
 refine(Gp _ _ _ _ hB hN3 (Cel.rd0 hC2 hN3)).mono ?_
 rintro e w3 ⟨rfl,hb3⟩
 go_wp2
 go_ret
 have h4:=Qj hb hb2 hb.size
 exact⟨rfl,Qj h4 hb3 h4.size⟩
theorem DX(s:ByteArray)(n:Int)(w:World)(hs:s.size≤4294967296)(hn:n≤9223372036854775807):
  Calls prog 146 #[.string s,.int .i64 n] w fun e w'=>e=.returned (.string (Qx (Qa s / 2^n.toNat)))∧Below w.heap.size w w':=by
 have b1:nd 64 (Qa s)≤1073741824:=by have:=KD s;omega
 have hm:=In n
 have hnn:n.toNat≤9223372036854775807:=by omega
 obtain⟨m,hmm⟩:∃m,m=n.toNat:=⟨_,rfl⟩
 rw[← hmm]at hm hnn ⊢
 clear hmm hn
 have hB:nd 64 (Qa s / 2^m)≤nd 64 (Qa s):=JS (by decide) (Rl _ _)
 go_enter func146,ntmps146
 go_wp2_with fail
 refine(ZY s w hs).mono ?_
 rintro e w1 ⟨g,N,rfl,hg,hb,hC,h1,h2,hr⟩
 by_cases hq:m / 64<nd 64 (Qa s)
 ·have hd:=Lib.hid (F0 _ _ _ (Qa s) m w1 (by omega) h1 hnn hq (X8 _) hr)
  clear hq
  go_wp2_with fail
  refine hd.out.mono ?_
  rintro e w2 ⟨g2,N2,rfl,hg2,hb2,hC2,hN2,hN3⟩
  go_wp2_with fail
  refine(Gp _ _ _ _ (by omega) hN3 (Cel.rd0 hC2 hN3)).mono ?_
  rintro e w3 ⟨rfl,hb3⟩
  go_wp2
  go_ret
  have h4:=Qj hb hb2 hb.size
  exact⟨rfl,Qj h4 hb3 h4.size⟩
 ·have hd:=Lib.hid (Me (some ⟨g,0,none⟩) _ N (Qa s) m w1 (by omega) hnn (Se hq))
  have hz:=Lib.hid (D8 (X8 (Qa s)) (Se hq))
  clear hq
  go_wp2_with fail
  refine hd.out.mono ?_
  rintro e w2 ⟨rfl,rfl⟩
  go_wp2_with fail
  refine(Gp none 0 0 _ (by decide) (by decide) Rd.nil_).mono ?_
  rintro e w3 ⟨rfl,hb3⟩
  go_wp2
  go_ret
  exact⟨by rw[hz.out];rfl,Qj hb hb3 hb.size⟩
theorem WL(A:Option Addr)(n c:Nat)(ss:Nat→ByteArray)(w:World)(hn:n≤268435456)(hs:∀j,(ss j).size≤1073741824)(hrl:Rd w A n fun j=>.string (ss j)):
  Calls prog 185 #[.slice A n c] w fun e w'=>e=.returned (.string (Qx (Zf (fun j=>Qa (ss j)) n)))∧Below w.heap.size w w':=by
 have HS:=Lib.hid hs
 have HB0:∀M k,M=134217728→nd 64 (Zf (fun j=>Qa (ss j)) k)≤M+k:=fun M k hM=>CL (Mc (M:=M) (fun j=>by
  have h1:=KD (ss j)
  have h2:=hs j
  exact Lb (X8 _) (Le Qu (by omega))) k)
 have HB:=Lib.hid (show ∀k,nd 64 (Zf (fun j=>Qa (ss j)) k)≤134217728+k from fun k=>HB0 _ k rfl)
 clear HB0
 clear hs
 go_enter func185,ntmps185
 go_wp2
 go_loopw [3,9] (fun v i wr=>∃(k:Nat) (A':Option Addr) (c':Nat),k≤n∧i=.int .i64 k∧v=.slice A' (nd 64 (Zf (fun j=>Qa (ss j)) k)) c'∧nd 64 (Zf (fun j=>Qa (ss j)) k)≤c'∧Below w.heap.size w wr∧Rd wr A' (nd 64 (Zf (fun j=>Qa (ss j)) k)) (QQ (Zf (fun j=>Qa (ss j)) k))) (fun _ i _=>n-(intOf i).toNat)
 case atStart=>exact⟨0,none,0,L9 _,rfl,rfl,L9 _,Below.refl _ _,Rd.nil_⟩
 case round =>
  obtain⟨k,A',c',hk,rfl,rfl,hc',hB2,hr2⟩:=hrel
  have hb1:=HB.out k
  have hlast:=X8 (Zf (fun j=>Qa (ss j)) k)
  generalize hV:Zf (fun j=>Qa (ss j)) k=V at *
  have HV:=Lib.hid hV
  have HL:=Lib.hid hlast
  clear hV hlast
  by_cases hlt:k<n
  ·obtain⟨b,off,rfl,hcl⟩:=hrl (by omega)
   have g1:wr.cell? ⟨b,off+k,none⟩=some (.string (ss k)):=L7 hB2 (hcl k hlt)
   have hsk:=HS.out k
   have hs2:=KD (ss k)
   clear hcl
   go_wp2_with fail
   refine(ZY (ss k) _ (by omega)).mono ?_
   rintro e w1 ⟨g,N,rfl,hg,hb,hC,h1,h2,hr⟩
   have hr3:=hr2.below hb
   obtain⟨M,hM⟩:∃M,M=max (nd 64 V) (nd 64 (Qa (ss k)))+1:=⟨_,rfl⟩
   have cc:=Lib.hid (Da A' (nd 64 V) c' V (max (nd 64 V:Int) (nd 64 (Qa (ss k)):Int)+1) M w1 (by omega) hc' (by omega) (by omega) (by omega) HL.out hr3)
   have hM1:nd 64 V≤M:=by omega
   have hM2:M≤4294967296:=by omega
   have hsum:V+Qa (ss k)<LB^M:=by
    have h1:=HL.out
    have h2:=X8 (Qa (ss k))
    have h3:LB^nd 64 V≤LB^max (nd 64 V) (nd 64 (Qa (ss k))):=Le Qu (by omega)
    have h4:LB^nd 64 (Qa (ss k))≤LB^max (nd 64 V) (nd 64 (Qa (ss k))):=Le Qu (by omega)
    rw[hM,Lx]
    have h5:LB^max (nd 64 V) (nd 64 (Qa (ss k)))*2≤LB^max (nd 64 V) (nd 64 (Qa (ss k)))*LB:=Lt _ (by decide)
    omega
   have HS2:=Lib.hid hsum
   clear hM hsum
   go_wp2_with fail
   refine cc.out.mono ?_
   rintro e w2 ⟨g3,rfl,hg3,hb3,hC3⟩
   have hgl:=hC.lt
   have hC4:Cel w2 g3 119 M (G8 0 M (QQ V) (QQ V)):=hC3.congr fun j _=>by
    have:=Gi 0 M (QQ V) j
    simp only[Ld]at this
    exact this.symm
   go_wp2_with fail
   refine(iH g3 0 M M M _ N V (Qa (ss k)) _ _ w2 hM2 (by omega) hC4 (by omega) (X8 _) (hr.below hb3) (Off.some_ (by omega))).mono ?_
   rintro e w3 ⟨rfl,hg5,hC5⟩
   have hr5:Rd w3 (some ⟨g3,0,none⟩) M (QQ (V+Qa (ss k))):=(hC5.rd (o:=0) (n:=M) (by omega)).congr fun j hj=>BV hj
   go_wp2_with fail
   refine(ZU _ M M (V+Qa (ss k)) w3 (by omega) (L3 _) HS2.out hr5).mono ?_
   rintro e w4 ⟨rfl,rfl⟩
   go_wp2
   have h6:nd 64 (V+Qa (ss k))≤M:=CL HS2.out
   have hs1:Zf (fun j=>Qa (ss j)) (k+1)=V+Qa (ss k):=by show Zf _ k+_=_;rw[HV.out]
   have hbA:=Qj hB2 hb hB2.size
   have hbB:=Qj hbA hb3 hbA.size
   have hbC:=YC hbB hg5 hbB.size (L8 hbA.size hg3)
   exact⟨⟨k+1,some ⟨g3,0,none⟩,M,hlt,by go_num,by rw[hs1],by rw[hs1];exact h6,hbC,by rw[hs1];exact hr5.of_le h6⟩,by simp[intOf];omega⟩
  ·obtain rfl:k=n:=by omega
   have htx:=Lib.hid (Gp A' c' V wr (by omega) hc' hr2)
   go_wp2_with fail
   refine htx.out.mono ?_
   rintro e w5 ⟨rfl,hb5⟩
   go_wp2
   go_ret
   exact⟨by rw[HV.out];rfl,Qj hB2 hb5 hB2.size⟩
