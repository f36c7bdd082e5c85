/- The walks and plain laws beneath the statements. -/
import Derived.Test.YtaelfkdjlioegaaGreatDoorQO6
namespace Go.Proofs.YtaelfkdjlioegaaGreatDoor
set_option maxRecDepth 100000
open Go.RowKit
theorem max_int(n:Int): max n 0=(n.toNat:Int):=by omega
theorem nd_LB{v n:Nat}(h:v<LB^n): nd 64 v≤n:=nd_le_of_lt (k:=64) (by decide) h
theorem shl_lt(v m:Nat): v*2^m<LB^(nd 64 v+m / 64+1):=by
 refine Nat.lt_of_lt_of_le (Nat.mul_lt_mul_of_pos_right (LB_nd v) (Nat.two_pow_pos _)) ?_
 rw[LB_pow,pow2_pow,pow2_pow,← Nat.pow_add]
 exact Nat.pow_le_pow_right (by decide) (by omega)
set_option maxHeartbeats 400000 in
theorem nShl_any(s:ByteArray)(n:Int)(w:World)(hs:s.size≤4294967296)(hn:n≤68719476736):
  Calls Tryz.prog 144 #[.string s,.int .i64 n] w fun e w'=>e=.returned (.string (nstr (sval s*2^n.toNat)))∧Below w.heap.size w w':=by
 have b1:nd 64 (sval s)≤1073741824:=by have:=nd_sval s;omega
 have hm:=max_int n
 have hnn:n.toNat≤68719476736:=by omega
 have hB0:=nd_LB (shl_lt (sval s) n.toNat)
 have hB:nd 64 (sval s*2^n.toNat)≤4294967296:=by omega
 obtain⟨m,hmm⟩:∃m,m=n.toNat:=⟨_,rfl⟩
 rw[← hmm]at hm hnn hB hB0 ⊢
 clear hmm hn
 go_enter Tryz.func144,Tryz.ntmps144
 go_wp2_with fail
 refine(of_rd s w hs).mono ?_
 rintro e w1 ⟨g,N,rfl,hg,hb,hC,h1,h2,hr⟩
 go_wp2_with fail
 refine(up_any _ _ _ (sval s) m w1 (by omega) h1 hnn (LB_nd _) hr).mono ?_
 rintro e w2 ⟨g2,N2,rfl,hg2,hb2,hC2,hN2⟩
 have hN3:nd 64 (sval s*2^m)≤N2:=by omega
 clear hN2
 go_wp2_with fail
 refine(text_rd _ _ _ _ hB hN3 (Cel.rd0 hC2 hN3)).mono ?_
 rintro e w3 ⟨rfl,hb3⟩
 go_wp2
 go_ret
 have h4:=below_bel hb hb2 hb.size
 exact⟨rfl,below_bel h4 hb3 h4.size⟩
set_option maxHeartbeats 400000 in
theorem nShr_any(s:ByteArray)(n:Int)(w:World)(hs:s.size≤4294967296)(hn:n≤9223372036854775807):
  Calls Tryz.prog 146 #[.string s,.int .i64 n] w fun e w'=>e=.returned (.string (nstr (sval s / 2^n.toNat)))∧Below w.heap.size w w':=by
 have b1:nd 64 (sval s)≤1073741824:=by have:=nd_sval s;omega
 have hm:=max_int n
 have hnn:n.toNat≤9223372036854775807:=by omega
 obtain⟨m,hmm⟩:∃m,m=n.toNat:=⟨_,rfl⟩
 rw[← hmm]at hm hnn ⊢
 clear hmm hn
 have hB:nd 64 (sval s / 2^m)≤nd 64 (sval s):=nd_mono (by decide) (Nat.div_le_self _ _)
 go_enter Tryz.func146,Tryz.ntmps146
 go_wp2_with fail
 refine(of_rd s w hs).mono ?_
 rintro e w1 ⟨g,N,rfl,hg,hb,hC,h1,h2,hr⟩
 by_cases hq:m / 64<nd 64 (sval s)
 ·have hd:=Lib.hid (down_some _ _ _ (sval s) m w1 (by omega) h1 hnn hq (LB_nd _) hr)
  clear hq
  go_wp2_with fail
  refine hd.out.mono ?_
  rintro e w2 ⟨g2,N2,rfl,hg2,hb2,hC2,hN2,hN3⟩
  go_wp2_with fail
  refine(text_rd _ _ _ _ (by omega) hN3 (Cel.rd0 hC2 hN3)).mono ?_
  rintro e w3 ⟨rfl,hb3⟩
  go_wp2
  go_ret
  have h4:=below_bel hb hb2 hb.size
  exact⟨rfl,below_bel h4 hb3 h4.size⟩
 ·have hd:=Lib.hid (down_nil (some ⟨g,0,none⟩) _ N (sval s) m w1 (by omega) hnn (Nat.le_of_not_lt hq))
  have hz:=Lib.hid (dgt_shr_zero (LB_nd (sval s)) (Nat.le_of_not_lt hq))
  clear hq
  go_wp2_with fail
  refine hd.out.mono ?_
  rintro e w2 ⟨rfl,rfl⟩
  go_wp2_with fail
  refine(text_rd none 0 0 _ (by decide) (by decide) Rd.nil_).mono ?_
  rintro e w3 ⟨rfl,hb3⟩
  go_wp2
  go_ret
  exact⟨by rw[hz.out];rfl,below_bel hb hb3 hb.size⟩
set_option maxHeartbeats 400000 in
theorem nAdd_any(A:Option Addr)(n c:Nat)(ss:Nat→ByteArray)(w:World)(hn:n≤268435456)(hs:∀j,(ss j).size≤1073741824)(hrl:Rd w A n fun j=>.string (ss j)):
  Calls Tryz.prog 185 #[.slice A n c] w fun e w'=>e=.returned (.string (nstr (sumTo (fun j=>sval (ss j)) n)))∧Below w.heap.size w w':=by
 have HS:=Lib.hid hs
 have HB0:∀M k,M=134217728→nd 64 (sumTo (fun j=>sval (ss j)) k)≤M+k:=fun M k hM=>nd_LB (sumTo_lt (M:=M) (fun j=>by
  have h1:=nd_sval (ss j)
  have h2:=hs j
  exact Nat.lt_of_lt_of_le (LB_nd _) (Nat.pow_le_pow_right LB_pos (by omega))) k)
 have HB:=Lib.hid (show ∀k,nd 64 (sumTo (fun j=>sval (ss j)) k)≤134217728+k from fun k=>HB0 _ k rfl)
 clear HB0
 clear hs
 go_enter Tryz.func185,Tryz.ntmps185
 go_wp2
 go_loopw [3,9] (fun v i wr=>∃(k:Nat) (A':Option Addr) (c':Nat),k≤n∧i=.int .i64 k∧v=.slice A' (nd 64 (sumTo (fun j=>sval (ss j)) k)) c'∧nd 64 (sumTo (fun j=>sval (ss j)) k)≤c'∧Below w.heap.size w wr∧Rd wr A' (nd 64 (sumTo (fun j=>sval (ss j)) k)) (limb (sumTo (fun j=>sval (ss j)) k))) (fun _ i _=>n-(intOf i).toNat)
 case atStart=>exact⟨0,none,0,Nat.zero_le _,rfl,rfl,Nat.zero_le _,Below.refl _ _,Rd.nil_⟩
 case round =>
  obtain⟨k,A',c',hk,rfl,rfl,hc',hB2,hr2⟩:=hrel
  have hb1:=HB.out k
  have hlast:=LB_nd (sumTo (fun j=>sval (ss j)) k)
  generalize hV:sumTo (fun j=>sval (ss j)) k=V at *
  have HV:=Lib.hid hV
  have HL:=Lib.hid hlast
  clear hV hlast
  by_cases hlt:k<n
  ·obtain⟨b,off,rfl,hcl⟩:=hrl (by omega)
   have g1:wr.cell? ⟨b,off+k,none⟩=some (.string (ss k)):=cell_later hB2 (hcl k hlt)
   have hsk:=HS.out k
   have hs2:=nd_sval (ss k)
   clear hcl
   go_wp2_with fail
   refine(of_rd (ss k) _ (by omega)).mono ?_
   rintro e w1 ⟨g,N,rfl,hg,hb,hC,h1,h2,hr⟩
   have hr3:=hr2.below hb
   obtain⟨M,hM⟩:∃M,M=max (nd 64 V) (nd 64 (sval (ss k)))+1:=⟨_,rfl⟩
   have cc:=Lib.hid (copied_any A' (nd 64 V) c' V (max (nd 64 V:Int) (nd 64 (sval (ss k)):Int)+1) M w1 (by omega) hc' (by omega) (by omega) (by omega) HL.out hr3)
   have hM1:nd 64 V≤M:=by omega
   have hM2:M≤4294967296:=by omega
   have hsum:V+sval (ss k)<LB^M:=by
    have h1:=HL.out
    have h2:=LB_nd (sval (ss k))
    have h3:LB^nd 64 V≤LB^max (nd 64 V) (nd 64 (sval (ss k))):=Nat.pow_le_pow_right LB_pos (by omega)
    have h4:LB^nd 64 (sval (ss k))≤LB^max (nd 64 V) (nd 64 (sval (ss k))):=Nat.pow_le_pow_right LB_pos (by omega)
    rw[hM,Nat.pow_succ]
    have h5:LB^max (nd 64 V) (nd 64 (sval (ss k)))*2≤LB^max (nd 64 V) (nd 64 (sval (ss k)))*LB:=Nat.mul_le_mul_left _ (by decide)
    omega
   have HS2:=Lib.hid hsum
   clear hM hsum
   go_wp2_with fail
   refine cc.out.mono ?_
   rintro e w2 ⟨g3,rfl,hg3,hb3,hC3⟩
   have hgl:=hC.lt
   have hC4:Cel w2 g3 119 M (mix 0 M (limb V) (limb V)):=hC3.congr fun j _=>by
    have:=mix_self 0 M (limb V) j
    simp only[Nat.zero_add]at this
    exact this.symm
   go_wp2_with fail
   refine(add_any g3 0 M M M _ N V (sval (ss k)) _ _ w2 hM2 (by omega) hC4 (by omega) (LB_nd _) (hr.below hb3) (Off.some_ (by omega))).mono ?_
   rintro e w3 ⟨rfl,hg5,hC5⟩
   have hr5:Rd w3 (some ⟨g3,0,none⟩) M (limb (V+sval (ss k))):=(hC5.rd (o:=0) (n:=M) (by omega)).congr fun j hj=>mix_in hj
   go_wp2_with fail
   refine(cut_any _ M M (V+sval (ss k)) w3 (by omega) (Nat.le_refl _) HS2.out hr5).mono ?_
   rintro e w4 ⟨rfl,rfl⟩
   go_wp2
   have h6:nd 64 (V+sval (ss k))≤M:=nd_LB HS2.out
   have hs1:sumTo (fun j=>sval (ss j)) (k+1)=V+sval (ss k):=by show sumTo _ k+_=_;rw[HV.out]
   have hbA:=below_bel hB2 hb hB2.size
   have hbB:=below_bel hbA hb3 hbA.size
   have hbC:=below_grownBy hbB hg5 hbB.size (Nat.le_trans hbA.size hg3)
   exact⟨⟨k+1,some ⟨g3,0,none⟩,M,hlt,by go_num,by rw[hs1],by rw[hs1];exact h6,hbC,by rw[hs1];exact hr5.of_le h6⟩,by simp[intOf];omega⟩
  ·obtain rfl:k=n:=by omega
   have htx:=Lib.hid (text_rd A' c' V wr (by omega) hc' hr2)
   go_wp2_with fail
   refine htx.out.mono ?_
   rintro e w5 ⟨rfl,hb5⟩
   go_wp2
   go_ret
   exact⟨by rw[HV.out];rfl,below_bel hB2 hb5 hB2.size⟩
