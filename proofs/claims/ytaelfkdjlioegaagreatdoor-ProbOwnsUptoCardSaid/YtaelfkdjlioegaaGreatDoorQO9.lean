/- The walks and plain laws beneath the statements. -/
import Derived.Test.YtaelfkdjlioegaaGreatDoorQO6
namespace Go.Proofs.YtaelfkdjlioegaaGreatDoor
set_option maxRecDepth 100000
open Go.RowKit
set_option maxHeartbeats 400000 in
theorem rCut_any(A:Option Addr)(n c v:Nat)(w:World)(hn:n≤9223372036854775807)(hnc:n≤c)(hv:v<2^n)(hr:Rd w A n (bitv v)):
  Calls Tryz.prog 137 #[.slice A n c] w fun e w'=>e=.returned (.slice A (nd 1 v) c)∧w=w':=by
 have hv1:v<(2^1)^n:=by rw[Nat.pow_one];exact hv
 go_enter Tryz.func137,Tryz.ntmps137
 go_wp2
 go_loop [3] (fun s=>∃k:Nat,k≤n∧s=.int .i64 k∧Hid (∀j,k≤j→j<n→dgt 2 v j=0)) (fun s=>(intOf s).toNat)
 case atStart=>exact⟨n,Nat.le_refl _,rfl,fun j h1 h2=>by omega⟩
 case round =>
  obtain⟨k,hk,rfl,hz⟩:=hrel
  by_cases hk0:k=0
  ·subst hk0
   have hnd:nd 1 v=0:=nd_of_dgts (k:=1) (by decide) hv1 (Nat.zero_le _) hz.out (by omega)
   have H:=Lib.hid hnd
   clear hnd hr hv hv1
   go_wp2
   go_ret
   exact⟨by rw[H.out];rfl,rfl⟩
  ·obtain⟨b,off,rfl,hc⟩:=hr (by omega)
   have hcell:w.cell? ⟨b,off+(k-1),none⟩=some (.int .u8 (dgt 2 v (k-1):Nat)):=hc (k-1) (by omega)
   have HC:=Lib.hid hc
   clear hc
   by_cases h0:dgt 2 v (k-1)=0
   ·have h0':((dgt 2 v (k-1):Nat):Int)=0:=by omega
    have H0:=Lib.hid h0
    rw[h0']at hcell
    clear h0 h0' hv hr hv1
    have hk1:1≤k:=by omega
    go_wp2
    refine⟨⟨k-1,by omega,by go_num,fun j h1 h2=>?_⟩,by simp[intOf];omega⟩
    by_cases e:j=k-1
    ·subst e;exact H0.out
    ·exact hz.out j (by omega) h2
   ·have h0':(((dgt 2 v (k-1):Nat):Int)==0)=false:=by simpa using h0
    have hnd:nd 1 v=k:=nd_of_dgts (k:=1) (by decide) hv1 hk hz.out (fun _=>h0)
    have H:=Lib.hid hnd
    have hk1:1≤k:=by omega
    clear hnd hr hv h0 hv1
    go_wp2
    go_ret
    exact⟨by rw[H.out];rfl,rfl⟩
open Go.RowKit
theorem u8_shl_bit{d r:Nat}(hd:d<2)(hr:r<8): IntKind.u8.wrap ((d:Int)*2^r)=((d*2^r:Nat):Int):=by
 have h1:2^r≤128:=Nat.pow_le_pow_right (n:=2) (by decide) (show r≤7 by omega)
 have h2:d*2^r≤1*2^r:=Nat.mul_le_mul_right _ (by omega)
 refine u8_wrap ?_ (by omega)
 rw[Int.natCast_mul,Int.natCast_pow];rfl
set_option maxHeartbeats 400000 in
theorem rText_any(A:Option Addr)(n c v:Nat)(w:World)(hn:n≤4294967296)(hnc:n≤c)(hv:v<2^n)(hr:Rd w A n (bitv v)):
  Calls Tryz.prog 113 #[.slice A n c] w fun e w'=>e=.returned (.string (nstr v))∧Below w.heap.size w w':=by
 have hk:nd 1 v≤n:=nd_le_of_lt (by decide) (by rw[Nat.pow_one];exact hv)
 have c1:=Lib.hid (rCut_any A n c v w (by omega) hnc hv hr)
 have hr2:=hr.of_le hk
 have hL2:=nd_lt (k:=1) (by decide) v
 rw[Nat.pow_one]at hL2
 have h8:=nd_bytes v
 obtain⟨L,hL⟩:∃L,L=nd 1 v:=⟨_,rfl⟩
 obtain⟨N,hN⟩:∃N,N=nd 8 v:=⟨_,rfl⟩
 rw[← hL]at c1 hr2 h8 hk hL2
 rw[← hN]at h8
 have HL:=Lib.hid (show((L:Int)+7) / 8=(N:Int)by omega)
 have HE:=Lib.hid h8
 have hLle:((L:Int)+7) / 8≤(N:Int):=by omega
 have hLge:(N:Int)≤((L:Int)+7) / 8:=by omega
 have hb2:1*N≤281474976710656:=by omega
 have hb3:N≤9223372036854775807:=by omega
 have HN:=Lib.hid hN
 have HV:=Lib.hid hL2
 clear hN h8 hv hL hL2
 go_enter Tryz.func113,Tryz.ntmps113
 go_wp2_with fail
 refine c1.out.mono ?_
 rintro e w' ⟨rfl,rfl⟩
 go_wp2_with (at_make;refine wpList_make_cel rfl (.tmp 10) (.tmp 10) _ rfl 5 (.int .u8 0) 1 under_bytes info_u8 rfl .i64 .i64 _ _ N rfl rfl HL.out HL.out hb2 hb3 ?_;intro w1 hC hB hlt)
 go_loopw [4] (fun i wr=>∃k:Nat,k≤L∧i=.int .i64 k∧Below w.heap.size w wr∧Cel wr w.heap.size 5 N (fun j=>.int .u8 ((dgt 256 (v % 2^k) (N-1-j):Nat):Int))) (fun i _=>L-(intOf i).toNat)
 case atStart=>exact⟨0,Nat.zero_le _,rfl,hB,hC.congr fun j hj=>by rw[Nat.pow_zero,Nat.mod_one,dgt_zero];rfl⟩
 case round =>
  obtain⟨k,hk1,rfl,hB2,hC2⟩:=hrel
  by_cases hlt:k<L
  ·obtain⟨q,hq⟩:∃q,q=k / 8:=⟨_,rfl⟩
   obtain⟨r,hr8⟩:∃r,r=k % 8:=⟨_,rfl⟩
   obtain⟨b,off,rfl,hc⟩:=hr2 (by omega)
   have g1:wr.cell? ⟨b,off+k,none⟩=some (.int .u8 (dgt 2 v k:Nat)):=cell_later hB2 (hc k hlt)
   have hqN:q+1≤N:=by have:=HE.out;omega
   obtain⟨D,hD⟩:∃D,D=N-1-q:=⟨_,rfl⟩
   have hDN:D<N:=by omega
   have g2:=hC2.cell (i:=D) hDN
   have g3:=hC2.frozen D
   have hbit:dgt 2 v k<2:=dgt_lt (by decide) v k
   have e2:(k:Int) / 8=(q:Int):=by omega
   have e2':(k:Int).tdiv 8=(q:Int):=by rw[Int.tdiv_eq_ediv_of_nonneg (by omega)];exact e2
   have e3:(k:Int) % 8=(r:Int):=by omega
   have e3':(k:Int).tmod 8=(r:Int):=by rw[Int.tmod_eq_emod_of_nonneg (by omega)];exact e3
   have hr7:r<8:=by omega
   have w1:IntKind.i64.wrap (q:Int)=(q:Int):=IntWalk.i64_in _ (by omega)
   have w2:IntKind.i64.wrap (r:Int)=(r:Int):=IntWalk.i64_in _ (by omega)
   have w3:IntKind.i64.wrap ((N:Int)-1)=(N:Int)-1:=IntWalk.i64_in _ (by omega)
   have w5:(N:Int)-1-q=(D:Int):=by omega
   have w4:IntKind.i64.wrap (D:Int)=(D:Int):=IntWalk.i64_in _ (by omega)
   have e5:N-1-D=q:=by omega
   rw[e5]at g2
   have hst:=byte_bit v k
   have hsh:=u8_shl_bit hbit hr7
   have hs2:IntKind.u8.wrap (((dgt 256 (v % 2^k) q:Nat):Int)+((dgt 2 v k*2^r:Nat):Int))=((dgt 256 (v % 2^(k+1)) q:Nat):Int) :=
    u8_wrap (by rw[hst q,if_pos hq,← hr8];omega) (dgt_lt (by decide) _ _)
   have HQ:=Lib.hid (show k=8*q+r by omega)
   have H3:=Lib.hid (show(((dgt 256 (v % 2^k) q:Nat):Int)+((dgt 2 v k:Nat):Int)*2^r) % 256=((dgt 256 (v % 2^(k+1)) q:Nat):Int)by
    rw[← hs2,Int.natCast_mul,Int.natCast_pow];simp[IntKind.wrap,IntKind.signed,IntKind.bits])
   have HS:=Lib.hid hst
   have HQ2:=Lib.hid hq
   have HD:=Lib.hid hD
   have HE5:=Lib.hid e5
   clear hq hr8 hc hst e5 hbit hD
   go_wp2
   go_still_tail 18,(by kernel_rfl)
   change wpList _ _ _ _ _ wr.drew
   have hB3:=hB2.drew
   have hC3:=hC2.drew
   have g13:wr.drew.cell? _=_:=g1
   have g23:wr.drew.cell? _=_:=g2
   have g33:=hC3.frozen D
   clear hB2 hC2 g1 g2 g3
   generalize wr.drew=w9 at *
   go_wp2
   refine⟨⟨k+1,hlt,by go_num,hB3.setCell (Nat.le_refl _) _,(hC3.set_ D _).congr fun j hj=>?_⟩,by simp[intOf];omega⟩
   by_cases e:j=D
   ·subst e;simp only[if_true];rw[HE5.out];exact congrArg _ H3.out
   ·simp only[if_neg e];rw[HS.out,if_neg (by rw[← HQ2.out];have:=HE5.out;omega)]
  ·obtain rfl:k=L:=by omega
   have hC3:=hC2.congr (f':=fun j=>.int .u8 ((dgt 256 v (N-1-j):Nat):Int)) (fun j hj=>by rw[Nat.mod_eq_of_lt HV.out])
   have hrd:=(hC3.rd (o:=0) (n:=N) (by omega)).congr (f':=fun j=>.int .u8 ((dgt 256 v (N-1-j):Nat):Int)) (fun j hj=>by simp only[Nat.zero_add])
   have hcv:=run_bytes_rd (P:=Tryz.prog) 104 9 5 under_bytes Tryz.underlying5 Tryz.underlying9 (some ⟨w.heap.size,0,none⟩) N N (fun j=>dgt 256 v (N-1-j)) hrd
   have hn8:(⟨((List.range N).map fun j=>UInt8.ofNat (dgt 256 v (N-1-j))).toArray⟩:ByteArray)=nstr v:=by unfold nstr nbytes;rw[← HN.out]
   rw[hn8]at hcv
   clear hn8 hrd hC2 hC3
   go_wp2
   go_ret
   exact⟨rfl,hB2⟩
open Go.RowKit
theorem nd1_size(s:ByteArray): nd 1 (sval s)≤8*s.size:=by
 refine nd_le_of_lt (by decide) ?_
 have:=sval_lt s
 rw[Nat.pow_one]
 rwa [show 256=2^8 from rfl,← Nat.pow_mul]at this
theorem shr_and_bit(v p k:Nat)(hk:k<8): bits .and .u8 (((dgt 256 v p:Nat):Int) / 2^k) 1=((dgt 2 v (8*p+k):Nat):Int):=by
 rw[show(((dgt 256 v p:Nat):Int) / 2^k)=((dgt 256 v p / 2^k:Nat):Int)by rw[Int.natCast_ediv,Int.natCast_pow];rfl,u8_and_one,dgt_bit v p k hk]
 exact Nat.lt_of_le_of_lt (Nat.div_le_self _ _) (dgt_lt (by decide) _ _)
set_option maxHeartbeats 400000 in
theorem rBits_any(s:ByteArray)(w:World)(hs:s.size≤268435456):
  Calls Tryz.prog 114 #[.string s] w fun e w'=>∃A c,e=.returned (.slice A (nd 1 (sval s)) c)∧nd 1 (sval s)≤c∧Rd w' A (nd 1 (sval s)) (bitv (sval s))∧Below w.heap.size w w':=by
 have hix:∀(p:Nat),p<s.size→∀W:World,(Instr.index 9 (.string s) (.int .i64 ((s.size:Int)-1-p))).run Tryz.prog W=.ok (.int .u8 (dgt 256 (sval s) p:Nat)) W:=fun p hp W=>by
  rw[run_index_at s Tryz.underlying9 .i64 _ (s.size-1-p) (by omega) (by omega)]
  unfold sval
  rw[dgt_bval _ _ (by simpa using hp)]
  rfl
 have hV:sval s<2^(8*s.size):=by have:=sval_lt s;rwa [show 256=2^8 from rfl,← Nat.pow_mul]at this
 have HV:=Lib.hid hV
 have HIX:=Lib.hid hix
 clear hV hix
 generalize sval s=V at *
 go_enter Tryz.func114,Tryz.ntmps114
 go_wp2
 go_loopw [3,4] (fun v i wr=>∃p:Nat,p≤s.size∧i=.int .i64 ((s.size:Int)-1-p)∧OwnR wr w.heap.size 5 v (8*p) (bitv V)∧Below w.heap.size w wr) (fun _ i _=>(intOf i+1).toNat)
 case atStart=>exact⟨0,Nat.zero_le _,by simp,OwnR.nil_ _ _ _ _,Below.refl _ _⟩
 case round =>
  obtain⟨p,hp,rfl,hown,hB⟩:=hrel
  by_cases hlt:p<s.size
  ·have hix:=HIX.out p hlt
   have hle:(p:Int)≤(s.size:Int)-1:=by omega
   have hd:decide ((p:Int)≤(s.size:Int)-1)=true:=decide_eq_true hle
   go_wp2
   go_loopw [3,5] (fun v i wr=>∃k:Nat,k≤8∧i=.int .i64 (k:Nat)∧OwnR wr w.heap.size 5 v (8*p+k) (bitv V)∧Below w.heap.size w wr) (fun _ i _=>8-(intOf i).toNat)
   case atStart=>exact⟨0,Nat.zero_le _,rfl,hown,hB⟩
   case round =>
    obtain⟨k,hk,rfl,hown2,hB2⟩:=hrel
    by_cases hk8:k<8
    ·have hand:=shr_and_bit V p k hk8
     have h63:8*p+k+1≤9223372036854775807:=by omega
     have hby:(8*p+k+1)*1≤140737488355328:=by omega
     go_wp2_with (at_builtin;refine wpList_append1 rfl (.tmp 17) (.tmp 24) _ rfl w.heap.size 5 (.int .u8 0) 1 under_bytes info_u8 rfl _ (8*p+k) (bitv V) _ rfl rfl hown2 rfl h63 hby hB2.size ?_;intro v' w' hown3 hB3 hg3)
     refine⟨⟨k+1,hk8,by go_num,hown3.congr fun j hj=>?_,hB2.trans hB3⟩,by simp[intOf];omega⟩
     by_cases e:j=8*p+k
     ·subst e;simp only[if_true];rfl
     ·simp only[if_neg e]
    ·obtain rfl:k=8:=by omega
     go_wp2
     refine⟨⟨p+1,hlt,by rw[Int.natCast_succ];go_num,hown2,hB2⟩,by simp[intOf];omega⟩
  ·obtain rfl:p=s.size:=by omega
   obtain⟨A,c,rfl,hnc,hrd,hfr⟩:=hown.rd
   have hn:nd 1 V≤8*s.size:=nd_le_of_lt (by decide) (by rw[Nat.pow_one];exact HV.out)
   have c1:=Lib.hid (rCut_any A (8*s.size) c V wr (by omega) hnc HV.out hrd)
   go_wp2_with fail
   refine c1.out.mono ?_
   rintro e w' ⟨rfl,rfl⟩
   go_wp2
   go_ret
   exact⟨A,c,rfl,by omega,hrd.of_le hn,hB⟩
open Go.RowKit
open Go.RowKit
open Go.RowKit
theorem rText_own{w:World}{base n v:Nat}{val:Value}(h:OwnR w base 5 val n (bitv v))(hn:n≤4294967296)(hv:v<2^n):
  Calls Tryz.prog 113 #[val] w fun e w'=>e=.returned (.string (nstr v))∧Below w.heap.size w w':=by
 obtain⟨A,c,rfl,hnc,hrd,_⟩:=h.rd
 exact rText_any A n c v w hn hnc hv hrd
set_option maxHeartbeats 400000 in
theorem rOf_any(v:Nat)(w:World)(hv:v<LB):
  Calls Tryz.prog 85 #[.int .u64 (v:Nat)] w fun e w'=>e=.returned (.string (nstr v))∧Below w.heap.size w w':=by
 have HV:=Lib.hid hv
 clear hv
 go_enter Tryz.func85,Tryz.ntmps85
 go_wp2
 go_loopw [0,3] (fun i r wr=>∃k x:Nat,k≤64∧i=.int .u64 (x:Nat)∧Hid (x=v / 2^k)∧OwnR wr w.heap.size 5 r k (bitv v)∧Below w.heap.size w wr) (fun i _ _=>(intOf i).toNat)
 case atStart=>exact⟨0,v,Nat.zero_le _,rfl,by show v=v / 2^0;simp,OwnR.nil_ _ _ _ _,Below.refl _ _⟩
 case round =>
  obtain⟨k,x,hk,rfl,hx,hown,hB⟩:=hrel
  have hxb:(x:Int)<18446744073709551616:=by
   have h1:=HV.out
   have h2:=Nat.div_le_self v (2^k)
   rw[← hx.out]at h2
   rw[LB_eq]at h1
   omega
  by_cases hx0:x=0
  ·subst hx0
   have hlt:v<2^k:=by
    have h2:=hx.out
    have:=Nat.div_add_mod v (2^k)
    rw[← h2,Nat.mul_zero,Nat.zero_add]at this
    have h3:=Nat.mod_lt v (Nat.two_pow_pos k)
    omega
   have c1:=Lib.hid (rText_own hown (by omega) hlt)
   clear hlt
   go_wp2_with fail
   refine c1.out.mono ?_
   rintro e w' ⟨rfl,hb⟩
   go_wp2
   go_ret
   exact⟨rfl,below_bel hB hb hB.size⟩
  ·have hk64:k<64:=by
    refine Nat.lt_of_not_le fun h=>hx0 ?_
    rw[hx.out]
    exact Nat.div_eq_of_lt (Nat.lt_of_lt_of_le HV.out (by rw[LB_pow];exact Nat.pow_le_pow_right (by decide) h))
   have hpos:(0:Int)<(x:Int):=by omega
   have hd:((x:Int) % 2)=((dgt 2 v k:Nat):Int):=by
    have:dgt 2 v k=x % 2:=by rw[hx.out];rfl
    omega
   have hdb:dgt 2 v k<2:=dgt_lt (by decide) _ _
   have hmod:(x:Int).tmod 2=((dgt 2 v k:Nat):Int):=by rw[Int.tmod_eq_emod_of_nonneg (by omega)];exact hd
   have h63:k+1≤9223372036854775807:=by omega
   have hby:(k+1)*1≤140737488355328:=by omega
   obtain⟨y,hy⟩:∃y,y=x / 2:=⟨_,rfl⟩
   have hy1:(x:Int) / 2=(y:Int):=by omega
   have hy2:(x:Int).tdiv 2=(y:Int):=by rw[Int.tdiv_eq_ediv_of_nonneg (by omega)];exact hy1
   have w1:IntKind.u64.wrap (y:Int)=(y:Int):=by rw[IntKind.wrap_u64];omega
   have w2:IntKind.u64.wrap ((dgt 2 v k:Nat):Int)=((dgt 2 v k:Nat):Int):=by rw[IntKind.wrap_u64];omega
   have w3:IntKind.u8.wrap ((dgt 2 v k:Nat):Int)=((dgt 2 v k:Nat):Int):=u8_wrap rfl (by omega)
   have HY:=Lib.hid hy
   have HX:=Lib.hid hx0
   clear hy hxb
   clear hx0
   go_wp2_with (at_builtin;refine wpList_append1 rfl (.tmp 8) (.tmp 12) _ rfl w.heap.size 5 (.int .u8 0) 1 under_bytes info_u8 rfl _ k (bitv v) _ rfl rfl hown rfl h63 hby hB.size ?_;intro v' w' hown3 hB3 hg3)
   refine⟨⟨k+1,y,hk64,by go_num,?_,hown3.congr fun j hj=>?_,hB.trans hB3⟩,?_⟩
   ·show y=v / 2^(k+1)
    rw[HY.out,hx.out,Nat.pow_succ,Nat.div_div_eq_div_mul]
   ·by_cases e:j=k
    ·subst e;simp only[if_true];rfl
    ·simp only[if_neg e]
   ·have:=HX.out;have:=HY.out;simp[intOf];omega
theorem rLen_any(s:ByteArray)(w:World)(hs:s.size≤268435456):
  Calls Tryz.prog 133 #[.string s] w fun e w'=>e=.returned (.int .i64 (nd 1 (sval s):Nat))∧Below w.heap.size w w':=by
 go_enter Tryz.func133,Tryz.ntmps133
 go_wp2_with fail
 refine(rBits_any s w hs).mono ?_
 rintro e w1 ⟨A,c,rfl,hnc,hr,hb⟩
 go_wp2
 go_ret
 exact⟨rfl,hb⟩
open Go.RowKit
theorem lt2_nd(v:Nat): v<2^nd 1 v:=by have:=nd_lt (k:=1) (by decide) v;rwa [Nat.pow_one]at this
