/- The walks and plain laws beneath the statements. -/
import Derived.Test.YtaelfkdjlioegaaGreatDoorProg
import Derived.Test.YtaelfkdjlioegaaGreatDoorQO1
import Derived.StillTailTactics
namespace Go.Proofs.YtaelfkdjlioegaaGreatDoor
set_option maxRecDepth 100000
open Go.RowKit
set_option maxHeartbeats 400000 in
theorem cut_any(A:Option Addr)(n c v:Nat)(w:World)(hn:n≤9223372036854775807)(hnc:n≤c)(hv:v<LB^n)(hr:Rd w A n fun j=>.int .u64 (dgt LB v j:Nat)):
  Calls Tryz.prog 166 #[.slice A n c] w fun e w'=>e=.returned (.slice A (nd 64 v) c)∧w=w':=by
 go_enter Tryz.func166,Tryz.ntmps166
 go_wp2
 go_loop [0] (fun s=>∃k:Nat,k≤n∧s=.slice A k c∧Hid (∀j,k≤j→j<n→dgt LB v j=0)) (fun s=>match s with | .slice _ k _=>k|_=>0)
 case atStart=>exact⟨n,Nat.le_refl _,rfl,fun j h1 h2=>by omega⟩
 case round =>
  obtain⟨k,hk,rfl,hz⟩:=hrel
  by_cases hk0:k=0
  ·subst hk0
   have hnd:nd 64 v=0:=nd_of_dgts (k:=64) (by decide) hv (Nat.zero_le _) hz.out (by omega)
   have H:=Lib.hid hnd
   clear hnd hr hv
   go_wp2
   go_ret
   exact⟨by rw[H.out];rfl,rfl⟩
  ·obtain⟨b,off,rfl,hc⟩:=hr (by omega)
   have hcell:w.cell? ⟨b,off+(k-1),none⟩=some (.int .u64 (dgt LB v (k-1):Nat)):=hc (k-1) (by omega)
   have HC:=Lib.hid hc
   clear hc
   by_cases h0:dgt LB v (k-1)=0
   ·have h0':((dgt LB v (k-1):Nat):Int)=0:=by omega
    have H0:=Lib.hid h0
    rw[h0']at hcell
    clear h0 h0' hv hr
    have hk1:1≤k:=by omega
    go_wp2
    refine⟨⟨k-1,by omega,rfl,fun j h1 h2=>?_⟩,by simp;omega⟩
    by_cases e:j=k-1
    ·subst e;exact H0.out
    ·exact hz.out j (by omega) h2
   ·have h0':(((dgt LB v (k-1):Nat):Int)==0)=false:=by simpa using h0
    have hnd:nd 64 v=k:=nd_of_dgts (k:=64) (by decide) hv hk hz.out (fun _=>h0)
    have H:=Lib.hid hnd
    clear hnd hr hv h0
    go_wp2
    go_ret
    exact⟨by rw[H.out];rfl,rfl⟩
theorem info_u64:(Tryz.prog.info? 119).map (fun i=>(i.zero,i.size,i.bytes))=some (some (.int .u64 0),1,8):=by kernel_rfl
theorem size_u64:(Tryz.prog.info? 119).map (·.size)=some 1:=by kernel_rfl
theorem under_limbs:Tryz.prog.underlying 173=some (.slice 119):=by kernel_rfl
theorem under_bytes:Tryz.prog.underlying 104=some (.slice 5):=by kernel_rfl
theorem info_u8:(Tryz.prog.info? 5).map (fun i=>(i.zero,i.size,i.bytes))=some (some (.int .u8 0),1,1):=by kernel_rfl
set_option maxHeartbeats 400000 in
theorem copied_any(A:Option Addr)(n c v:Nat)(z:Int)(N:Nat)(w:World)(_hn:n≤4294967296)(_hnc:n≤c)(hz:0≤z)(hN:N=max z.toNat n)(hN':N≤4294967296)(hv:v<LB^n)(hr:Rd w A n fun j=>.int .u64 (dgt LB v j:Nat)):
  Calls Tryz.prog 180 #[.slice A n c,.int .i64 z] w fun e w'=>∃g,e=.returned (.slice (some ⟨g,0,none⟩) N N)∧w.heap.size≤g∧Below w.heap.size w w'∧Cel w' g 119 N (fun j=>.int .u64 (dgt LB v j:Nat)):=by
 have hL:(if z<(n:Int)then(n:Int)else z)=(N:Int):=by
  rw[hN,Nat.max_def];split<;>split<;>omega
 have HL:=Lib.hid hL
 have HM:=Lib.hid (show n=Nat.min n N from(Nat.min_eq_left (by rw[hN];exact Nat.le_max_right _ _)).symm)
 have hnN:0+n≤N:=by rw[hN,Nat.zero_add];exact Nat.le_max_right _ _
 have hb2:8*N≤281474976710656:=by omega
 have hb3:N≤9223372036854775807:=by omega
 have h1:∀j,(Value.int .u64 (dgt LB v j:Nat)).oneCell'=true:=fun _=>rfl
 clear hN hL
 go_enter Tryz.func180,Tryz.ntmps180
 go_wp2_with (first|(at_make;refine wpList_make_cel rfl (.tmp 9) (.tmp 9) _ rfl 119 (.int .u64 0) 8 under_limbs info_u64 rfl .i64 .i64 _ _ N rfl rfl HL.out HL.out hb2 hb3 ?_;intro w1 hC hB hlt)|(with_reducible refine wpList_copy_cel rfl (.tmp 11) (.tmp 12) _ _ rfl 119 under_limbs size_u64 _ _ N N n c rfl rfl _ 0 N _ _ _ hC n HM.out (fun _=>rfl) (hr.below hB) hnN h1 ?_;intro w2 hC2 hG2))
 all_goals
  go_ret
  exact⟨_,rfl,Nat.le_refl _,below_grownBy hB hG2 (Nat.le_of_lt hlt) (Nat.le_refl _),hC2.congr fun j hj=>by
   by_cases h:j<n
   ·rw[if_pos ⟨Nat.zero_le _,by omega⟩];rfl
   ·rw[if_neg (by omega),dgt_big' LB_pos hv (by omega)];rfl⟩
set_option maxHeartbeats 400000 in
theorem of_any(s:ByteArray)(w:World)(hs:s.size≤4294967296):
  Calls Tryz.prog 142 #[.string s] w fun e w'=>∃g N,e=.returned (.slice (some ⟨g,0,none⟩) (nd 64 (bval s.data.toList)) N)∧w.heap.size≤g∧Below w.heap.size w w' ∧
   Cel w' g 119 N (fun j=>.int .u64 (dgt LB (bval s.data.toList) j:Nat))∧N=(s.size+7) / 8:=by
 obtain⟨N,hN⟩:∃N,N=(s.size+7) / 8:=⟨_,rfl⟩
 have hb2:8*N≤281474976710656:=by omega
 have hb3:N≤9223372036854775807:=by omega
 have HL:=Lib.hid (show((s.size:Int)+7) / 8=(N:Int)by omega)
 have HN:=Lib.hid hN
 clear hN
 go_enter Tryz.func142,Tryz.ntmps142
 go_wp2_with (first|(at_make;refine wpList_make_cel rfl (.tmp 9) (.tmp 9) _ rfl 119 (.int .u64 0) 8 under_limbs info_u64 rfl .i64 .i64 _ _ _ rfl rfl HL.out HL.out hb2 hb3 ?_;intro w1 hC hB hlt))
 go_loopw [13] (fun i wr=>∃k:Nat,k≤s.size∧i=.int .i64 k∧Below w.heap.size w wr∧Cel wr w.heap.size 119 N (fun j=>.int .u64 (dgt LB (bval s.data.toList % 256^k) j:Nat))) (fun i _=>s.size-(intOf i).toNat)
 case atStart=>exact⟨0,Nat.zero_le _,rfl,hB,hC.congr fun j hj=>by rw[Nat.pow_zero,Nat.mod_one,dgt_zero];rfl⟩
 case round =>
  obtain⟨k,hk,rfl,hB2,hC2⟩:=hrel
  by_cases hlt:k<s.size
  ·obtain⟨q,hq⟩:∃q,q=k / 8:=⟨_,rfl⟩
   have hqN:q<N:=by have:=HN.out;omega
   have hcell:=hC2.cell hqN
   have hfz:=hC2.frozen q
   have hix:∀W:World,(Instr.index 9 (.string s) (.int .i64 ((s.size:Int)-1-k))).run Tryz.prog W=.ok (.int .u8 (dgt 256 (bval s.data.toList) k:Nat)) W:=fun W=>by
    rw[run_index_at s Tryz.underlying9 .i64 _ (s.size-1-k) (by omega) (by omega),dgt_bval _ _ (by simpa using hlt)]
    rfl
   have hi5:(k:Int) / 8=(q:Int):=by omega
   have hi4:IntKind.i64.wrap (q:Int)=(q:Int):=IntWalk.i64_in _ (by omega)
   obtain⟨r,hr⟩:∃r,r=k % 8:=⟨_,rfl⟩
   have hr1:(k:Int) % 8=(r:Int):=by omega
   have hr2:IntKind.i64.wrap (r:Int)=(r:Int):=IntWalk.i64_in _ (by omega)
   have hr3:IntKind.i64.wrap ((r:Int)*8)=(r:Int)*8:=IntWalk.i64_in _ (by omega)
   have hr4:(k:Int).tmod 8=(r:Int):=by rw[Int.tmod_eq_emod_of_nonneg (by omega)];exact hr1
   obtain⟨d,hd⟩:∃d,d=dgt 256 (bval s.data.toList) k:=⟨_,rfl⟩
   rw[← hd]at hix
   have hd256:d<256:=by rw[hd];exact dgt_lt (by decide) _ _
   have hdw:IntKind.u64.wrap (d:Int)=(d:Int):=by rw[IntKind.wrap_u64];omega
   have hlt2:=byte_shl_lt hd256 (show r<8 by omega)
   have hst:=dgt_byte (bval s.data.toList) k
   rw[← hq,← hr,← hd]at hst
   obtain⟨D,hD⟩:∃D,D=d*2^(r*8):=⟨_,rfl⟩
   have hsh:=shl_wrap d (r*8) ((r:Int)*8) (by omega) hlt2
   rw[← hD]at hsh hlt2 hst
   have hor:bits .or .u64 ((dgt LB (bval s.data.toList % 256^k) q:Nat):Int) (D:Int)=((dgt LB (bval s.data.toList % 256^(k+1)) q:Nat):Int):=by
    rw[u64_or_nat _ _ (dgt_lt LB_pos _ _) hlt2,hst,if_pos rfl]
   have HS:=Lib.hid hst
   clear hr hd hlt2 hst hD hq
   go_wp2
   go_still_tail 15,(by kernel_rfl)
   change wpList _ _ _ _ _ wr.drew
   have hB3:=hB2.drew
   have hC3:=hC2.drew
   have hcell3:=hC3.cell hqN
   have hfz3:=hC3.frozen q
   clear hB2 hC2 hcell hfz
   generalize wr.drew=w2 at *
   go_wp2
   refine⟨⟨k+1,hlt,by go_num,hB3.setCell (Nat.le_refl _) _,(hC3.set_ q _).congr fun j hj=>?_⟩,by simp[intOf];omega⟩
   by_cases e:j=q
   ·subst e;simp only[if_true]
   ·simp only[if_neg e,HS.out]
  ·obtain rfl:k=s.size:=by omega
   have hbv:=bval_lt s.data.toList
   have hlen:s.data.toList.length=s.size:=by simp
   rw[hlen]at hbv
   have hC3:Cel wr w.heap.size 119 N (fun j=>.int .u64 (dgt LB (bval s.data.toList) j:Nat)):=by rwa [Nat.mod_eq_of_lt hbv]at hC2
   have hv:bval s.data.toList<LB^N:=by
    refine Nat.lt_of_lt_of_le hbv ?_
    rw[LB_pow,show 256=2^8 from rfl,← Nat.pow_mul,← Nat.pow_mul]
    have:=HN.out
    exact Nat.pow_le_pow_right (by decide) (by omega)
   have hrd:Rd wr (some ⟨w.heap.size,0,none⟩) N (fun j=>.int .u64 (dgt LB (bval s.data.toList) j:Nat)):=by
    have:=hC3.rd (o:=0) (n:=N) (by omega)
    simpa using this
   have HV:=Lib.hid hv
   clear hC2 hbv hlen hv
   go_wp2_with (go_at_call 166;refine(cut_any _ _ _ _ _ hb3 (Nat.le_refl _) HV.out hrd).mono ?_;rintro e w' ⟨rfl,rfl⟩)
   go_ret
   exact⟨_,_,rfl,Nat.le_refl _,hB2,hC3,HN.out⟩
