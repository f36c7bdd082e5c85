/- The walks and plain laws beneath the statements. -/
import Derived.Test.YtaelfkdjlioegaaGreatDoorProg
import Derived.Test.YtaelfkdjlioegaaGreatDoorQG1
import Derived.StillTailTactics
namespace Go.Proofs.YtaelfkdjlioegaaGreatDoor
open Tryz
set_option maxHeartbeats 4000000
set_option maxRecDepth 100000
open Go.RowKit
theorem ZU(A:Option Addr)(n c v:Nat)(w:World)(hn:n≤9223372036854775807)(hnc:n≤c)(hv:v<LB^n)(hr:Rd w A n fun j=>.int .u64 (Ql LB v j:Nat)):
  Calls prog 166 #[.slice A n c] w fun e w'=>e=.returned (.slice A (nd 64 v) c)∧w=w':=by
 go_enter func166,ntmps166
 go_wp2
 go_loop [0] (fun s=>∃k:Nat,k≤n∧s=.slice A k c∧Hid (∀j,k≤j→j<n→Ql LB v j=0)) (fun s=>match s with | .slice _ k _=>k|_=>0)
 case atStart=>exact⟨n,L3 _,rfl,fun j h1 h2=>by omega⟩
 case round =>
  obtain⟨k,hk,rfl,hz⟩:=hrel
  by_cases hk0:k=0
  ·subst hk0
   have hnd:nd 64 v=0:=Vq (k:=64) (by decide) hv (L9 _) hz.out (by omega)
   have H:=Lib.hid hnd
   clear hnd hr hv
   go_wp2
   go_ret
   exact⟨by rw[H.out];rfl,rfl⟩
  ·obtain⟨b,off,rfl,hc⟩:=hr (by omega)
   have hcell:w.cell? ⟨b,off+(k-1),none⟩=some (.int .u64 (Ql LB v (k-1):Nat)):=hc (k-1) (by omega)
   have HC:=Lib.hid hc
   clear hc
   by_cases h0:Ql LB v (k-1)=0
   ·have h0':((Ql LB v (k-1):Nat):Int)=0:=by omega
    have H0:=Lib.hid h0
    rw[h0']at hcell
    clear h0 h0' hv hr
    have hk1:1≤k:=by omega
    go_wp2
    refine⟨⟨k-1,by omega,rfl,fun j h1 h2=>?_⟩,by simp;omega⟩
    by_cases e:j=k-1
    ·subst e;exact H0.out
    ·exact hz.out j (by omega) h2
   ·have h0':(((Ql LB v (k-1):Nat):Int)==0)=false:=by simpa using h0
    have hnd:nd 64 v=k:=Vq (k:=64) (by decide) hv hk hz.out (fun _=>h0)
    have H:=Lib.hid hnd
    clear hnd hr hv h0
    go_wp2
    go_ret
    exact⟨by rw[H.out];rfl,rfl⟩
theorem Kf:(prog.info? 119).map (fun i=>(i.zero,i.size,i.bytes))=some (some (.int .u64 0),1,8):=by kernel_rfl
theorem cI:(prog.info? 119).map (·.size)=some 1:=by kernel_rfl
theorem YJ:prog.underlying 173=some (.slice 119):=by kernel_rfl
theorem X7:prog.underlying 104=some (.slice 5):=by kernel_rfl
theorem Kw:(prog.info? 5).map (fun i=>(i.zero,i.size,i.bytes))=some (some (.int .u8 0),1,1):=by kernel_rfl
theorem Da(A:Option Addr)(n c v:Nat)(z:Int)(N:Nat)(w:World)(_hn:n≤4294967296)(_hnc:n≤c)(hz:0≤z)(hN:N=max z.toNat n)(hN':N≤4294967296)(hv:v<LB^n)(hr:Rd w A n fun j=>.int .u64 (Ql LB v j:Nat)):
  Calls prog 180 #[.slice A n c,.int .i64 z] w fun e w'=>∃g,e=.returned (.slice (some ⟨g,0,none⟩) N N)∧w.heap.size≤g∧Below w.heap.size w w'∧Cel w' g 119 N (fun j=>.int .u64 (Ql LB v j:Nat)):=by
 have hL:(if z<(n:Int)then(n:Int)else z)=(N:Int):=by
  rw[hN,Nat.max_def];split<;>split<;>omega
 have HL:=Lib.hid hL
 have HM:=Lib.hid (show n=Nat.min n N from(Ug (by rw[hN];exact Nat.le_max_right _ _)).symm)
 have hnN:0+n≤N:=by rw[hN,Ld];exact Nat.le_max_right _ _
 have hb2:8*N≤281474976710656:=by omega
 have hb3:N≤9223372036854775807:=by omega
 have h1:∀j,(Value.int .u64 (Ql LB v j:Nat)).oneCell'=true:=fun _=>rfl
 clear hN hL
 go_enter func180,ntmps180
 go_wp2_with (first|(at_make;refine Q1 rfl (.tmp 9) (.tmp 9) _ rfl 119 (.int .u64 0) 8 YJ Kf rfl .i64 .i64 _ _ N rfl rfl HL.out HL.out hb2 hb3 ?_;intro w1 hC hB hlt)|(with_reducible refine Av rfl (.tmp 11) (.tmp 12) _ _ rfl 119 YJ cI _ _ N N n c rfl rfl _ 0 N _ _ _ hC n HM.out (fun _=>rfl) (hr.below hB) hnN h1 ?_;intro w2 hC2 hG2))
 all_goals
  go_ret
  exact⟨_,rfl,L3 _,YC hB hG2 (T6 hlt) (L3 _),hC2.congr fun j hj=>by
   by_cases h:j<n
   ·rw[if_pos ⟨L9 _,by omega⟩];rfl
   ·rw[if_neg (by omega),Yu Qu hv (by omega)];rfl⟩
theorem kG(s:ByteArray)(w:World)(hs:s.size≤4294967296):
  Calls prog 142 #[.string s] w fun e w'=>∃g N,e=.returned (.slice (some ⟨g,0,none⟩) (nd 64 (ZS s.data.toList)) N)∧w.heap.size≤g∧Below w.heap.size w w' ∧
   Cel w' g 119 N (fun j=>.int .u64 (Ql LB (ZS s.data.toList) j:Nat))∧N=(s.size+7) / 8:=by
 obtain⟨N,hN⟩:∃N,N=(s.size+7) / 8:=⟨_,rfl⟩
 have hb2:8*N≤281474976710656:=by omega
 have hb3:N≤9223372036854775807:=by omega
 have HL:=Lib.hid (show((s.size:Int)+7) / 8=(N:Int)by omega)
 have HN:=Lib.hid hN
 clear hN
 go_enter func142,ntmps142
 go_wp2_with (first|(at_make;refine Q1 rfl (.tmp 9) (.tmp 9) _ rfl 119 (.int .u64 0) 8 YJ Kf rfl .i64 .i64 _ _ _ rfl rfl HL.out HL.out hb2 hb3 ?_;intro w1 hC hB hlt))
 go_loopw [13] (fun i wr=>∃k:Nat,k≤s.size∧i=.int .i64 k∧Below w.heap.size w wr∧Cel wr w.heap.size 119 N (fun j=>.int .u64 (Ql LB (ZS s.data.toList % 256^k) j:Nat))) (fun i _=>s.size-(intOf i).toNat)
 case atStart=>exact⟨0,L9 _,rfl,hB,hC.congr fun j hj=>by rw[Sl,Ty,ZV];rfl⟩
 case round =>
  obtain⟨k,hk,rfl,hB2,hC2⟩:=hrel
  by_cases hlt:k<s.size
  ·obtain⟨q,hq⟩:∃q,q=k / 8:=⟨_,rfl⟩
   have hqN:q<N:=by have:=HN.out;omega
   have hcell:=hC2.cell hqN
   have hfz:=hC2.frozen q
   have hix:∀W:World,(Instr.index 9 (.string s) (.int .i64 ((s.size:Int)-1-k))).run prog W=.ok (.int .u8 (Ql 256 (ZS s.data.toList) k:Nat)) W:=fun W=>by
    rw[Jg s Tryz.underlying9 .i64 _ (s.size-1-k) (by omega) (by omega),K9 _ _ (by simpa using hlt)]
    rfl
   have hi5:(k:Int) / 8=(q:Int):=by omega
   have hi4:IntKind.i64.wrap (q:Int)=(q:Int):=Ln _ (by omega)
   obtain⟨r,hr⟩:∃r,r=k % 8:=⟨_,rfl⟩
   have hr1:(k:Int) % 8=(r:Int):=by omega
   have hr2:IntKind.i64.wrap (r:Int)=(r:Int):=Ln _ (by omega)
   have hr3:IntKind.i64.wrap ((r:Int)*8)=(r:Int)*8:=Ln _ (by omega)
   have hr4:(k:Int).tmod 8=(r:Int):=by rw[Sn (by omega)];exact hr1
   obtain⟨d,hd⟩:∃d,d=Ql 256 (ZS s.data.toList) k:=⟨_,rfl⟩
   rw[← hd]at hix
   have hd256:d<256:=by rw[hd];exact Q8 (by decide) _ _
   have hdw:IntKind.u64.wrap (d:Int)=(d:Int):=by rw[IntKind.wrap_u64];omega
   have hlt2:=Nj hd256 (show r<8 by omega)
   have hst:=dl (ZS s.data.toList) k
   rw[← hq,← hr,← hd]at hst
   obtain⟨D,hD⟩:∃D,D=d*2^(r*8):=⟨_,rfl⟩
   have hsh:=ee d (r*8) ((r:Int)*8) (by omega) hlt2
   rw[← hD]at hsh hlt2 hst
   have hor:bits .or .u64 ((Ql LB (ZS s.data.toList % 256^k) q:Nat):Int) (D:Int)=((Ql LB (ZS s.data.toList % 256^(k+1)) q:Nat):Int):=by
    rw[u64_or_nat _ _ (Q8 Qu _ _) hlt2,hst,if_pos rfl]
   have HS:=Lib.hid hst
   clear hr hd hlt2 hst hD hq
   go_wp2
   go_still_tail 15,(by kernel_rfl)
   change wpList _ _ _ _ _ wr.drew
   have hB3:=hB2.drew
   have hC3:=hC2.drew
   have hcell3:=hC3.cell hqN
   have hfz3:=hC3.frozen q
   clear hB2 hC2 hcell hfz
   generalize wr.drew=w2 at *
   go_wp2
   refine⟨⟨k+1,hlt,by go_num,hB3.setCell (L3 _) _,(hC3.set_ q _).congr fun j hj=>?_⟩,by simp[intOf];omega⟩
   by_cases e:j=q
   ·subst e;simp only[if_true]
   ·simp only[if_neg e,HS.out]
  ·obtain rfl:k=s.size:=by omega
   have hbv:=DQ s.data.toList
   have hlen:s.data.toList.length=s.size:=by simp
   rw[hlen]at hbv
   have hC3:Cel wr w.heap.size 119 N (fun j=>.int .u64 (Ql LB (ZS s.data.toList) j:Nat)):=by rwa [Lz hbv]at hC2
   have hv:ZS s.data.toList<LB^N:=by
    refine Lb hbv ?_
    rw[Xn,show 256=2^8 from rfl,← Sd,← Sd]
    have:=HN.out
    exact Le (by decide) (by omega)
   have hrd:Rd wr (some ⟨w.heap.size,0,none⟩) N (fun j=>.int .u64 (Ql LB (ZS s.data.toList) j:Nat)):=by
    have:=hC3.rd (o:=0) (n:=N) (by omega)
    simpa using this
   have HV:=Lib.hid hv
   clear hC2 hbv hlen hv
   go_wp2_with (go_at_call 166;refine(ZU _ _ _ _ _ hb3 (L3 _) HV.out hrd).mono ?_;rintro e w' ⟨rfl,rfl⟩)
   go_ret
   exact⟨_,_,rfl,L3 _,hB2,hC3,HN.out⟩
