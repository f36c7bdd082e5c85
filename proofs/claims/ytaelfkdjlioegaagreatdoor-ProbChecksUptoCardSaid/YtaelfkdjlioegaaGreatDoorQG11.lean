/- The walks and plain laws beneath the statements. -/
import Derived.Test.YtaelfkdjlioegaaGreatDoorQG6
namespace Go.Proofs.YtaelfkdjlioegaaGreatDoor
open Tryz
set_option maxHeartbeats 4000000
set_option maxRecDepth 100000
open Go.RowKit
theorem D4(A:Option Addr)(n c v:Nat)(w:World)(hn:n≤9223372036854775807)(hnc:n≤c)(hv:v<2^n)(hr:Rd w A n (YQ v)):
  Calls prog 137 #[.slice A n c] w fun e w'=>e=.returned (.slice A (nd 1 v) c)∧w=w':=by
 have hv1:v<(2^1)^n:=by rw[Rn];exact hv
 go_enter func137,ntmps137
 go_wp2
 go_loop [3] (fun s=>∃k:Nat,k≤n∧s=.int .i64 k∧Hid (∀j,k≤j→j<n→Ql 2 v j=0)) (fun s=>(intOf s).toNat)
 case atStart=>exact⟨n,L3 _,rfl,fun j h1 h2=>by omega⟩
 case round =>
  obtain⟨k,hk,rfl,hz⟩:=hrel
  by_cases hk0:k=0
  ·subst hk0
   have hnd:nd 1 v=0:=Vq (k:=1) (by decide) hv1 (L9 _) hz.out (by omega)
   have H:=Lib.hid hnd
   clear hnd hr hv hv1
   go_wp2
   go_ret
   exact⟨by rw[H.out];rfl,rfl⟩
  ·obtain⟨b,off,rfl,hc⟩:=hr (by omega)
   have hcell:w.cell? ⟨b,off+(k-1),none⟩=some (.int .u8 (Ql 2 v (k-1):Nat)):=hc (k-1) (by omega)
   have HC:=Lib.hid hc
   clear hc
   by_cases h0:Ql 2 v (k-1)=0
   ·have h0':((Ql 2 v (k-1):Nat):Int)=0:=by omega
    have H0:=Lib.hid h0
    rw[h0']at hcell
    clear h0 h0' hv hr hv1
    have hk1:1≤k:=by omega
    go_wp2
    refine⟨⟨k-1,by omega,by go_num,fun j h1 h2=>?_⟩,by simp[intOf];omega⟩
    by_cases e:j=k-1
    ·subst e;exact H0.out
    ·exact hz.out j (by omega) h2
   ·have h0':(((Ql 2 v (k-1):Nat):Int)==0)=false:=by simpa using h0
    have hnd:nd 1 v=k:=Vq (k:=1) (by decide) hv1 hk hz.out (fun _=>h0)
    have H:=Lib.hid hnd
    have hk1:1≤k:=by omega
    clear hnd hr hv h0 hv1
    go_wp2
    go_ret
    exact⟨by rw[H.out];rfl,rfl⟩
theorem K5(A:Option Addr)(n c v i:Nat)(w:World)(hn:n≤9223372036854775807)(hi:i≤9223372036854775807)(hv:v<2^n)(hr:Rd w A n (YQ v)):
  Calls prog 163 #[.slice A n c,.int .i64 (i:Nat)] w fun e w'=>e=.returned (.int .u8 (Ql 2 v i:Nat))∧w=w':=by
 by_cases h:i<n
 ·obtain⟨b,off,rfl,hc⟩:=hr (by omega)
  have hcell:w.cell? ⟨b,off+i,none⟩=some (.int .u8 (Ql 2 v i:Nat)):=hc i h
  clear hc hr hv
  go_enter func163,ntmps163
  go_wp2
  go_ret
  exact⟨rfl,rfl⟩
 ·have H:=Lib.hid (show Ql 2 v i=0 from Yu (by decide) hv (by omega))
  clear hv hr
  go_enter func163,ntmps163
  go_wp2
  go_ret
  exact⟨by rw[H.out];rfl,rfl⟩
theorem Og{d r:Nat}(hd:d<2)(hr:r<8): IntKind.u8.wrap ((d:Int)*2^r)=((d*2^r:Nat):Int):=by
 have h1:2^r≤128:=Nat.pow_le_pow_right (n:=2) (by decide) (show r≤7 by omega)
 have h2:d*2^r≤1*2^r:=Lo _ (by omega)
 refine AY ?_ (by omega)
 rw[T3,Int.natCast_pow];rfl
theorem ZL(A:Option Addr)(n c v:Nat)(w:World)(hn:n≤4294967296)(hnc:n≤c)(hv:v<2^n)(hr:Rd w A n (YQ v)):
  Calls prog 113 #[.slice A n c] w fun e w'=>e=.returned (.string (Qx v))∧Below w.heap.size w w':=by
 have hk:nd 1 v≤n:=QU (by decide) (by rw[Rn];exact hv)
 have c1:=Lib.hid (D4 A n c v w (by omega) hnc hv hr)
 have hr2:=hr.of_le hk
 have hL2:=Kb (k:=1) (by decide) v
 rw[Rn]at hL2
 have h8:=My v
 obtain⟨L,hL⟩:∃L,L=nd 1 v:=⟨_,rfl⟩
 obtain⟨N,hN⟩:∃N,N=nd 8 v:=⟨_,rfl⟩
 rw[← hL]at c1 hr2 h8 hk hL2
 rw[← hN]at h8
 have HL:=Lib.hid (show((L:Int)+7) / 8=(N:Int)by omega)
 have HE:=Lib.hid h8
 have hLle:((L:Int)+7) / 8≤(N:Int):=by omega
 have hLge:(N:Int)≤((L:Int)+7) / 8:=by omega
 have hb2:1*N≤281474976710656:=by omega
 have hb3:N≤9223372036854775807:=by omega
 have HN:=Lib.hid hN
 have HV:=Lib.hid hL2
 clear hN h8 hv hL hL2
 go_enter func113,ntmps113
 go_wp2_with fail
 refine c1.out.mono ?_
 rintro e w' ⟨rfl,rfl⟩
 go_wp2_with (at_make;refine Q1 rfl (.tmp 10) (.tmp 10) _ rfl 5 (.int .u8 0) 1 X7 Kw rfl .i64 .i64 _ _ N rfl rfl HL.out HL.out hb2 hb3 ?_;intro w1 hC hB hlt)
 go_loopw [4] (fun i wr=>∃k:Nat,k≤L∧i=.int .i64 k∧Below w.heap.size w wr∧Cel wr w.heap.size 5 N (fun j=>.int .u8 ((Ql 256 (v % 2^k) (N-1-j):Nat):Int))) (fun i _=>L-(intOf i).toNat)
 case atStart=>exact⟨0,L9 _,rfl,hB,hC.congr fun j hj=>by rw[Sl,Ty,ZV];rfl⟩
 case round =>
  obtain⟨k,hk1,rfl,hB2,hC2⟩:=hrel
  by_cases hlt:k<L
  ·obtain⟨q,hq⟩:∃q,q=k / 8:=⟨_,rfl⟩
   obtain⟨r,hr8⟩:∃r,r=k % 8:=⟨_,rfl⟩
   obtain⟨b,off,rfl,hc⟩:=hr2 (by omega)
   have g1:wr.cell? ⟨b,off+k,none⟩=some (.int .u8 (Ql 2 v k:Nat)):=L7 hB2 (hc k hlt)
   have hqN:q+1≤N:=by have:=HE.out;omega
   obtain⟨D,hD⟩:∃D,D=N-1-q:=⟨_,rfl⟩
   have hDN:D<N:=by omega
   have g2:=hC2.cell (i:=D) hDN
   have g3:=hC2.frozen D
   have hbit:Ql 2 v k<2:=Q8 (by decide) v k
   have e2:(k:Int) / 8=(q:Int):=by omega
   have e2':(k:Int).tdiv 8=(q:Int):=by rw[Int.tdiv_eq_ediv_of_nonneg (by omega)];exact e2
   have e3:(k:Int) % 8=(r:Int):=by omega
   have e3':(k:Int).tmod 8=(r:Int):=by rw[Sn (by omega)];exact e3
   have hr7:r<8:=by omega
   have w1:IntKind.i64.wrap (q:Int)=(q:Int):=Ln _ (by omega)
   have w2:IntKind.i64.wrap (r:Int)=(r:Int):=Ln _ (by omega)
   have w3:IntKind.i64.wrap ((N:Int)-1)=(N:Int)-1:=Ln _ (by omega)
   have w5:(N:Int)-1-q=(D:Int):=by omega
   have w4:IntKind.i64.wrap (D:Int)=(D:Int):=Ln _ (by omega)
   have e5:N-1-D=q:=by omega
   rw[e5]at g2
   have hst:=Wk v k
   have hsh:=Og hbit hr7
   have hs2:IntKind.u8.wrap (((Ql 256 (v % 2^k) q:Nat):Int)+((Ql 2 v k*2^r:Nat):Int))=((Ql 256 (v % 2^(k+1)) q:Nat):Int) :=
    AY (by rw[hst q,if_pos hq,← hr8];omega) (Q8 (by decide) _ _)
   have HQ:=Lib.hid (show k=8*q+r by omega)
   have H3:=Lib.hid (show(((Ql 256 (v % 2^k) q:Nat):Int)+((Ql 2 v k:Nat):Int)*2^r) % 256=((Ql 256 (v % 2^(k+1)) q:Nat):Int)by
    rw[← hs2,T3,Int.natCast_pow];simp[IntKind.wrap,IntKind.signed,IntKind.bits])
   have HS:=Lib.hid hst
   have HQ2:=Lib.hid hq
   have HD:=Lib.hid hD
   have HE5:=Lib.hid e5
   clear hq hr8 hc hst e5 hbit hD
   go_wp2
   go_still_tail 18,(by kernel_rfl)
   change wpList _ _ _ _ _ wr.drew
   have hB3:=hB2.drew
   have hC3:=hC2.drew
   have g13:wr.drew.cell? _=_:=g1
   have g23:wr.drew.cell? _=_:=g2
   have g33:=hC3.frozen D
   clear hB2 hC2 g1 g2 g3
   generalize wr.drew=w9 at *
   go_wp2
   refine⟨⟨k+1,hlt,by go_num,hB3.setCell (L3 _) _,(hC3.set_ D _).congr fun j hj=>?_⟩,by simp[intOf];omega⟩
   by_cases e:j=D
   ·subst e;simp only[if_true];rw[HE5.out];exact R7 _ H3.out
   ·simp only[if_neg e];rw[HS.out,if_neg (by rw[← HQ2.out];have:=HE5.out;omega)]
  ·obtain rfl:k=L:=by omega
   have hC3:=hC2.congr (f':=fun j=>.int .u8 ((Ql 256 v (N-1-j):Nat):Int)) (fun j hj=>by rw[Lz HV.out])
   have hrd:=(hC3.rd (o:=0) (n:=N) (by omega)).congr (f':=fun j=>.int .u8 ((Ql 256 v (N-1-j):Nat):Int)) (fun j hj=>by simp only[Ld])
   have hcv:=Vm (P:=prog) 104 9 5 X7 Tryz.underlying5 Tryz.underlying9 (some ⟨w.heap.size,0,none⟩) N N (fun j=>Ql 256 v (N-1-j)) hrd
   have hn8:(⟨((List.range N).map fun j=>UInt8.ofNat (Ql 256 v (N-1-j))).toArray⟩:ByteArray)=Qx v:=by unfold Qx YA;rw[← HN.out]
   rw[hn8]at hcv
   clear hn8 hrd hC2 hC3
   go_wp2
   go_ret
   exact⟨rfl,hB2⟩
theorem Y9(s:ByteArray): nd 1 (Qa s)≤8*s.size:=by
 refine QU (by decide) ?_
 have:=Vo s
 rw[Rn]
 rwa [show 256=2^8 from rfl,← Sd]at this
theorem MU(v p k:Nat)(hk:k<8): bits .and .u8 (((Ql 256 v p:Nat):Int) / 2^k) 1=((Ql 2 v (8*p+k):Nat):Int):=by
 rw[show(((Ql 256 v p:Nat):Int) / 2^k)=((Ql 256 v p / 2^k:Nat):Int)by rw[U5,Int.natCast_pow];rfl,CE,iv v p k hk]
 exact Lu (Rl _ _) (Q8 (by decide) _ _)
theorem XO(s:ByteArray)(w:World)(hs:s.size≤268435456):
  Calls prog 114 #[.string s] w fun e w'=>∃A c,e=.returned (.slice A (nd 1 (Qa s)) c)∧nd 1 (Qa s)≤c∧Rd w' A (nd 1 (Qa s)) (YQ (Qa s))∧Below w.heap.size w w':=by
 have hix:∀(p:Nat),p<s.size→∀W:World,(Instr.index 9 (.string s) (.int .i64 ((s.size:Int)-1-p))).run prog W=.ok (.int .u8 (Ql 256 (Qa s) p:Nat)) W:=fun p hp W=>by
  rw[Jg s Tryz.underlying9 .i64 _ (s.size-1-p) (by omega) (by omega)]
  unfold Qa
  rw[K9 _ _ (by simpa using hp)]
  rfl
 have hV:Qa s<2^(8*s.size):=by have:=Vo s;rwa [show 256=2^8 from rfl,← Sd]at this
 have HV:=Lib.hid hV
 have HIX:=Lib.hid hix
 clear hV hix
 generalize Qa s=V at *
 go_enter func114,ntmps114
 go_wp2
 go_loopw [3,4] (fun v i wr=>∃p:Nat,p≤s.size∧i=.int .i64 ((s.size:Int)-1-p)∧OwnR wr w.heap.size 5 v (8*p) (YQ V)∧Below w.heap.size w wr) (fun _ i _=>(intOf i+1).toNat)
 case atStart=>exact⟨0,L9 _,by simp,OwnR.nil_ _ _ _ _,Below.refl _ _⟩
 case round =>
  obtain⟨p,hp,rfl,hown,hB⟩:=hrel
  by_cases hlt:p<s.size
  ·have hix:=HIX.out p hlt
   have hle:(p:Int)≤(s.size:Int)-1:=by omega
   have hd:decide ((p:Int)≤(s.size:Int)-1)=true:=Rf hle
   go_wp2
   go_loopw [3,5] (fun v i wr=>∃k:Nat,k≤8∧i=.int .i64 (k:Nat)∧OwnR wr w.heap.size 5 v (8*p+k) (YQ V)∧Below w.heap.size w wr) (fun _ i _=>8-(intOf i).toNat)
   case atStart=>exact⟨0,L9 _,rfl,hown,hB⟩
   case round =>
    obtain⟨k,hk,rfl,hown2,hB2⟩:=hrel
    by_cases hk8:k<8
    ·have hand:=MU V p k hk8
     have h63:8*p+k+1≤9223372036854775807:=by omega
     have hby:(8*p+k+1)*1≤140737488355328:=by omega
     go_wp2_with (at_builtin;refine Gf rfl (.tmp 17) (.tmp 24) _ rfl w.heap.size 5 (.int .u8 0) 1 X7 Kw rfl _ (8*p+k) (YQ V) _ rfl rfl hown2 rfl h63 hby hB2.size ?_;intro v' w' hown3 hB3 hg3)
     refine⟨⟨k+1,hk8,by go_num,hown3.congr fun j hj=>?_,hB2.trans hB3⟩,by simp[intOf];omega⟩
     by_cases e:j=8*p+k
     ·subst e;simp only[if_true];rfl
     ·simp only[if_neg e]
    ·obtain rfl:k=8:=by omega
     go_wp2
     refine⟨⟨p+1,hlt,by rw[Int.natCast_succ];go_num,hown2,hB2⟩,by simp[intOf];omega⟩
  ·obtain rfl:p=s.size:=by omega
   obtain⟨A,c,rfl,hnc,hrd,hfr⟩:=hown.rd
   have hn:nd 1 V≤8*s.size:=QU (by decide) (by rw[Rn];exact HV.out)
   have c1:=Lib.hid (D4 A (8*s.size) c V wr (by omega) hnc HV.out hrd)
   go_wp2_with fail
   refine c1.out.mono ?_
   rintro e w' ⟨rfl,rfl⟩
   go_wp2
   go_ret
   exact⟨A,c,rfl,by omega,hrd.of_le hn,hB⟩
theorem DS(A A':Option Addr)(n n' c c' u v:Nat)(w:World)(hn:n≤4294967296)(hn':n'≤4294967296)(hu:u<2^n)(hv:v<2^n')(hr:Rd w A n (YQ u))(hr':Rd w A' n' (YQ v)):
    Calls prog 138 #[.slice A n c,.slice A' n' c'] w fun e w'=>e=.returned (.int .i64 (YM u v))∧w=w':=by
  obtain⟨K,hK⟩:∃K,K=max n n':=⟨_,rfl⟩
  have hmax:max (n:Int) (n':Int)=(K:Int):=by omega
  have hKb:K≤4294967296:=by omega
  have HU:=Lib.hid (show u<2^K from Lb hu (Le (by decide) (by omega)))
  have HV:=Lib.hid (show v<2^K from Lb hv (Le (by decide) (by omega)))
  have c1:=Lib.hid (fun i (hi:i≤9223372036854775807)=>K5 A n c u i w (by omega) hi hu hr)
  have c2:=Lib.hid (fun i (hi:i≤9223372036854775807)=>K5 A' n' c' v i w (by omega) hi hv hr')
  clear hu hv hr hr' hK
  go_enter func138,ntmps138
  go_wp2
  go_loop [5] (fun i=>∃k:Nat,k≤K∧i=.int .i64 ((k:Int)-1)∧Hid (∀j,k≤j→j<K→Ql 2 u j=Ql 2 v j)) (fun i=>(intOf i+1).toNat)
  case atStart=>exact⟨K,L3 _,rfl,fun j h1 h2=>by omega⟩
  case round =>
    obtain⟨k,hk1,rfl,hz⟩:=hrel
    rcases k with _|p
    · have hfin:=Lib.hid (show YM u v=0 by
        have e:u=v:=Vk (B:=2) (n:=K) HU.out HV.out (fun j hj=>hz.out j (L9 _) hj)
        subst e;unfold YM;simp)
      have e0:((0:Nat):Int)-1=-1:=rfl
      rw[e0]
      go_wp2
      go_ret
      exact⟨by rw[hfin.out];rfl,rfl⟩
    · have e0:((p+1:Nat):Int)-1=(p:Int):=by omega
      rw[e0]
      clear e0
      have d1:=Lib.hid (c1.out p (by omega))
      have d2:=Lib.hid (c2.out p (by omega))
      have HG:=Lib.hid (show(Ql 2 u p<Ql 2 v p→YM u v=-1)∧(Ql 2 v p<Ql 2 u p→YM u v=1)from
        ⟨fun h=>by have:=BA (B:=2) (by decide) HU.out HV.out hk1 (fun j h1 h2=>hz.out j h1 h2) h;unfold YM;rw[if_pos this],
         fun h=>by have:=BA (B:=2) (by decide) HV.out HU.out hk1 (fun j h1 h2=>(hz.out j h1 h2).symm) h;unfold YM;rw[if_neg (by omega),if_neg (by omega)]⟩)
      rcases Nat.lt_trichotomy (Ql 2 u p) (Ql 2 v p)with hd|hd|hd
      · have hd1:((Ql 2 u p:Nat):Int)<((Ql 2 v p:Nat):Int):=by omega
        have hfin:=Lib.hid (HG.out.1 hd)
        clear hd
        go_wp2_with fail
        refine d1.out.mono ?_
        rintro e w' ⟨rfl,rfl⟩
        go_wp2_with fail
        refine d2.out.mono ?_
        rintro e w' ⟨rfl,rfl⟩
        go_wp2
        go_ret
        exact⟨by rw[hfin.out];rfl,rfl⟩
      · have hd1:¬((Ql 2 u p:Nat):Int)<((Ql 2 v p:Nat):Int):=by omega
        have hd2:¬((Ql 2 v p:Nat):Int)<((Ql 2 u p:Nat):Int):=by omega
        have HD:=Lib.hid hd
        clear hd
        go_wp2_with fail
        refine d1.out.mono ?_
        rintro e w' ⟨rfl,rfl⟩
        go_wp2_with fail
        refine d2.out.mono ?_
        rintro e w' ⟨rfl,rfl⟩
        go_wp2_with fail
        refine d1.out.mono ?_
        rintro e w' ⟨rfl,rfl⟩
        go_wp2_with fail
        refine d2.out.mono ?_
        rintro e w' ⟨rfl,rfl⟩
        go_wp2
        refine⟨⟨p,by omega,rfl,fun j h1 h2=>?_⟩,by simp[intOf]⟩
        by_cases e:j=p
        · subst e;exact HD.out
        · exact hz.out j (by omega) h2
      · have hd1:¬((Ql 2 u p:Nat):Int)<((Ql 2 v p:Nat):Int):=by omega
        have hd2:((Ql 2 v p:Nat):Int)<((Ql 2 u p:Nat):Int):=by omega
        have hfin:=Lib.hid (HG.out.2 hd)
        clear hd
        go_wp2_with fail
        refine d1.out.mono ?_
        rintro e w' ⟨rfl,rfl⟩
        go_wp2_with fail
        refine d2.out.mono ?_
        rintro e w' ⟨rfl,rfl⟩
        go_wp2_with fail
        refine d1.out.mono ?_
        rintro e w' ⟨rfl,rfl⟩
        go_wp2_with fail
        refine d2.out.mono ?_
        rintro e w' ⟨rfl,rfl⟩
        go_wp2
        go_ret
        exact⟨by rw[hfin.out];rfl,rfl⟩
theorem V8(m:Nat)(hm:m<256)(x:Int)(hx:x=(m:Int)): bits .and .u8 x 1=((m % 2:Nat):Int):=by
 subst hx;exact CE m hm
theorem Br(A A':Option Addr)(n n' c c' u v up:Nat)(w:World)(hn:n≤4294967296)(hn':n'≤4294967296)(hup:up≤4294967296)(hu:u<2^n)(hv:v<2^n')(hr:Rd w A n (YQ u))(hr':Rd w A' n' (YQ v)):
  Calls prog 164 #[.slice A n c,.slice A' n' c',.int .i64 (up:Nat)] w fun e w'=>∃g N,e=.returned (.slice (some ⟨g,0,none⟩) N N)∧Below w.heap.size w w'∧w.heap.size≤g ∧
   Rd w' (some ⟨g,0,none⟩) N (YQ (u+v*2^up))∧u+v*2^up<2^N∧N=max n (n'+up)+1:=by
 obtain⟨K,hK⟩:∃K,K=max n (n'+up):=⟨_,rfl⟩
 have hmax:max (n:Int) ((n':Int)+(up:Int))=(K:Int):=by omega
 have hKb:K≤8589934592:=by omega
 have hb2:1*(K+1)≤281474976710656:=by omega
 have hb3:K+1≤9223372036854775807:=by omega
 have hfit:u+v*2^up<2^(K+1):=by
  have h1:u<2^K:=Lb hu (Le (by decide) (by omega))
  have h2:v*2^up<2^(n'+up):=by rw[Ll];exact R9 hv (Lq up)
  have h3:2^(n'+up)≤2^K:=Le (by decide) (by omega)
  rw[Lx];omega
 have HF:=Lib.hid hfit
 have HK:=Lib.hid hK
 have HU:=Lib.hid hu
 have HV:=Lib.hid hv
 have hb2':=Lib.hid hb2
 have hb3':=Lib.hid hb3
 have hYd:=Ib v up
 obtain⟨Y,hY⟩:∃Y,Y=v*2^up:=⟨_,rfl⟩
 rw[← hY]at HF hYd ⊢
 have HYD:=Lib.hid hYd
 clear hK hfit hu hv hY hb2 hb3 hYd
 go_enter func164,ntmps164
 go_wp2_with (at_make;refine Q1 rfl (.tmp 18) (.tmp 18) _ rfl 5 (.int .u8 0) 1 X7 Kw rfl .i64 .i64 _ _ (K+1) rfl rfl rfl rfl hb2'.out hb3'.out ?_;intro w1 hC hB hlt)
 go_loopw [8,9] (fun cy i wr=>∃k:Nat,k≤K+1∧i=.int .i64 (k:Nat)∧cy=.int .u8 (Ys 2 u Y k:Nat)∧Below w.heap.size w wr∧Cel wr w.heap.size 5 (K+1) (fun j=>if j<k then YQ (u+Y) j else .int .u8 0)) (fun _ i _=>K+1-(intOf i).toNat)
 case atStart=>exact⟨0,L9 _,rfl,by rw[ED];rfl,hB,hC.congr fun j _=>by rw[if_neg (by omega)]⟩
 case round =>
  obtain⟨k,hk,rfl,rfl,hB2,hC2⟩:=hrel
  by_cases hlt:k<K+1
  ·have d1:=Lib.hid (K5 A n c u k wr (by omega) (by omega) HU.out (hr.below hB2))
   have d2:=Lib.hid (fun(i:Nat) (hi:i≤9223372036854775807)=>K5 A' n' c' v i wr (by omega) hi HV.out (hr'.below hB2))
   have hB3:=Lib.hid hB2
   have g2:wr.cell? ⟨w.heap.size,k,none⟩=some (.int .u8 0):=by rw[hC2.cell (by omega),if_neg (by omega)]
   have g3:=hC2.frozen k
   have hcl:=Lib.hid (Eb (B:=2) (by decide) u Y k)
   have HD:=Lib.hid (Ip (B:=2) (by decide) u Y k)
   have HC:=Lib.hid (CF (B:=2) (by decide) u Y k)
   have hset:=Lib.hid (hC2.set_ k (YQ (u+Y) k))
   have ha:Ql 2 u k<2:=Q8 (by decide) _ _
   have hcy:Ys 2 u Y k<2:=by have:=hcl.out;omega
   by_cases hge:up≤k
   ·obtain⟨m,hm⟩:∃m,k=up+m:=⟨k-up,by omega⟩
    have hyd:=HYD.out k
    rw[if_pos hge,show k-up=m by omega]at hyd
    have hb:Ql 2 v m<2:=Q8 (by decide) _ _
    have hkm:(k:Int)-(up:Int)=(m:Int):=by omega
    have hge':(up:Int)≤(k:Int):=by omega
    have hm2:m≤9223372036854775807:=by omega
    have d3:=Lib.hid (d2.out m hm2)
    have HDD:=HD.out
    have HCC:=HC.out
    rw[hyd]at HDD HCC
    have hand:bits .and .u8 (((Ql 2 u k:Nat):Int)+((Ys 2 u Y k:Nat):Int)+((Ql 2 v m:Nat):Int)) 1=((Ql 2 (u+Y) k:Nat):Int):=by
     rw[HDD,V8 (Ql 2 u k+Ql 2 v m+Ys 2 u Y k) (by omega) _ (by omega)]
    have hsh:(((Ql 2 u k:Nat):Int)+((Ys 2 u Y k:Nat):Int)+((Ql 2 v m:Nat):Int)) / 2=((Ys 2 u Y (k+1):Nat):Int):=by
     rw[HCC];omega
    clear HDD HCC hyd hm hge hC2 hB2
    go_wp2_with fail
    refine d1.out.mono ?_
    rintro e w' ⟨rfl,rfl⟩
    go_wp2_with fail
    refine d3.out.mono ?_
    rintro e w' ⟨rfl,rfl⟩
    go_wp2
    refine⟨⟨k+1,hlt,by go_num,rfl,hB3.out.setCell (L3 _) _,hset.out.congr fun j hj=>?_⟩,by simp[intOf];omega⟩
    by_cases e:j=k
    ·subst e;simp only[if_true];rw[if_pos (by omega)]
    ·simp only[if_neg e]
     by_cases e2:j<k
     ·rw[if_pos e2,if_pos (by omega)]
     ·rw[if_neg e2,if_neg (by omega)]
   ·have hyd:=HYD.out k
    rw[if_neg hge]at hyd
    have hge':¬(up:Int)≤(k:Int):=by omega
    have HDD:=HD.out
    have HCC:=HC.out
    rw[hyd]at HDD HCC
    have hand:bits .and .u8 (((Ql 2 u k:Nat):Int)+((Ys 2 u Y k:Nat):Int)) 1=((Ql 2 (u+Y) k:Nat):Int):=by
     rw[HDD,V8 (Ql 2 u k+0+Ys 2 u Y k) (by omega) _ (by omega)]
    have hsh:(((Ql 2 u k:Nat):Int)+((Ys 2 u Y k:Nat):Int)) / 2=((Ys 2 u Y (k+1):Nat):Int):=by
     rw[HCC];omega
    clear HDD HCC hyd hge hC2 hB2
    go_wp2_with fail
    refine d1.out.mono ?_
    rintro e w' ⟨rfl,rfl⟩
    go_wp2
    refine⟨⟨k+1,hlt,by go_num,rfl,hB3.out.setCell (L3 _) _,hset.out.congr fun j hj=>?_⟩,by simp[intOf];omega⟩
    by_cases e:j=k
    ·subst e;simp only[if_true];rw[if_pos (by omega)]
    ·simp only[if_neg e]
     by_cases e2:j<k
     ·rw[if_pos e2,if_pos (by omega)]
     ·rw[if_neg e2,if_neg (by omega)]
  ·obtain rfl:k=K+1:=by omega
   have hrd:=(hC2.rd (o:=0) (n:=K+1) (by omega)).congr (f':=YQ (u+Y)) (fun j hj=>by simp only[Ld];rw[if_pos hj])
   have HR:=Lib.hid hrd
   clear hrd hC2
   go_wp2
   go_ret
   exact⟨_,_,rfl,hB2,L3 _,HR.out,HF.out,by rw[HK.out]⟩
theorem EA(A A':Option Addr)(n n' c c' u v:Nat)(w:World)(hn:n≤17179869184)(hn':n'≤17179869184)(hu:u<2^n)(hv:v<2^n')(hvu:v≤u)(hr:Rd w A n (YQ u))(hr':Rd w A' n' (YQ v)):
  Calls prog 139 #[.slice A n c,.slice A' n' c'] w fun e w'=>∃g,e=.returned (.slice (some ⟨g,0,none⟩) n n)∧Below w.heap.size w w'∧w.heap.size≤g∧Rd w' (some ⟨g,0,none⟩) n (YQ (u-v)):=by
 have hb2:1*n≤281474976710656:=by omega
 have hb3:n≤9223372036854775807:=by omega
 have HU:=Lib.hid hu
 have HV:=Lib.hid hv
 have HVU:=Lib.hid hvu
 have hb2':=Lib.hid hb2
 have hb3':=Lib.hid hb3
 clear hu hv hb2 hb3 hvu
 go_enter func139,ntmps139
 go_wp2_with (at_make;refine Q1 rfl (.tmp 10) (.tmp 10) _ rfl 5 (.int .u8 0) 1 X7 Kw rfl .i64 .i64 _ _ n rfl rfl rfl rfl hb2'.out hb3'.out ?_;intro w1 hC hB hlt)
 go_loopw [6,7] (fun cy i wr=>∃k:Nat,k≤n∧i=.int .i64 (k:Nat)∧cy=.int .u8 (XZ 2 u v k:Nat)∧Below w.heap.size w wr∧Cel wr w.heap.size 5 n (fun j=>if j<k then YQ (u-v) j else .int .u8 0)) (fun _ i _=>n-(intOf i).toNat)
 case atStart=>exact⟨0,L9 _,rfl,by rw[Aa];rfl,hB,hC.congr fun j _=>by rw[if_neg (by omega)]⟩
 case round =>
  obtain⟨k,hk,rfl,rfl,hB2,hC2⟩:=hrel
  by_cases hlt:k<n
  ·have d1:=Lib.hid (K5 A n c u k wr (by omega) (by omega) HU.out (hr.below hB2))
   have d2:=Lib.hid (K5 A' n' c' v k wr (by omega) (by omega) HV.out (hr'.below hB2))
   have hB3:=Lib.hid hB2
   have g2:wr.cell? ⟨w.heap.size,k,none⟩=some (.int .u8 0):=by rw[hC2.cell (by omega),if_neg (by omega)]
   have g3:=hC2.frozen k
   have hcl:=Lib.hid (Fp 2 u v k)
   have HDD:=Pi (B:=2) (by decide) HVU.out k
   have HCC:=Al (B:=2) (by decide) u v k
   have hset:=Lib.hid (hC2.set_ k (YQ (u-v) k))
   have ha:Ql 2 u k<2:=Q8 (by decide) _ _
   have hb:Ql 2 v k<2:=Q8 (by decide) _ _
   have hcy:XZ 2 u v k<2:=by have:=hcl.out;omega
   obtain⟨q,hq⟩:∃q,q=(2+Ql 2 u k-Ql 2 v k-XZ 2 u v k) / 2:=⟨_,rfl⟩
   have hand:bits .and .u8 (2+((Ql 2 u k:Nat):Int)-((Ql 2 v k:Nat):Int)-((XZ 2 u v k:Nat):Int)) 1=((Ql 2 (u-v) k:Nat):Int):=by
    rw[HDD,V8 (Ql 2 u k+2-Ql 2 v k-XZ 2 u v k) (by omega) _ (by omega)]
   have hsh:(2+((Ql 2 u k:Nat):Int)-((Ql 2 v k:Nat):Int)-((XZ 2 u v k:Nat):Int)) / 2=(q:Int):=by omega
   have hq2:q≤1:=by omega
   have hfin:1-(q:Int)=((XZ 2 u v (k+1):Nat):Int):=by
    rw[HCC];split<;>omega
   clear HDD HCC hC2 hB2 hq
   go_wp2_with fail
   refine d1.out.mono ?_
   rintro e w' ⟨rfl,rfl⟩
   go_wp2_with fail
   refine d2.out.mono ?_
   rintro e w' ⟨rfl,rfl⟩
   go_wp2
   refine⟨⟨k+1,hlt,by go_num,rfl,hB3.out.setCell (L3 _) _,hset.out.congr fun j hj=>?_⟩,by simp[intOf];omega⟩
   by_cases e:j=k
   ·subst e;simp only[if_true];rw[if_pos (by omega)]
   ·simp only[if_neg e]
    by_cases e2:j<k
    ·rw[if_pos e2,if_pos (by omega)]
    ·rw[if_neg e2,if_neg (by omega)]
  ·obtain rfl:k=n:=by omega
   have hrd:=(hC2.rd (o:=0) (n:=k) (by omega)).congr (f':=YQ (u-v)) (fun j hj=>by simp only[Ld];rw[if_pos hj])
   have HR:=Lib.hid hrd
   clear hrd hC2
   go_wp2
   go_ret
   exact⟨_,rfl,hB2,L3 _,HR.out⟩
theorem UH{w:World}{base n v:Nat}{val:Value}(h:OwnR w base 5 val n (YQ v))(hn:n≤4294967296)(hv:v<2^n):
  Calls prog 113 #[val] w fun e w'=>e=.returned (.string (Qx v))∧Below w.heap.size w w':=by
 obtain⟨A,c,rfl,hnc,hrd,_⟩:=h.rd
 exact ZL A n c v w hn hnc hv hrd
theorem fL(v:Nat)(w:World)(hv:v<LB):
  Calls prog 85 #[.int .u64 (v:Nat)] w fun e w'=>e=.returned (.string (Qx v))∧Below w.heap.size w w':=by
 have HV:=Lib.hid hv
 clear hv
 go_enter func85,ntmps85
 go_wp2
 go_loopw [0,3] (fun i r wr=>∃k x:Nat,k≤64∧i=.int .u64 (x:Nat)∧Hid (x=v / 2^k)∧OwnR wr w.heap.size 5 r k (YQ v)∧Below w.heap.size w wr) (fun i _ _=>(intOf i).toNat)
 case atStart=>exact⟨0,v,L9 _,rfl,by show v=v / 2^0;simp,OwnR.nil_ _ _ _ _,Below.refl _ _⟩
 case round =>
  obtain⟨k,x,hk,rfl,hx,hown,hB⟩:=hrel
  have hxb:(x:Int)<18446744073709551616:=by
   have h1:=HV.out
   have h2:=Rl v (2^k)
   rw[← hx.out]at h2
   rw[YW]at h1
   omega
  by_cases hx0:x=0
  ·subst hx0
   have hlt:v<2^k:=by
    have h2:=hx.out
    have:=S8 v (2^k)
    rw[← h2,Nat.mul_zero,Ld]at this
    have h3:=Ly v (Lq k)
    omega
   have c1:=Lib.hid (UH hown (by omega) hlt)
   clear hlt
   go_wp2_with fail
   refine c1.out.mono ?_
   rintro e w' ⟨rfl,hb⟩
   go_wp2
   go_ret
   exact⟨rfl,Qj hB hb hB.size⟩
  ·have hk64:k<64:=by
    refine Tr fun h=>hx0 ?_
    rw[hx.out]
    exact Rz (Lb HV.out (by rw[Xn];exact Le (by decide) h))
   have hpos:(0:Int)<(x:Int):=by omega
   have hd:((x:Int) % 2)=((Ql 2 v k:Nat):Int):=by
    have:Ql 2 v k=x % 2:=by rw[hx.out];rfl
    omega
   have hdb:Ql 2 v k<2:=Q8 (by decide) _ _
   have hmod:(x:Int).tmod 2=((Ql 2 v k:Nat):Int):=by rw[Sn (by omega)];exact hd
   have h63:k+1≤9223372036854775807:=by omega
   have hby:(k+1)*1≤140737488355328:=by omega
   obtain⟨y,hy⟩:∃y,y=x / 2:=⟨_,rfl⟩
   have hy1:(x:Int) / 2=(y:Int):=by omega
   have hy2:(x:Int).tdiv 2=(y:Int):=by rw[Int.tdiv_eq_ediv_of_nonneg (by omega)];exact hy1
   have w1:IntKind.u64.wrap (y:Int)=(y:Int):=by rw[IntKind.wrap_u64];omega
   have w2:IntKind.u64.wrap ((Ql 2 v k:Nat):Int)=((Ql 2 v k:Nat):Int):=by rw[IntKind.wrap_u64];omega
   have w3:IntKind.u8.wrap ((Ql 2 v k:Nat):Int)=((Ql 2 v k:Nat):Int):=AY rfl (by omega)
   have HY:=Lib.hid hy
   have HX:=Lib.hid hx0
   clear hy hxb
   clear hx0
   go_wp2_with (at_builtin;refine Gf rfl (.tmp 8) (.tmp 12) _ rfl w.heap.size 5 (.int .u8 0) 1 X7 Kw rfl _ k (YQ v) _ rfl rfl hown rfl h63 hby hB.size ?_;intro v' w' hown3 hB3 hg3)
   refine⟨⟨k+1,y,hk64,by go_num,?_,hown3.congr fun j hj=>?_,hB.trans hB3⟩,?_⟩
   ·show y=v / 2^(k+1)
    rw[HY.out,hx.out,Lx,R4]
   ·by_cases e:j=k
    ·subst e;simp only[if_true];rfl
    ·simp only[if_neg e]
   ·have:=HX.out;have:=HY.out;simp[intOf];omega
theorem eN(s:ByteArray)(w:World)(hs:s.size≤268435456):
  Calls prog 133 #[.string s] w fun e w'=>e=.returned (.int .i64 (nd 1 (Qa s):Nat))∧Below w.heap.size w w':=by
 go_enter func133,ntmps133
 go_wp2_with fail
 refine(XO s w hs).mono ?_
 rintro e w1 ⟨A,c,rfl,hnc,hr,hb⟩
 go_wp2
 go_ret
 exact⟨rfl,hb⟩
theorem WA(s t:ByteArray)(w:World)(hs:s.size≤268435456)(ht:t.size≤268435456):
  Calls prog 165 #[.string s,.string t] w fun e w'=>e=.returned (.int .i64 (YM (Qa s) (Qa t)))∧Below w.heap.size w w':=by
 have b1:nd 1 (Qa s)≤4294967296:=by have:=Y9 s;omega
 have b2:nd 1 (Qa t)≤4294967296:=by have:=Y9 t;omega
 have B1:=Lib.hid b1
 have B2:=Lib.hid b2
 have l1:=Lib.hid (Kb (k:=1) (by decide) (Qa s))
 have l2:=Lib.hid (Kb (k:=1) (by decide) (Qa t))
 clear b1 b2
 go_enter func165,ntmps165
 go_wp2_with fail
 refine(XO s w hs).mono ?_
 rintro e w1 ⟨A,c,rfl,hnc,hr,hb⟩
 go_wp2_with fail
 refine(XO t w1 ht).mono ?_
 rintro e w2 ⟨A',c',rfl,hnc',hr',hb'⟩
 go_wp2_with fail
 refine(DS A A' _ _ c c' _ _ w2 B1.out B2.out (by have:=l1.out;rwa [Rn]at this) (by have:=l2.out;rwa [Rn]at this) (hr.below hb') hr').mono ?_
 rintro e w3 ⟨rfl,rfl⟩
 go_wp2
 go_ret
 exact⟨rfl,Qj hb hb' hb.size⟩
theorem ZX(v:Nat): v<2^nd 1 v:=by have:=Kb (k:=1) (by decide) v;rwa [Rn]at this
theorem DI(s t:ByteArray)(w:World)(hs:s.size≤268435456)(ht:t.size≤268435456):
  Calls prog 141 #[.string s,.string t] w fun e w'=>e=.returned (if Qa s<Qa t then .tuple #[.string ⟨#[]⟩,.bool false]else .tuple #[.string (Qx (Qa s-Qa t)),.bool true])∧Below w.heap.size w w':=by
 have B1:=Lib.hid (show nd 1 (Qa s)≤4294967296 by have:=Y9 s;omega)
 have B2:=Lib.hid (show nd 1 (Qa t)≤4294967296 by have:=Y9 t;omega)
 have l1:=Lib.hid (ZX (Qa s))
 have l2:=Lib.hid (ZX (Qa t))
 have cs:=Lib.hid (fun W=>XO s W hs)
 have ct:=Lib.hid (fun W=>XO t W ht)
 have cc:=Lib.hid (WA s t w hs ht)
 generalize Qa s=u at *
 generalize Qa t=v at *
 by_cases hlt:u<v
 ·have h1:YM u v<0:=cmpI_lt.2 hlt
  simp only[if_pos hlt]
  clear hlt
  go_enter func141,ntmps141
  go_wp2_with fail
  refine cc.out.mono ?_
  rintro e w1 ⟨rfl,hb⟩
  go_wp2
  go_ret2
  exact⟨rfl,hb⟩
 ·have h1:¬ YM u v<0:=fun h=>hlt (cmpI_lt.1 h)
  have h2:=Lib.hid (show v≤u by omega)
  simp only[if_neg hlt]
  clear hlt
  go_enter func141,ntmps141
  go_wp2_with fail
  refine cc.out.mono ?_
  rintro e w1 ⟨rfl,hb⟩
  go_wp2_with fail
  refine(cs.out w1).mono ?_
  rintro e w2 ⟨A,c,rfl,hnc,hr,hb2⟩
  go_wp2_with fail
  refine(ct.out w2).mono ?_
  rintro e w3 ⟨A',c',rfl,hnc',hr',hb3⟩
  have hB2:=Qj hb hb2 hb.size
  have hB3:=Qj hB2 hb3 hB2.size
  go_wp2_with fail
  refine(EA A A' _ _ c c' _ _ w3 (by have:=B1.out;omega) (by have:=B2.out;omega) l1.out l2.out h2.out (hr.below hb3) hr').mono ?_
  rintro e w4 ⟨g,rfl,hb4,hg,hr4⟩
  have hB4:=Qj hB3 hb4 hB3.size
  go_wp2_with fail
  refine(ZL _ _ _ _ w4 B1.out (L3 _) (Lu (U6 _ _) l1.out) hr4).mono ?_
  rintro e w5 ⟨rfl,hb5⟩
  go_wp2
  go_ret2
  exact⟨rfl,Qj hB4 hb5 hB4.size⟩
