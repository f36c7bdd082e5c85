/- The walks and plain laws beneath the statements. -/
import Derived.Test.YtaelfkdjlioegaaGreatDoorQG8
import Derived.Deep.RegionHeld3
namespace Go.Proofs.YtaelfkdjlioegaaGreatDoor
open Tryz
set_option maxHeartbeats 4000000
set_option maxRecDepth 100000
open Go.RowKit
theorem gv(A:Option Addr)(c v sh:Nat)(w:World)(hn:nd 64 v≤4294967296)(hnc:nd 64 v≤c)(hsh:sh≤9223372036854775807)(hr:Rd w A (nd 64 v) (QQ v)):
  Calls prog 170 #[.slice A (nd 64 v) c,.int .i64 (sh:Nat)] w fun e w'=>∃A' c',e=.returned (.slice A' (nd 64 (v / 2^sh)) c')∧nd 64 (v / 2^sh)≤c'∧Below w.heap.size w w'∧Rd w' A' (nd 64 (v / 2^sh)) (QQ (v / 2^sh)):=by
 by_cases h:sh / 64<nd 64 v
 ·exact(F0 A _ c v sh w hn hnc hsh h (X8 v) hr).mono fun e w' ⟨g,N,he,_,hb,hC,_,hN⟩=>⟨_,N,he,hN,hb,Cel.rd0 hC hN⟩
 ·refine(Me A _ c v sh w hn hsh (Se h)).mono fun e w' ⟨he,hw⟩=>?_
  subst hw
  rw[D8 (X8 v) (Se h),Gk]
  exact⟨none,0,he,L9 _,Below.refl _ _,Rd.nil_⟩
theorem RX(s t:ByteArray)(w:World)(hs:s.size≤4294967296)(ht:t.size≤4294967296)(h0:Qa t=0):
  Calls prog 175 #[.string s,.string t] w fun e w'=>e=.returned (.tuple #[.string ⟨#[]⟩,.string ⟨#[]⟩,.bool false])∧Below w.heap.size w w':=by
 have e0:(((nd 64 (Qa t):Nat):Int)==0)=true:=by rw[h0];rfl
 clear h0
 go_enter func175,ntmps175
 go_wp2_with fail
 refine(ZY s w hs).mono ?_
 rintro e w1 ⟨g,N,rfl,hg,hb,hC,h1,h2,hr⟩
 go_wp2_with fail
 refine(ZY t w1 ht).mono ?_
 rintro e w2 ⟨g',N',rfl,hg',hb',hC',h1',h2',hr'⟩
 go_wp2
 go_ret3
 exact⟨rfl,Qj hb hb' hb.size⟩
theorem OI(s t:ByteArray)(w:World)(hs:s.size≤4294967296)(ht:t.size≤4294967296)(h0:Qa s<Qa t):
  Calls prog 175 #[.string s,.string t] w fun e w'=>e=.returned (.tuple #[.string ⟨#[]⟩,.string (Qx (Qa s)),.bool true])∧Below w.heap.size w w':=by
 have e0:(((nd 64 (Qa t):Nat):Int)==0)=false:=by
  have:=Y8 (k:=64) (v:=Qa t) (by omega)
  exact R6.2 (by omega)
 have hc:=cmpI_lt.2 h0
 clear h0
 go_enter func175,ntmps175
 go_wp2_with fail
 refine(ZY s w hs).mono ?_
 rintro e w1 ⟨g,N,rfl,hg,hb,hC,h1,h2,hr⟩
 go_wp2_with fail
 refine(ZY t w1 ht).mono ?_
 rintro e w2 ⟨g',N',rfl,hg',hb',hC',h1',h2',hr'⟩
 go_wp2_with fail
 refine(Cw _ _ _ _ _ _ _ (by omega) (by omega) h1 h1' (hr.below hb') hr').mono ?_
 rintro e w3 ⟨rfl,k,rfl⟩
 go_wp2_with fail
 refine(Gp _ _ _ _ (by omega) h1 ((hr.below hb').drewN k)).mono ?_
 rintro e w4 ⟨rfl,hb4⟩
 go_wp2
 go_ret3
 have h5:=YO (Qj hb hb' hb.size) k
 exact⟨rfl,Qj h5 hb4 h5.size⟩
theorem eH(s t:ByteArray)(w:World)(hs:s.size≤4294967296)(ht:t.size≤4294967296)(h0:0<Qa t)(hle:Qa t≤Qa s):
  Calls prog 175 #[.string s,.string t] w fun e w'=>e=.returned (.tuple #[.string (Qx (Qa s / Qa t)),.string (Qx (Qa s % Qa t)),.bool true])∧Below w.heap.size w w':=by
 have hn1:nd 64 (Qa s)≤536870912:=by have:=KD s;omega
 have hn2:nd 64 (Qa t)≤nd 64 (Qa s):=JS (by decide) hle
 have hn3:=Y8 (k:=64) (v:=Qa t) (by omega)
 have e0:(((nd 64 (Qa t):Nat):Int)==0)=false:=R6.2 (by omega)
 have hc:¬ YM (Qa s) (Qa t)<0:=fun h=>by have:=cmpI_lt.1 h;omega
 obtain⟨f1,f2,f3,f4⟩:=OX (v:=Qa t) (by omega)
 have hdl:((Ql LB (Qa t) (nd 64 (Qa t)-1):Nat):Int)≤18446744073709551615:=by
  have h:Ql LB (Qa t) (nd 64 (Qa t)-1)<18446744073709551616:=Q8 Qu _ _
  omega
 have hlz:=fun W=>Tryz.bits_LeadingZeros64 (Ql LB (Qa t) (nd 64 (Qa t)-1)) W (by omega) hdl
 obtain⟨sh,hsh⟩:∃sh,sh=64-nd 1 (Ql LB (Qa t) (nd 64 (Qa t)-1)):=⟨_,rfl⟩
 have hsh63:sh≤63:=by omega
 have hsi:(64-(Lib.bitLen ((Ql LB (Qa t) (nd 64 (Qa t)-1):Nat):Int).toNat:Int))=(sh:Int):=by
  rw[Ro,BF _ (Q8 Qu _ _)];omega
 rw[hsi]at hlz
 rw[← hsh]at f3 f4
 have HLZ:=Lib.hid hlz
 have HF:=Lib.hid (show LB^(nd 64 (Qa t)-1)*9223372036854775808≤Qa t*2^sh∧Qa t*2^sh<LB^nd 64 (Qa t)from⟨f3,f4⟩)
 have HLE:=Lib.hid hle
 have H0:=Lib.hid h0
 clear hlz hsi hsh f1 f2 f3 f4 hle h0 hdl
 go_enter func175,ntmps175
 go_wp2_with fail
 refine(ZY s w hs).mono ?_
 rintro e w1 ⟨g,N,rfl,hg,hb,hC,h1,h2,hr⟩
 go_wp2_with fail
 refine(ZY t w1 ht).mono ?_
 rintro e w2 ⟨g',N',rfl,hg',hb',hC',h1',h2',hr'⟩
 have hb2:=Qj hb hb' hb.size
 have hr2:=hr.below hb'
 clear hr hb' hb
 go_wp2_with fail
 refine(Cw _ _ _ _ _ _ _ (by omega) (by omega) h1 h1' hr2 hr').mono ?_
 rintro e w3 ⟨rfl,k,rfl⟩
 have hb3:=YO hb2 k
 have hr3:=hr2.drewN k
 have hr3':=hr'.drewN k
 clear hb2 hr2 hr' hC hC'
 generalize w2.drewN k=w3 at *
 have g1:w3.cell? ⟨g',nd 64 (Qa t)-1,none⟩=some (.int .u64 (Ql LB (Qa t) (nd 64 (Qa t)-1):Nat)):=by
  obtain⟨b,off,e,hcc⟩:=hr3' hn3
  injection e with e
  injection e with e1 e2
  have:=hcc (nd 64 (Qa t)-1) (by omega)
  rw[← e1,← e2,Ld]at this
  exact this
 go_wp2_with fail
 refine(HLZ.out _).mono ?_
 rintro e w4 ⟨rfl,rfl⟩
 go_wp2_with fail
 refine(Om _ _ _ (Qa s) sh _ (by omega) h1 (by omega) (X8 _) hr3).mono ?_
 rintro e w5 ⟨g5,N5,rfl,hg5,hb5,hC5,hN5⟩
 have hlt5:Qa s*2^sh<LB^(nd 64 (Qa s)+1):=by have:=dJ (Qa s) sh;rwa [show sh / 64=0 by omega]at this
 have hnd5:=CL hlt5
 have hN5':nd 64 (Qa s*2^sh)≤N5:=by omega
 have hcp:=Lib.hid (Da (some ⟨g5,0,none⟩) (nd 64 (Qa s*2^sh)) N5 (Qa s*2^sh) ((nd 64 (Qa s):Int)+2) (nd 64 (Qa s)+2) w5 (by omega) hN5' (by omega) (by omega) (by omega) (X8 _) (Cel.rd0 hC5 hN5'))
 have H5:=Lib.hid hlt5
 clear hlt5 hN5 hC5
 go_wp2_with fail
 refine hcp.out.mono ?_
 rintro e w6 ⟨g6,rfl,hg6,hb6,hC6⟩
 have hb36:=Qj hb5 hb6 hb5.size
 have hr6:=hr3'.below hb36
 go_wp2_with fail
 refine(Om _ _ _ (Qa t) sh _ (by omega) h1' (by omega) (X8 _) hr6).mono ?_
 rintro e w7 ⟨g7,N7,rfl,hg7,hb7,hC7,hN7⟩
 have hnb:nd 64 (Qa t*2^sh)=nd 64 (Qa t):=FK (k:=64) (by decide) HF.out.2 (fun _=>L8 (S5 _ (by decide)) HF.out.1)
 have hN7':nd 64 (Qa t)≤N7:=by omega
 have hY0:0<Qa t*2^sh:=Ub H0.out (Lq _)
 rw[hnb]
 have hC67:=hC6.bel hb7
 have hg67:g6<g7:=by have:=hC6.lt;omega
 have hbw7:=Qj (Qj hb3 hb36 hb3.size) hb7 (L8 hb3.size hb36.size)
 have hY0':=Lib.hid hY0
 have hw6:w.heap.size≤g6:=L8 hb3.size (L8 hb5.size hg6)
 obtain⟨U,hU⟩:∃U,U=Qa s*2^sh:=⟨_,rfl⟩
 obtain⟨Y,hY⟩:∃Y,Y=Qa t*2^sh:=⟨_,rfl⟩
 obtain⟨nx,hnx⟩:∃nx,nx=nd 64 (Qa s):=⟨_,rfl⟩
 obtain⟨nb,hnbb⟩:∃nb,nb=nd 64 (Qa t):=⟨_,rfl⟩
 rw[← hU]at hC67 H5
 rw[← hY]at hC7 HF hY0'
 rw[← hnx]at hC67 H5 hn1 hn2 ⊢
 rw[← hnbb]at HF hN7' hn2 hn3 ⊢
 have HU:=Lib.hid hU
 have HY:=Lib.hid hY
 clear hU hY hnx hnbb hnb hY0 hC6 hb7 hb5 hb6 hb3 hb36 hN5' hnd5 hN7 h1 h2 h1' h2' hcp hr3 hr3' hr6 g1 HLZ hc e0
 go_upto_region 8 with fail
 have hbox0:(w7.alloc (.cells #[.slice (some ⟨g6,0,none⟩) (nx+2) (nx+2),.slice (some ⟨g7,0,none⟩) nb N7] 204)).cell? ⟨w7.heap.size,0,none⟩=some (.slice (some ⟨g6,0,none⟩) (nx+2) (nx+2)):=by
  rw[World.cell?_alloc_at _ _ _ _ rfl];rfl
 have hbox1:(w7.alloc (.cells #[.slice (some ⟨g6,0,none⟩) (nx+2) (nx+2),.slice (some ⟨g7,0,none⟩) nb N7] 204)).cell? ⟨w7.heap.size,1,none⟩=some (.slice (some ⟨g7,0,none⟩) nb N7):=by
  rw[World.cell?_alloc_at _ _ _ _ rfl];rfl
 have hC8:=hC67.alloc (.cells #[.slice (some ⟨g6,0,none⟩) (nx+2) (nx+2),.slice (some ⟨g7,0,none⟩) nb N7] 204)
 have hC87:=hC7.alloc (.cells #[.slice (some ⟨g6,0,none⟩) (nx+2) (nx+2),.slice (some ⟨g7,0,none⟩) nb N7] 204)
 have hb8:=hbw7.alloc hbw7.size (.cells #[.slice (some ⟨g6,0,none⟩) (nx+2) (nx+2),.slice (some ⟨g7,0,none⟩) nb N7] 204)
 have hl8:w7.heap.size<(w7.alloc (.cells #[.slice (some ⟨g6,0,none⟩) (nx+2) (nx+2),.slice (some ⟨g7,0,none⟩) nb N7] 204)).heap.size:=by simp
 have hl7:=hC7.lt
 have hl6:=hC67.lt
 have hwl7:=hbw7.size
 clear hC67 hC7 hbw7
 generalize w7.alloc (.cells #[.slice (some ⟨g6,0,none⟩) (nx+2) (nx+2),.slice (some ⟨g7,0,none⟩) nb N7] 204)=w8 at *
 obtain⟨L,hL⟩:∃L,nx+2=nb+L:=⟨nx+2-nb,by omega⟩
 have hLi:(nx:Int)+2-(nb:Int)=(L:Int):=by omega
 have hb2:8*L≤281474976710656:=by omega
 have hb3:L≤9223372036854775807:=by omega
 have hLi':=Lib.hid hLi
 have hLn:L≤nx+2:=by omega
 have hw8:=hb8.size
 have HL:=Lib.hid hL
 clear hL hLi
 go_wp2_with (at_make;refine Q1 rfl (.tmp 52) (.tmp 52) _ rfl 119 (.int .u64 0) 8 YJ Kf rfl .i64 .i64 _ _ L rfl rfl hLi'.out hLi'.out hb2 hb3 ?_;intro w9 hC9 hB9 hlt9)
 have hb9:=Qj hb8 hB9 hb8.size
 have hY00:0<Y:=hY0'.out
 have hUlt:U<Y*LB^L:=by
  refine Lb H5.out ?_
  refine L8 ?_ (Lo _ HF.out.1)
  rw[Lw,Lh 9223372036854775808,← Lw,← Ll]
  have:=HL.out
  rw[show nb-1+L=nx+1 by omega]
  exact S5 _ (by decide)
 have HUL:=Lib.hid hUlt
 clear hUlt hY00
 go_loopw [12] (fun i wr=>∃k:Nat,k≤L∧i=.int .i64 ((k:Int)-1)∧Below w.heap.size w wr∧Cel wr g6 119 (nx+2) (QQ (U % (Y*LB^k)))∧Cel wr w8.heap.size 119 L (fun j=>if k≤j then QQ (U / Y) j else QQ 0 j) ∧
   Rd wr (some ⟨g7,0,none⟩) nb (QQ Y)∧wr.cell? ⟨w7.heap.size,0,none⟩=some (.slice (some ⟨g6,0,none⟩) (nx+2) (nx+2))∧wr.cell? ⟨w7.heap.size,1,none⟩=some (.slice (some ⟨g7,0,none⟩) nb N7)) (fun i _=>(intOf i+1).toNat)
 case atStart =>
  refine⟨L,L3 _,rfl,hb9,?_,?_,Cel.rd0 (hC87.bel hB9) hN7',(hB9.cell (p:=⟨w7.heap.size,0,none⟩) hl8).trans hbox0,(hB9.cell (p:=⟨w7.heap.size,1,none⟩) hl8).trans hbox1⟩
  ·rw[Lz HUL.out];exact hC8.bel hB9
  ·exact hC9.congr fun j hj=>by rw[if_neg (by omega)];unfold QQ;rw[ZV];rfl
 case round =>
  obtain⟨k,hk,rfl,hBr,hCr,hCo,hRr,hx0,hx1⟩:=hrel
  rcases k with _|p
  ·have e0:((0:Nat):Int)-1=-1:=rfl
   rw[e0]
   clear e0
   rw[Sl,Si]at hCr
   have hCo2:=hCo.congr (f':=QQ (U / Y)) (fun j _=>by rw[if_pos (L9 _)])
   clear hCo
   have hUY:U / Y=Qa s / Qa t:=by rw[HU.out,HY.out,Nat.mul_div_mul_right _ _ (Lq sh)]
   have hUM:U % Y / 2^sh=Qa s % Qa t:=by rw[HU.out,HY.out,Nat.mul_mod_mul_right,Nat.mul_div_cancel _ (Lq sh)]
   have hQl:U / Y<LB^L:=by rw[Li hY0'.out,Lh];exact HUL.out
   have hRl:U % Y<LB^(nx+2):=by
    refine Lb (Ly _ hY0'.out) (L8 (T6 HF.out.2) (Le Qu (by omega)))
   have hndR:=CL hRl
   have c1:=Lib.hid (fun W (h:Rd W (some ⟨w8.heap.size,0,none⟩) L (QQ (U / Y)))=>V0 (some ⟨w8.heap.size,0,none⟩) L L (U / Y) W (by omega) (L3 _) hQl h)
   have c2:=Lib.hid (fun W (h:Rd W (some ⟨g6,0,none⟩) (nx+2) (QQ (U % Y)))=>ZU (some ⟨g6,0,none⟩) (nx+2) (nx+2) (U % Y) W (by omega) (L3 _) hRl h)
   have c3:=Lib.hid (fun W (h:Rd W (some ⟨g6,0,none⟩) (nd 64 (U % Y)) (QQ (U % Y)))=>gv (some ⟨g6,0,none⟩) (nx+2) (U % Y) sh W (by omega) hndR (by omega) h)
   have c4:=Lib.hid (fun W A c (h1:nd 64 (U % Y / 2^sh)≤c) (h:Rd W A (nd 64 (U % Y / 2^sh)) (QQ (U % Y / 2^sh)))=>Gp A c (U % Y / 2^sh) W (L8 (JS (by decide) (Rl _ _)) (L8 hndR (by omega))) h1 h)
   have HUY:=Lib.hid hUY
   have HUM:=Lib.hid hUM
   have hro:Rd wr.drew (some ⟨w8.heap.size,0,none⟩) L (QQ (U / Y)):=(Cel.rd0 hCo2 (L3 _)).drew
   have hrr:Rd wr.drew (some ⟨g6,0,none⟩) (nx+2) (QQ (U % Y)):=(Cel.rd0 hCr (L3 _)).drew
   have hbxl:w7.heap.size<wr.drew.heap.size:=Ky hx0
   have hxd:wr.drew.cell? ⟨w7.heap.size,0,none⟩=some (.slice (some ⟨g6,0,none⟩) (nx+2) (nx+2)):=hx0
   have hBd:=hBr.drew
   clear hUY hUM hQl hRl hCo2 hCr
   go_wp2_with fail
   go_region_held3 (fun w'=>w'.cell? ⟨w7.heap.size,0,none⟩=some (.slice (some ⟨g6,0,none⟩) (nx+2) (nx+2)))
    (first
     | go_keep
     | exact hk1
     | exact hk3
     | exact hk4)
    (first
     | (go_at_call_of 168 (Value.slice (some ⟨w8.heap.size,0,none⟩) L L);refine(c1.out _ hro).mono ?_;rintro e wt ⟨rfl,hbt⟩;have hk1:=(hbt.cell (p:=⟨w7.heap.size,0,none⟩) hbxl).trans hxd)
     | (go_at_call 166;refine(c2.out _ (hrr.below hbt)).mono ?_;rintro e w' ⟨rfl,rfl⟩)
     | (go_at_call 170;refine(c3.out _ ((hrr.below hbt).of_le hndR)).mono ?_;rintro e wd ⟨Ad,cd,rfl,hcd,hbd,hrd⟩;have hk3:=(hbd.cell (p:=⟨w7.heap.size,0,none⟩) (Lb hbxl hbt.size)).trans hk1)
     | (go_at_call 168;refine(c4.out _ Ad cd hcd hrd).mono ?_;rintro e we ⟨rfl,hbe⟩;have hk4:=(hbe.cell (p:=⟨w7.heap.size,0,none⟩) (Lb hbxl (L8 hbt.size hbd.size))).trans hk3))
   go_wp2
   go_ret3
   have hb1:=Qj hBd hbt hBd.size
   have hb2:=Qj hb1 hbd hb1.size
   exact⟨by rw[← HUY.out,← HUM.out];rfl,Qj hb2 hbe hb2.size⟩
  ·have e0:((p+1:Nat):Int)-1=(p:Int):=by omega
   rw[e0]
   clear e0
   have hpL:=HL.out
   have hdg:=Lib.hid (SK (some ⟨g7,0,none⟩) g6 (nx+2) (nx+2) nb N7 (nx+2) (U % (Y*LB^(p+1))) Y p wr (by omega) (L3 _) (L3 _) hn3 (by omega)
    (Ly _ (Ub hY0'.out (Rq Qu))) HF.out.1 HF.out.2 hCr hRr (Off.some_ (by omega)))
   clear hpL
   go_wp2_with fail
   refine hdg.out.mono ?_
   rintro e w10 ⟨rfl,hg10,hC10⟩
   rw[BT]at hC10
   rw[Wi]at hC10
   rw[BT]
   have hbr10:=YC hBr hg10 hBr.size hw6
   have hCo10:=hCo.grown hg10 (by intro h;injection h with h;omega)
   have hRr10:=hRr.grown hg10 (Off.some_ (by omega))
   have hx010:w10.cell? ⟨w7.heap.size,0,none⟩=some (.slice (some ⟨g6,0,none⟩) (nx+2) (nx+2)):=(World.cell?_of_block (a:=⟨w7.heap.size,0,none⟩) (hg10.block _ (Ky hx0) (by intro h;simp at h;omega))).trans hx0
   have hx110:w10.cell? ⟨w7.heap.size,1,none⟩=some (.slice (some ⟨g7,0,none⟩) nb N7):=(World.cell?_of_block (a:=⟨w7.heap.size,1,none⟩) (hg10.block _ (Ky hx1) (by intro h;simp at h;omega))).trans hx1
   have hcell10:=hCo10.cell (i:=p) (by omega)
   rw[if_neg (by omega)]at hcell10
   unfold QQ at hcell10
   have hfz10:=hCo10.frozen p
   have hp1:p<L:=by omega
   clear hBr hCr hCo hRr hx0 hx1
   go_wp2
   refine⟨⟨p,by omega,rfl,hbr10.setCell (show w.heap.size≤w8.heap.size from hw8) _,hC10.far (show g6≠w8.heap.size by omega) _,(hCo10.set_ p _).congr fun j hj=>?_,hRr10.keep (fun q hq ha=>?_),?_,?_⟩,by simp[intOf]⟩
   ·by_cases e:j=p
    ·subst e;rw[if_pos rfl,if_pos (by omega)];rfl
    ·rw[if_neg e]
     by_cases e2:p+1≤j
     ·rw[if_pos e2,if_pos (by omega)]
     ·rw[if_neg e2,if_neg (by omega)]
   ·have:=ha _ rfl
    exact World.cell?_setCell_other _ _ _ _ (fun e=>by rw[← e]at this;simp at this;omega)
   ·exact(World.cell?_setCell_other _ _ _ _ (fun e=>by injection e with e1;omega)).trans hx010
   ·exact(World.cell?_setCell_other _ _ _ _ (fun e=>by injection e with e1;omega)).trans hx110
theorem Mw(s t:ByteArray)(w:World)(hs:s.size≤4294967296)(ht:t.size≤4294967296):
  Calls prog 175 #[.string s,.string t] w fun e w'=>e=.returned (if Qa t=0 then .tuple #[.string ⟨#[]⟩,.string ⟨#[]⟩,.bool false]else .tuple #[.string (Qx (Qa s / Qa t)),.string (Qx (Qa s % Qa t)),.bool true])∧Below w.heap.size w w':=by
 by_cases h0:Qa t=0
 ·rw[if_pos h0];exact RX s t w hs ht h0
 ·rw[if_neg h0]
  by_cases h1:Qa s<Qa t
  ·rw[Rz h1,Lz h1];exact OI s t w hs ht h1
  ·exact eH s t w hs ht (by omega) (by omega)
